import Derived.Test.YtlkidecpmfhheaaGreatY2
set_option linter.all false
namespace Go.Proofs.YtlkidecpmfhheaaGreat
open Go.Vx
theorem hstep_lt (h : Nat) (b : UInt8) : hstep h b < 4294967296 := by unfold hstep; exact Nat.mod_lt _ (by decide)
theorem hash_lt (l : List UInt8) : ∀ h : Nat, h < 4294967296 → l.foldl hstep h < 4294967296 := by
 induction l with
 | nil => intro h hh; exact hh
 | cons b l ih => intro h _; rw [List.foldl_cons]; exact ih _ (hstep_lt h b)
theorem foldl_take' {α : Type} (f : Nat → α → Nat) (z : α) {l : List α} {i : Nat} (hi : i < l.length) (h : Nat) : (l.take (i + 1)).foldl f h = f ((l.take i).foldl f h) (l[i]?.getD z) := by
 rw [List.take_add_one, List.getElem?_eq_getElem hi, List.foldl_append]
 simp only [Option.toList_some, List.foldl_cons, List.foldl_nil, Option.getD_some]
theorem hash_take {l : List UInt8} {i : Nat} (hi : i < l.length) (h : Nat) : (l.take (i + 1)).foldl hstep h = hstep ((l.take i).foldl hstep h) (l[i]?.getD 0) := foldl_take' hstep 0 hi h
theorem hashN_lt (l : List UInt8) : hashN l < 4294967296 := hash_lt l _ (by decide)
theorem xor_lt {a b : Nat} (ha : a < 4294967296) (hb : b < 4294967296) : a ^^^ b < 4294967296 := Nat.xor_lt_two_pow (n := 32) ha hb
theorem xor64 {a b : Nat} (ha : a < 4294967296) (hb : b < 4294967296) : intV .xor .i64 (a : Int) (b : Int) = .int ((a ^^^ b : Nat) : Int) := by
 have h : (BitVec.ofInt 64 (a : Int) ^^^ BitVec.ofInt 64 (b : Int)).toNat = a ^^^ b := by
   simp [BitVec.toNat_xor, Nat.mod_eq_of_lt (show a < 18446744073709551616 by omega), Nat.mod_eq_of_lt (show b < 18446744073709551616 by omega)]
 have h2 := xor_lt ha hb
 show D.int (IntKind.i64.wrap ((BitVec.ofInt 64 (a : Int) ^^^ BitVec.ofInt 64 (b : Int)).toNat : Int)) = _
 rw [h, w64 (by omega) (by omega)]
theorem and64 {a : Nat} (ha : a < 9223372036854775808) : intV .and .i64 (a : Int) 4294967295 = .int ((a % 4294967296 : Nat) : Int) := by
 have h : (BitVec.ofInt 64 (a : Int) &&& BitVec.ofInt 64 4294967295).toNat = a % 4294967296 := by
   have e : BitVec.ofInt 64 4294967295 = BitVec.ofNat 64 4294967295 := rfl
   rw [e, BitVec.toNat_and, BitVec.toNat_ofNat]
   simp [Nat.mod_eq_of_lt (show a < 18446744073709551616 by omega)]
   exact Nat.and_two_pow_sub_one_eq_mod a 32
 have h2 : a % 4294967296 < 4294967296 := Nat.mod_lt _ (by decide)
 show D.int (IntKind.i64.wrap ((BitVec.ofInt 64 (a : Int) &&& BitVec.ofInt 64 4294967295).toNat : Int)) = _
 rw [h, w64 (by omega) (by omega)]
theorem wrap32 {n : Nat} (h : n < 4294967296) : IntKind.u32.wrap (n : Int) = n := by
 unfold IntKind.wrap
 simp [IntKind.signed, IntKind.bits]
 omega
theorem wrap32m (n : Nat) : IntKind.u32.wrap (n : Int) = ((n % 4294967296 : Nat) : Int) := by
 unfold IntKind.wrap
 simp [IntKind.signed, IntKind.bits]
theorem byte_lt (b : UInt8) : b.toNat < 256 := b.toNat_lt
theorem xor32 {a b : Nat} (ha : a < 4294967296) (hb : b < 4294967296) : intV .xor .u32 (a : Int) (b : Int) = .int ((a ^^^ b : Nat) : Int) := by
 have h : (BitVec.ofInt 32 (a : Int) ^^^ BitVec.ofInt 32 (b : Int)).toNat = a ^^^ b := by
   simp [BitVec.toNat_xor, Nat.mod_eq_of_lt ha, Nat.mod_eq_of_lt hb]
 have h2 := xor_lt ha hb
 show D.int (IntKind.u32.wrap ((BitVec.ofInt 32 (a : Int) ^^^ BitVec.ofInt 32 (b : Int)).toNat : Int)) = _
 rw [h, wrap32 h2]
theorem ok298 : Good1 Tryz.prog Φ g298 := good1 tok mixed (l := []) (by simp) Tryz.func298 (by decide) (by decide) v298_eq (args1 fun a hw hp => by
 simp [g298, lenMax] at hw
 show v298.wp Φ (fun l => l = [.int (hashN (lby a.asStr))]) [a] _
 refine loop2'_wp (N := a.asStr.size) rfl (fun d d' => by simp) (by omega) (fun i x => x = .int (((lby a.asStr).take i).foldl hstep 2166136261 : Nat)) (by simp) (fun i x hi _ hx => ?_) fun x _ hx p => ?_
 · subst hx
   have h1 := hash_take (l := lby a.asStr) (i := i) hi 2166136261
   have h2 := hash_lt ((lby a.asStr).take i) 2166136261 (by decide)
   have h3 : (a.asStr.toList[i]?.getD 0) = ((lby a.asStr)[i]?.getD 0) := by rw [ByteArray.toList_eq]; rfl
   simp [hi]
   rw [h1, h3]
   generalize ((lby a.asStr).take i).foldl hstep 2166136261 = h at h2 ⊢
   generalize (lby a.asStr)[i]?.getD 0 = b
   have hb := byte_lt b
   have hx := xor_lt h2 (show b.toNat < 4294967296 by omega)
   rw [w64 (show (-9223372036854775808 : Int) ≤ (b.toNat : Int) by omega) (by omega), xor64 h2 (by omega), D.asInt_int, show (((h ^^^ b.toNat : Nat) : Int) * 16777619) = (((h ^^^ b.toNat) * 16777619 : Nat) : Int) by simp, w64 (by omega) (by omega), and64 (by omega)]
   rfl
 · subst hx
   have e : (lby a.asStr).take a.asStr.size = lby a.asStr := List.take_of_length_le (Nat.le_refl _)
   simp [hashN, e])
theorem ok328 : Good1 Tryz.prog Φ g328 := good1 tok mixed (l := []) (by simp) Tryz.func328 (by decide) (by decide) v328_eq (args1 fun a hw hp => by
 simp [g328, lenMax] at hw
 show v328.wp Φ (fun l => l = [.int (hashN (lby a.asStr))]) [a] _
 refine loop2'_wp (N := a.asStr.size) rfl (fun d d' => by simp) (by omega) (fun i x => x = .int (((lby a.asStr).take i).foldl hstep 2166136261 : Nat)) (by simp) (fun i x hi _ hx => ?_) fun x _ hx p => ?_
 · subst hx
   have h1 := hash_take (l := lby a.asStr) (i := i) hi 2166136261
   have h2 := hash_lt ((lby a.asStr).take i) 2166136261 (by decide)
   have h3 : (a.asStr.toList[i]?.getD 0) = ((lby a.asStr)[i]?.getD 0) := by rw [ByteArray.toList_eq]; rfl
   simp [hi]
   rw [h1, h3]
   generalize ((lby a.asStr).take i).foldl hstep 2166136261 = h at h2 ⊢
   generalize (lby a.asStr)[i]?.getD 0 = b
   have hb := byte_lt b
   rw [wrap32 (show b.toNat < 4294967296 by omega), xor32 h2 (by omega), D.asInt_int, show (((h ^^^ b.toNat : Nat) : Int) * 16777619) = (((h ^^^ b.toNat) * 16777619 : Nat) : Int) by simp, wrap32m]
   simp only [hstep]
 · subst hx
   have e : (lby a.asStr).take a.asStr.size = lby a.asStr := List.take_of_length_le (Nat.le_refl _)
   have h2 := hash_lt (lby a.asStr) 2166136261 (by decide)
   simp [hashN, e]
   exact w64 (by omega) (by omega))
end Go.Proofs.YtlkidecpmfhheaaGreat

import Derived.Test.YtlkidecpmfhheaaGreatW9
set_option linter.all false
namespace Go.Proofs.YtlkidecpmfhheaaGreat
open Go.Vx
theorem ok209 : Good1 Tryz.prog Φ g209 := good1e tok mixed (l := [g201, g259]) (by simp [ok201, ok259]) Tryz.func209 (by decide) (by decide) v209_eq (args1 fun a hw hp => by
 simp [g209, Φ209, mSortA] at hp
 refine loop2_wp (Φ := Φ) (N := a.asList.length) rfl (fun _ _ => by simp) (by omega) (fun i x => x.asList = stS ltA ((a.asList.take i).map cpAl)) (by simp [chunk, stS]) (fun i x hi _ hx => ?_) fun x _ hx p => by
   rw [List.take_of_length_le (Nat.le_refl _)] at hx
   simp [g209, RSh.cells, Φ209, mSortA, hx]
 have hl : x.asList.length = i := by rw [hx, stS_length, List.length_map, List.length_take]; omega
 have h1 := sumR_rowN (p := szDs kAlarm) hi
 have h2 := szAl (rowN a.asList i)
 rw [wp_req']
 refine ⟨by simp [rowAt_nat, Φ201, mCpAl, hi]; omega, ?_⟩
 refine ins_wp (Φ := Φ) (L := x.asList) rfl (by omega) (ltA (cpAl (rowN a.asList i))) (by simp) (fun k hk => ?_) (fun k hk => ?_) fun q => ?_
 · simp [rowAt_nat, Φ259, mSetLt, cond_ok]
   rcases Nat.eq_zero_or_pos k with h | h
   · subst h; simp
   · rw [w64 (by omega) (by omega)]; omega
 · simp [rowAt_nat, Φ259, Φ201, mCpAl, mSetLt, ltA, cpAl]
   rcases Nat.eq_zero_or_pos k with h | h
   · subst h; simp
   · rw [w64 (by omega) (by omega), show (k : Int) - 1 = ((k - 1 : Nat) : Int) by omega, rowAt_nat, decide_tt]
 · have hq := posR_le (ltA (cpAl (rowN a.asList i))) x.asList x.asList.length
   simp [rowAt_nat, Φ259, Φ201, mCpAl, mSetLt]
   generalize hm : posR (ltA (cpAl (rowN a.asList i))) x.asList x.asList.length = m at *
   rw [Nat.min_eq_left hq]
   refine ⟨by simp [lenMax]; omega, ?_⟩
   rw [setB_ne (show (0 : Nat) ≠ 1 by decide), setB_eq]
   refine ⟨_, rfl, ?_⟩
   rw [← List.map_take, map_take_succ _ hi, stS_snoc, ← hx, insR, hm]
   rw [List.take_of_length_le (l := x.asList.drop m) (by simp)]
   simp [chunk, cpAl])
end Go.Proofs.YtlkidecpmfhheaaGreat

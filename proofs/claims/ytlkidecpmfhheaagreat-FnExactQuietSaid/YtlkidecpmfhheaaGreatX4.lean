import Derived.Test.YtlkidecpmfhheaaGreatX2
import Derived.Test.YtlkidecpmfhheaaGreatSH
set_option linter.all false
namespace Go.Proofs.YtlkidecpmfhheaaGreat
open Go.Vx
theorem sz_mk (a : Array UInt8) : (⟨a⟩ : ByteArray).size = a.size := rfl
theorem lens_le {m : Nat} : ∀ xs : List (List UInt8), (∀ x ∈ xs, x.length ≤ m) → Lib.lens xs ≤ xs.length * m
 | [], _ => by simp [Lib.lens]
 | x :: xs, h => by
   have h1 := h x (by simp)
   have h2 := lens_le xs fun y hy => h y (by simp [hy])
   simp only [Lib.lens, List.map_cons, List.sum_cons, List.length_cons, Nat.add_mul] at h2 ⊢
   omega
theorem joinB_size {m : Nat} {xs : List ByteArray} {sep : ByteArray} (h : ∀ x ∈ xs, x.size ≤ m) : (joinB xs sep).size ≤ xs.length * (m + sep.size) := by
 cases xs with
 | nil => simp [joinB_nil, sz_mk]
 | cons x r =>
   have e : (joinB (x :: r) sep).size = (lby sep).length * (r.map lby).length + Lib.lens ((x :: r).map lby) := by
     rw [List.map_cons, ← Lib.join_length]
     simp [joinB, ByteArray.size]
   have h2 := lens_le ((x :: r).map lby) (m := m) fun y hy => by
     obtain ⟨z, hz, rfl⟩ := List.mem_map.1 hy
     have := h z hz
     exact this
   have h3 : (lby sep).length = sep.size := rfl
   rw [e, h3]
   simp only [List.length_map, List.length_cons, Nat.add_mul, Nat.mul_add] at h2 ⊢
   rw [Nat.mul_comm sep.size]
   omega
theorem join_take {f : List D → ByteArray} {xs : List (List D)} {i : Nat} (h : i < xs.length) (sep : ByteArray) :
   joinB ((xs.take (i + 1)).map f) sep = if i = 0 then f (rowN xs i) else joinB ((xs.take i).map f) sep ++ sep ++ f (rowN xs i) := by
 rw [List.take_add_one, List.getElem?_eq_getElem h, List.map_append, rowN_lt h]
 by_cases e : i = 0
 · subst e
   simp [joinB_one]
 · rw [if_neg e]
   obtain ⟨x, r, hx⟩ : ∃ x r, xs.take i = x :: r := List.exists_cons_of_ne_nil (by
     intro h0
     have := congrArg List.length h0
     rw [List.length_take, List.length_nil] at this
     omega)
   rw [hx]
   exact joinB_more _ _
theorem strs_fm {f : List D → ByteArray} (xs : List (List D)) : strs (xs.flatMap fun r => [[.str (f r)]]) = xs.map f := by
 induction xs with
 | nil => rfl
 | cons x xs ih =>
   simp only [strs, List.flatMap_cons, List.map_append, List.map_cons, List.map_nil] at ih ⊢
   rw [ih]
   rfl
theorem fm1_len (f : List D → List D) (xs : List (List D)) : (xs.flatMap fun r => [f r]).length = xs.length := by
 induction xs with
 | nil => rfl
 | cons x xs ih => simp only [List.flatMap_cons, List.length_append, ih, List.length_cons, List.length_nil]; omega
theorem labB_size {r : List D} (h : LabOk r) : (labB r).size ≤ 23 := by
 have h1 := h.1.1.2
 have h2 := h.2.1
 simp only [labB, ba_size_append, sz_mk, List.size_toArray, List.length_cons, List.length_nil]
 omega
theorem labs_size {xs : List (List D)} (h : SetOk xs) (k : Nat) : (joinB ((xs.take k).map labB) ⟨#[44, 32]⟩).size ≤ 100 := by
 have := joinB_size (m := 23) (xs := (xs.take k).map labB) (sep := ⟨#[44, 32]⟩) fun x hx => by
   obtain ⟨r, hr, rfl⟩ := List.mem_map.1 hx
   obtain ⟨i, hi, rfl⟩ := List.getElem_of_mem (List.mem_of_mem_take hr)
   have := (h.2 i hi).1
   rw [rowN_lt hi] at this
   exact labB_size this
 have h2 : ((xs.take k).map labB).length ≤ 4 := by have := h.1; simp; omega
 have h3 : (⟨#[44, 32]⟩ : ByteArray).size = 2 := rfl
 rw [h3] at this
 omega
theorem ok329 : Good1 Tryz.prog Φ g329 := good1 tok mixed (l := [g242, g339]) (by simp [ok339, ok242]) Tryz.func329 (by decide) (by decide) v329_eq (args1 fun a hw hp => by
 unfold v329
 rw [wp_req', wp_ite']
 refine ⟨by simp [Φ242, mB], fun h => ?_, fun h => ?_⟩
 · simp [Φ242, mB] at h
   simp [g329, Φ329, mSetT, setT, tt_false h]
 simp [Φ242, mB] at h
 have h4 := h.1
 refine fm_wp' (Φ := Φ) (g := fun r => [[.str (labB r)]]) (xs := a.asList) rfl (fun _ _ => by simp) (by omega) rfl (fun i x hi hx => ?_) fun x hx p => ?_
 · have hl : x.asList.length = i := by rw [hx, fm1_len, List.length_take]; omega
   have hlab := (h.2 i hi).1
   have h1 := hlab.1.1.2
   have h2 := hlab.2.1
   simp [rowAt_nat, lenMax, chunk, hl, ba_size_append, sz_mk, hi, labB]
   omega
 · have hs := labs_size h a.asList.length
   rw [List.take_length] at hs
   simp [g329, Φ329, show Φ 339 = mJoin from rfl, mSetT, mJoin, setT, tt_true h, hx, strs_fm, setB, lenMax, ba_size_append, sz_mk]
   omega)
theorem ok299 : Good1 Tryz.prog Φ g299 := good1 tok mixed (l := [g226]) (by simp [ok226]) Tryz.func299 (by decide) (by decide) v299_eq (args1 fun a hw hp => by
 unfold v299
 rw [wp_req', wp_ite']
 refine ⟨by simp [Φ226, mB], fun h => ?_, fun h => ?_⟩
 · simp [Φ226, mB] at h
   simp [g299, Φ299, mSetT, setT, tt_false h]
 simp [Φ226, mB] at h
 have h4 := h.1
 refine loop2'_wp (Φ := Φ) (N := a.asList.length) rfl (fun _ _ => by simp) (by omega) (fun i x => x.asStr = ⟨#[123]⟩ ++ joinB ((a.asList.take i).map labB) ⟨#[44, 32]⟩) (by simp [joinB_nil]; rfl) (fun i x hi _ hx => ?_) fun x _ hx p => ?_
 · have hs := labs_size h i
   have hlab := (h.2 i hi).1
   have h1 := hlab.1.1.2
   have h2 := hlab.2.1
   rw [join_take hi]
   have hsz : x.asStr.size ≤ 101 := by rw [hx, ba_size_append]; show 1 + _ ≤ _; omega
   simp [rowAt_nat, lenMax, ba_size_append, sz_mk, hi, -List.map_take]
   refine ⟨fun h0 => ⟨by omega, by omega, ?_⟩, fun h0 => ⟨by omega, ?_⟩⟩
   · rw [if_neg (by omega), hx]
     refine ba_ext ?_
     simp [labB, -List.map_take]
   · rw [if_pos h0, hx, h0]
     refine ba_ext ?_
     simp [labB, joinB_nil]
 · have hs := labs_size h a.asList.length
   rw [List.take_length] at hs hx
   simp [g299, Φ299, mSetT, setT, tt_true h, hx, setB, lenMax, ba_size_append, sz_mk]
   omega)
end Go.Proofs.YtlkidecpmfhheaaGreat

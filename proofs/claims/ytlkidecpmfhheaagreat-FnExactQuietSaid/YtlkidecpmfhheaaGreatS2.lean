import Derived.Test.YtlkidecpmfhheaaGreatSF
set_option linter.all false
namespace Go.Proofs.YtlkidecpmfhheaaGreat
open Go.Vx
theorem szAl (r : List D) : (cell r 0).asList.length ≤ szDs kAlarm r := by simp only [szDs_cons, szD]; omega
theorem ok292 : Good1 Tryz.prog Φ g292 := good1 tok mixed (l := []) (by simp) Tryz.func292 (by decide) (by decide) v292_eq (args1 fun a hw hp => by
 simp [g292, Φ292, mCp] at hp
 simp [v292, g292, Φ292, mCp, lenMax]
 omega)
theorem ok201 : Good1 Tryz.prog Φ g201 := good1 tok mixed (l := []) (by simp) Tryz.func201 (by decide) (by decide) v201_eq (args1 fun a hw hp => by
 simp [g201, Φ201, mCpAl] at hp
 simp [v201, g201, Φ201, mCpAl, cpAl, lenMax, chunk]
 omega)
theorem ok220 : Good1 Tryz.prog Φ g220 := good1 tok mixed (l := [g292]) (by simp [ok292]) Tryz.func220 (by decide) (by decide) v220_eq (args1 fun a hw hp => by
 simp [g220, Φ220, mCpAl] at hp
 simp [v220, g220, Φ220, Φ292, mCp, mCpAl, cpAl, hp])
theorem one_len (f : List D → List D) (xs : List (List D)) : (xs.flatMap fun r => [f r]).length = xs.length := by
 induction xs with
 | nil => rfl
 | cons x xs ih => simp only [List.flatMap_cons, List.length_append, ih, List.length_cons, List.length_nil]; omega
theorem ok202 : Good1 Tryz.prog Φ g202 := good1e tok mixed (l := [g220]) (by simp [ok220]) Tryz.func202 (by decide) (by decide) v202_eq (args1 fun a hw hp => by
 simp [g202, Φ202, mCpAls] at hp
 refine fm_wp' (Φ := Φ) (g := fun r => [cpAl r]) (xs := a.asList) rfl (fun _ _ => by simp) (by omega) rfl (fun i x hi hx => ?_) fun x hx p => by simp [g202, RSh.cells, Φ202, mCpAls, hx]
 have hl : x.asList.length = i := by rw [hx, one_len, List.length_take]; omega
 have h1 := sumR_rowN (p := szDs kAlarm) hi
 have h2 := szAl (rowN a.asList i)
 simp [rowAt_nat, Φ220, mCpAl, cpAl, lenMax, chunk, hl]
 omega)
theorem ok190 : Good1 Tryz.prog Φ g190 := good1e tok mixed (l := [g201]) (by simp [ok201]) Tryz.func190 (by decide) (by decide) v190_eq (args1 fun a hw hp => by
 simp [g190, Φ190, mCpAls] at hp
 refine fm_wp (Φ := Φ) (g := fun r => [cpAl r]) (xs := a.asList) rfl (fun _ _ => by simp) (by omega) (by simp [chunk]) (fun i x hi hx => ?_) fun x hx p => by simp [g190, RSh.cells, Φ190, mCpAls, hx]
 have hl : x.asList.length = i := by rw [hx, one_len, List.length_take]; omega
 have h1 := sumR_rowN (p := szDs kAlarm) hi
 have h2 := szAl (rowN a.asList i)
 simp [rowAt_nat, Φ201, mCpAl, cpAl, lenMax, chunk, hl]
 omega)
theorem szM_ok {n : Nat} {l : Int} (h : 0 ≤ szM n l) : (n : Int) ≤ l ∧ szM n l = l - n := by
 rcases Int.lt_or_le l n with h' | h'
 · rw [szM_neg h'] at h; omega
 · exact ⟨h', szM_pos h'⟩
theorem szW' (r : List D) : szDs kWorld (cnDs kWorld' r) = szDs kWorld' r := szDs_cnDs kWorld' r
theorem aslRow_pre : ∀ (ks : List K) (pre r : List D), aslRow ks pre.length (pre ++ cnDs ks r) = cnDs ks r
 | [], pre, r => rfl
 | k :: ks, pre, r => by
   have h0 : cell (pre ++ cnDs (k :: ks) r) pre.length = cnD k (cell r 0) := by
     rw [cnDs_cons]
     simp [cell, List.getD_eq_getElem?_getD]
   have h1 := aslRow_pre ks (pre ++ [cnD k (cell r 0)]) r.tail
   rw [List.length_append, List.length_singleton, List.append_assoc] at h1
   rw [aslRow, h0, cnDs_cons]
   have h2 : aslC k (cnD k (cell r 0)) = cnD k (cell r 0) := by cases k <;> rfl
   rw [h2]
   exact congrArg _ h1
theorem mkW0 (X : List D) : [cell X 0, cell X 1, cell X 2, cell X 3, cell X 4, D.sl (cell X 5).asList, cell X 6, cell X 7, D.sl (cell X 8).asList, D.sl (cell X 9).asList, D.sl (cell X 10).asList, cell X 11, D.sl (cell X 12).asList, cell X 13, D.sl (cell X 14).asList, D.sl (cell X 15).asList, D.sl (cell X 16).asList, D.sl (cell X 17).asList, D.sl (cell X 18).asList] = aslRow kWorld' 0 X := rfl
theorem mkW (r : List D) : aslRow kWorld' 0 (cnDs kWorld' r) = cnDs kWorld' r := aslRow_pre kWorld' [] r
end Go.Proofs.YtlkidecpmfhheaaGreat

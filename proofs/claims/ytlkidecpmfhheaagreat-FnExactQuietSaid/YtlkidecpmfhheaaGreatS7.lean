import Derived.Test.YtlkidecpmfhheaaGreatS6
set_option linter.all false
namespace Go.Proofs.YtlkidecpmfhheaaGreat
open Go.Vx
theorem part_len (p : List D) : (partA p).length ≤ szDs kPart p := by
 have := szPt p
 have := fm_len (g := fun c => (cell c 1).asList.flatMap fun r => [cpAl r]) (q := szDs kChain) (fun c => by rw [one_len]; have := szCh c; omega) (cell p 2).asList
 unfold partA
 omega
theorem cp_cp (r : List D) : cpAl (cpAl r) = cpAl r := by simp [cpAl]
theorem part_cp (xs : List (List D)) : (xs.flatMap partA).map cpAl = xs.flatMap partA := by
 rw [List.map_flatMap]
 congr 1
 funext p
 simp only [partA, List.map_flatMap, List.map_cons, List.map_nil, cp_cp]
theorem sz_cpAl (r : List D) : szDs kAlarm (cpAl r) = szDs kAlarm r := by simp only [szDs_cons, szDs_nil, szD, cpAl, cell_tail, cell_zero, cell_succ, D.asList_sl, Nat.zero_add, Nat.reduceAdd]
theorem sz_cps (xs : List (List D)) : sumR (szDs kAlarm) (xs.flatMap fun r => [cpAl r]) = sumR (szDs kAlarm) xs := by
 induction xs with
 | nil => rfl
 | cons x xs ih => simp only [List.flatMap_cons, sumR_append, sumR, ih, sz_cpAl]; omega
theorem part_sum (p : List D) : (partA p).length + sumR (szDs kAlarm) (partA p) ≤ szDs kPart p := by
 have h := szPt p
 have : ∀ cs : List (List D), (cs.flatMap fun c => (cell c 1).asList.flatMap fun r => [cpAl r]).length + sumR (szDs kAlarm) (cs.flatMap fun c => (cell c 1).asList.flatMap fun r => [cpAl r]) ≤ sumR (szDs kChain) cs := by
   intro cs
   induction cs with
   | nil => simp [sumR]
   | cons c cs ih =>
     have := szCh c
     simp only [List.flatMap_cons, List.length_append, sumR_append, sumR, one_len, sz_cps]
     omega
 have := this (cell p 2).asList
 unfold partA
 omega
theorem parts_sum (xs : List (List D)) : (xs.flatMap partA).length + sumR (szDs kAlarm) (xs.flatMap partA) ≤ sumR (szDs kPart) xs := by
 induction xs with
 | nil => simp [sumR]
 | cons x xs ih =>
   have := part_sum x
   simp only [List.flatMap_cons, List.length_append, sumR_append, sumR]
   omega
theorem ok218 : Good1 Tryz.prog Φ g218 := good1e tok mixed (l := [g202]) (by simp [ok202]) Tryz.func218 (by decide) (by decide) v218_eq (args1 fun a hw hp => by
 simp [g218, Φ218, mAlIn] at hp
 have h0 := szPt a.row
 refine fm_wp' (Φ := Φ) (g := fun c => (cell c 1).asList.flatMap fun r => [cpAl r]) (xs := (cell a.row 2).asList) rfl (fun _ _ => by simp) (by omega) rfl (fun i x hi hx => ?_) fun x hx p => by simp [g218, RSh.cells, Φ218, mAlIn, hx]
 have hl : x.asList.length ≤ sumR (szDs kChain) ((cell a.row 2).asList.take i) := by
   rw [hx]; exact fm_len (fun c => by rw [one_len]; have := szCh c; omega) _
 have hs := sumR_take_le (p := szDs kChain) (xs := (cell a.row 2).asList) (i := i + 1)
 rw [sumR_take _ hi] at hs
 have h2 := szCh (rowN (cell a.row 2).asList i)
 simp [rowAt_nat, Φ202, mCpAls, one_len, lenMax, hi, -List.length_flatMap]
 omega)
theorem ok208 : Good1 Tryz.prog Φ g208 := good1e tok mixed (l := [g190]) (by simp [ok190]) Tryz.func208 (by decide) (by decide) v208_eq (args1 fun a hw hp => by
 simp [g208, Φ208, mAlIn] at hp
 have h0 := szPt a.row
 refine fm_wp (Φ := Φ) (g := fun c => (cell c 1).asList.flatMap fun r => [cpAl r]) (xs := (cell a.row 2).asList) rfl (fun _ _ => by simp) (by omega) (by simp [chunk]) (fun i x hi hx => ?_) fun x hx p => by simp [g208, RSh.cells, Φ208, mAlIn, hx]
 have hl : x.asList.length ≤ sumR (szDs kChain) ((cell a.row 2).asList.take i) := by
   rw [hx]; exact fm_len (fun c => by rw [one_len]; have := szCh c; omega) _
 have hs := sumR_take_le (p := szDs kChain) (xs := (cell a.row 2).asList) (i := i + 1)
 rw [sumR_take _ hi] at hs
 have h2 := szCh (rowN (cell a.row 2).asList i)
 simp [rowAt_nat, Φ190, mCpAls, one_len, lenMax, hi, -List.length_flatMap]
 omega)
theorem ok148 : Good1 Tryz.prog Φ g148 := good1e tok mixed (l := [g218, g219]) (by simp [ok218, ok219]) Tryz.func148 (by decide) (by decide) v148_eq (args1 fun a hw hp => by
 simp [g148, Φ148, mAllA] at hp
 refine fm_wp' (Φ := Φ) (g := partA) (xs := a.asList) rfl (fun _ _ => by simp) (by omega) rfl (fun i x hi hx => ?_) fun x hx p => by
   simp [g148, RSh.cells, Φ148, mAllA, show Φ 219 = mByL from rfl, mByL, hx, allSt]
 have hl : x.asList.length ≤ sumR (szDs kPart) (a.asList.take i) := by rw [hx]; exact fm_len part_len _
 have hs := sumR_take_le (p := szDs kPart) (xs := a.asList) (i := i + 1)
 rw [sumR_take _ hi] at hs
 have h2 := part_len (rowN a.asList i)
 have h3 : ((cell (rowN a.asList i) 2).asList.flatMap fun c => (cell c 1).asList.flatMap fun r => [cpAl r]).length ≤ szDs kPart (rowN a.asList i) := h2
 simp [rowAt_nat, Φ218, mAlIn, lenMax, hi, -List.length_flatMap]
 exact ⟨by omega, rfl⟩)
theorem ok137 : Good1 Tryz.prog Φ g137 := good1e tok mixed (l := [g208, g209]) (by simp [ok208, ok209]) Tryz.func137 (by decide) (by decide) v137_eq (args1 fun a hw hp => by
 simp [g137, Φ137, mAllA] at hp
 refine fm_wp (Φ := Φ) (g := partA) (xs := a.asList) rfl (fun _ _ => by simp) (by omega) (by simp [chunk]) (fun i x hi hx => ?_) fun x hx p => by
   have h4 := parts_sum a.asList
   simp [g137, RSh.cells, Φ137, mAllA, Φ209, mSortA, hx, allSt, -List.length_flatMap, part_cp]
   omega
 have hl : x.asList.length ≤ sumR (szDs kPart) (a.asList.take i) := by rw [hx]; exact fm_len part_len _
 have hs := sumR_take_le (p := szDs kPart) (xs := a.asList) (i := i + 1)
 rw [sumR_take _ hi] at hs
 have h2 := part_len (rowN a.asList i)
 have h3 : ((cell (rowN a.asList i) 2).asList.flatMap fun c => (cell c 1).asList.flatMap fun r => [cpAl r]).length ≤ szDs kPart (rowN a.asList i) := h2
 simp [rowAt_nat, Φ208, mAlIn, lenMax, hi, -List.length_flatMap]
 exact ⟨by omega, rfl⟩)
end Go.Proofs.YtlkidecpmfhheaaGreat

/-
  Contracts: all alarms, what agrees; the law of Agrees.
-/
import Derived.Test.YtllhihloidkghaaGreatS6
set_option linter.unusedVariables false
set_option linter.unusedSimpArgs false
namespace Go.Proofs.YtllhihloidkghaaGreat
open Go.Vx

theorem part_len (p : List D) : (partA p).length ≤ szDs kPart p := by
  have := szPt p
  have := fm_len (g := fun c => (cell c 1).asList.flatMap fun r => [cpAl r]) (q := szDs kChain) (fun c => by rw [one_len]; have := szCh c; omega) (cell p 2).asList
  unfold partA
  omega
theorem cp_cp (r : List D) : cpAl (cpAl r) = cpAl r := by simp [cpAl]
theorem part_cp (xs : List (List D)) : (xs.flatMap partA).map cpAl = xs.flatMap partA := by
  rw [List.map_flatMap]
  congr 1
  funext p
  simp only [partA, List.map_flatMap, List.map_cons, List.map_nil, cp_cp]
theorem sz_cpAl (r : List D) : szDs kAlarm (cpAl r) = szDs kAlarm r := by simp only [szDs_cons, szDs_nil, szD, cpAl, cell_tail, cell_zero, cell_succ, D.asList_sl, Nat.zero_add, Nat.reduceAdd]
theorem sz_cps (xs : List (List D)) : sumR (szDs kAlarm) (xs.flatMap fun r => [cpAl r]) = sumR (szDs kAlarm) xs := by
  induction xs with
  | nil => rfl
  | cons x xs ih => simp only [List.flatMap_cons, sumR_append, sumR, ih, sz_cpAl]; omega
theorem part_sum (p : List D) : (partA p).length + sumR (szDs kAlarm) (partA p) ≤ szDs kPart p := by
  have h := szPt p
  have : ∀ cs : List (List D), (cs.flatMap fun c => (cell c 1).asList.flatMap fun r => [cpAl r]).length + sumR (szDs kAlarm) (cs.flatMap fun c => (cell c 1).asList.flatMap fun r => [cpAl r]) ≤ sumR (szDs kChain) cs := by
    intro cs
    induction cs with
    | nil => simp [sumR]
    | cons c cs ih =>
      have := szCh c
      simp only [List.flatMap_cons, List.length_append, sumR_append, sumR, one_len, sz_cps]
      omega
  have := this (cell p 2).asList
  unfold partA
  omega
theorem parts_sum (xs : List (List D)) : (xs.flatMap partA).length + sumR (szDs kAlarm) (xs.flatMap partA) ≤ sumR (szDs kPart) xs := by
  induction xs with
  | nil => simp [sumR]
  | cons x xs ih =>
    have := part_sum x
    simp only [List.flatMap_cons, List.length_append, sumR_append, sumR]
    omega

theorem ok79 : Good1 Tryz.prog Φ g79 := good1e tok mixed (l := [g82]) (by simp [ok82]) Tryz.func79 (by decide) (by decide) v79_eq (args1 fun a hw hp => by
  simp [g79, show Φ 79 = mAlIn from rfl, mAlIn] at hp
  have h0 := szPt a.row
  refine fm_wp' (Φ := Φ) (g := fun c => (cell c 1).asList.flatMap fun r => [cpAl r]) (xs := (cell a.row 2).asList) rfl (fun _ _ => by simp) (by omega) rfl (fun i x hi hx => ?_) fun x hx p => by simp [g79, RSh.cells, show Φ 79 = mAlIn from rfl, mAlIn, hx]
  have hl : x.asList.length ≤ sumR (szDs kChain) ((cell a.row 2).asList.take i) := by
    rw [hx]; exact fm_len (fun c => by rw [one_len]; have := szCh c; omega) _
  have hs := sumR_take_le (p := szDs kChain) (xs := (cell a.row 2).asList) (i := i + 1)
  rw [sumR_take _ hi] at hs
  have h2 := szCh (rowN (cell a.row 2).asList i)
  simp [rowAt_nat, show Φ 82 = mCpAls from rfl, mCpAls, one_len, lenMax, hi, -List.length_flatMap]
  omega)
theorem ok61 : Good1 Tryz.prog Φ g61 := good1e tok mixed (l := [g64]) (by simp [ok64]) Tryz.func61 (by decide) (by decide) v61_eq (args1 fun a hw hp => by
  simp [g61, show Φ 61 = mAlIn from rfl, mAlIn] at hp
  have h0 := szPt a.row
  refine fm_wp (Φ := Φ) (g := fun c => (cell c 1).asList.flatMap fun r => [cpAl r]) (xs := (cell a.row 2).asList) rfl (fun _ _ => by simp) (by omega) (by simp [chunk]) (fun i x hi hx => ?_) fun x hx p => by simp [g61, RSh.cells, show Φ 61 = mAlIn from rfl, mAlIn, hx]
  have hl : x.asList.length ≤ sumR (szDs kChain) ((cell a.row 2).asList.take i) := by
    rw [hx]; exact fm_len (fun c => by rw [one_len]; have := szCh c; omega) _
  have hs := sumR_take_le (p := szDs kChain) (xs := (cell a.row 2).asList) (i := i + 1)
  rw [sumR_take _ hi] at hs
  have h2 := szCh (rowN (cell a.row 2).asList i)
  simp [rowAt_nat, show Φ 64 = mCpAls from rfl, mCpAls, one_len, lenMax, hi, -List.length_flatMap]
  omega)
theorem ok40 : Good1 Tryz.prog Φ g40 := good1e tok mixed (l := [g79, g80]) (by simp [ok79, ok80]) Tryz.func40 (by decide) (by decide) v40_eq (args1 fun a hw hp => by
  simp [g40, show Φ 40 = mAllA from rfl, mAllA] at hp
  refine fm_wp' (Φ := Φ) (g := partA) (xs := a.asList) rfl (fun _ _ => by simp) (by omega) rfl (fun i x hi hx => ?_) fun x hx p => by
    simp [g40, RSh.cells, show Φ 40 = mAllA from rfl, mAllA, show Φ 80 = mByL from rfl, mByL, hx, allSt]
  have hl : x.asList.length ≤ sumR (szDs kPart) (a.asList.take i) := by rw [hx]; exact fm_len part_len _
  have hs := sumR_take_le (p := szDs kPart) (xs := a.asList) (i := i + 1)
  rw [sumR_take _ hi] at hs
  have h2 := part_len (rowN a.asList i)
  have h3 : ((cell (rowN a.asList i) 2).asList.flatMap fun c => (cell c 1).asList.flatMap fun r => [cpAl r]).length ≤ szDs kPart (rowN a.asList i) := h2
  simp [rowAt_nat, show Φ 79 = mAlIn from rfl, mAlIn, lenMax, hi, -List.length_flatMap]
  exact ⟨by omega, rfl⟩)
theorem ok23 : Good1 Tryz.prog Φ g23 := good1e tok mixed (l := [g61, g62]) (by simp [ok61, ok62]) Tryz.func23 (by decide) (by decide) v23_eq (args1 fun a hw hp => by
  simp [g23, show Φ 23 = mAllA from rfl, mAllA] at hp
  refine fm_wp (Φ := Φ) (g := partA) (xs := a.asList) rfl (fun _ _ => by simp) (by omega) (by simp [chunk]) (fun i x hi hx => ?_) fun x hx p => by
    have h4 := parts_sum a.asList
    simp [g23, RSh.cells, show Φ 23 = mAllA from rfl, mAllA, show Φ 62 = mSortA from rfl, mSortA, hx, allSt, -List.length_flatMap, part_cp]
    omega
  have hl : x.asList.length ≤ sumR (szDs kPart) (a.asList.take i) := by rw [hx]; exact fm_len part_len _
  have hs := sumR_take_le (p := szDs kPart) (xs := a.asList) (i := i + 1)
  rw [sumR_take _ hi] at hs
  have h2 := part_len (rowN a.asList i)
  have h3 : ((cell (rowN a.asList i) 2).asList.flatMap fun c => (cell c 1).asList.flatMap fun r => [cpAl r]).length ≤ szDs kPart (rowN a.asList i) := h2
  simp [rowAt_nat, show Φ 61 = mAlIn from rfl, mAlIn, lenMax, hi, -List.length_flatMap]
  exact ⟨by omega, rfl⟩)
end Go.Proofs.YtllhihloidkghaaGreat

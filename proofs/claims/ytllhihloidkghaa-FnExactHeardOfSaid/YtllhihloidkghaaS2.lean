/-
  Contracts: copies, what is told and not in a group yet.
-/
import Derived.Test.YtllhihloidkghaaSF
set_option linter.unusedVariables false
set_option linter.unusedSimpArgs false
namespace Go.Proofs.Ytllhihloidkghaa
open Go.Vx

theorem szAl (r : List D) : (cell r 0).asList.length ≤ szDs kAlarm r := by simp only [szDs_cons, szD]; omega
theorem ok83 : Good1 Try.prog Φ g83 := good1 tok mixed (l := []) (by simp) Try.func83 (by decide) (by decide) v83_eq (args1 fun a hw hp => by
  simp [g83, show Φ 83 = mCp from rfl, mCp] at hp
  simp [v83, g83, show Φ 83 = mCp from rfl, mCp, lenMax]
  omega)
theorem ok31 : Good1 Try.prog Φ g31 := good1 tok mixed (l := []) (by simp) Try.func31 (by decide) (by decide) v31_eq (args1 fun a hw hp => by
  simp [g31, show Φ 31 = mCpAl from rfl, mCpAl] at hp
  simp [v31, g31, show Φ 31 = mCpAl from rfl, mCpAl, cpAl, lenMax, chunk]
  omega)
theorem ok34 : Good1 Try.prog Φ g34 := good1 tok mixed (l := [g83]) (by simp [ok83]) Try.func34 (by decide) (by decide) v34_eq (args1 fun a hw hp => by
  simp [g34, show Φ 34 = mCpAl from rfl, mCpAl] at hp
  simp [v34, g34, show Φ 34 = mCpAl from rfl, show Φ 83 = mCp from rfl, mCp, mCpAl, cpAl, hp])
theorem one_len (f : List D → List D) (xs : List (List D)) : (xs.flatMap fun r => [f r]).length = xs.length := by
  induction xs with
  | nil => rfl
  | cons x xs ih => simp only [List.flatMap_cons, List.length_append, ih, List.length_cons, List.length_nil]; omega
theorem ok41 : Good1 Try.prog Φ g41 := good1e tok mixed (l := [g34]) (by simp [ok34]) Try.func41 (by decide) (by decide) v41_eq (args1 fun a hw hp => by
  simp [g41, show Φ 41 = mCpAls from rfl, mCpAls] at hp
  refine fm_wp' (Φ := Φ) (g := fun r => [cpAl r]) (xs := a.asList) rfl (fun _ _ => by simp) (by omega) rfl (fun i x hi hx => ?_) fun x hx p => by simp [g41, RSh.cells, show Φ 41 = mCpAls from rfl, mCpAls, hx]
  have hl : x.asList.length = i := by rw [hx, one_len, List.length_take]; omega
  have h1 := sumR_rowN (p := szDs kAlarm) hi
  have h2 := szAl (rowN a.asList i)
  simp [rowAt_nat, show Φ 34 = mCpAl from rfl, mCpAl, cpAl, lenMax, chunk, hl]
  omega)
theorem ok40 : Good1 Try.prog Φ g40 := good1e tok mixed (l := [g31]) (by simp [ok31]) Try.func40 (by decide) (by decide) v40_eq (args1 fun a hw hp => by
  simp [g40, show Φ 40 = mCpAls from rfl, mCpAls] at hp
  refine fm_wp (Φ := Φ) (g := fun r => [cpAl r]) (xs := a.asList) rfl (fun _ _ => by simp) (by omega) (by simp [chunk]) (fun i x hi hx => ?_) fun x hx p => by simp [g40, RSh.cells, show Φ 40 = mCpAls from rfl, mCpAls, hx]
  have hl : x.asList.length = i := by rw [hx, one_len, List.length_take]; omega
  have h1 := sumR_rowN (p := szDs kAlarm) hi
  have h2 := szAl (rowN a.asList i)
  simp [rowAt_nat, show Φ 31 = mCpAl from rfl, mCpAl, cpAl, lenMax, chunk, hl]
  omega)

end Go.Proofs.Ytllhihloidkghaa

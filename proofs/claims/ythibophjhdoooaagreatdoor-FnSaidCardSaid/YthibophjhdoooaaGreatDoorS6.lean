/-
  Copies, alike.
-/
import Derived.Test.YthibophjhdoooaaGreatDoorS5
set_option linter.unusedVariables false
set_option linter.unusedSimpArgs false
namespace Go.Proofs.YthibophjhdoooaaGreatDoor
open Go.Vx

theorem szAl (r : List D) : (cell r 0).asList.length ≤ szDs kAlarm r := by simp only [szDs_cons, szD]; omega
theorem ok89 : Good1 Tryz.prog Φ g89 := good1 tok mixed (l := []) (by simp) Tryz.func89 (by decide) (by decide) v89_eq (args2 fun a b hw hp => by
  simp [g89] at hw
  exact eqV_wp (Φ := Φ) (a := a) (b := b) (p := eqDs kLabel) (tests := []) (t := .op .and [.op (.sbin .eql) [.op (.fld 0) [.op .row [.var 0, .var 2]], .op (.fld 0) [.op .row [.var 1, .var 2]]], .op (.sbin .eql) [.op (.fld 1) [.op .row [.var 0, .var 2]], .op (.fld 1) [.op .row [.var 1, .var 2]]]]) hw.1.1
    (fun i h1 h2 => by simp [rowAt_nat, eqDs_cons, eqDs_nil, eqD_str]) _)
theorem ok51 : Good1 Tryz.prog Φ g51 := good1 tok mixed (l := []) (by simp) Tryz.func51 (by decide) (by decide) v51_eq (args1 fun a hw hp => by
  simp [g51, show Φ 51 = mCpAl from rfl, mCpAl] at hp
  simp [v51, g51, show Φ 51 = mCpAl from rfl, mCpAl, cpAl, lenMax, chunk]
  omega)
theorem one_len (f : List D → List D) (xs : List (List D)) : (xs.flatMap fun r => [f r]).length = xs.length := by
  induction xs with
  | nil => rfl
  | cons x xs ih => simp only [List.flatMap_cons, List.length_append, ih, List.length_cons, List.length_nil]; omega
theorem ok70 : Good1 Tryz.prog Φ g70 := good1e tok mixed (l := [g51]) (by simp [ok51]) Tryz.func70 (by decide) (by decide) v70_eq (args1 fun a hw hp => by
  simp [g70, show Φ 70 = mCpAls from rfl, mCpAls] at hp
  refine fm_wp (Φ := Φ) (g := fun r => [cpAl r]) (xs := a.asList) rfl (fun _ _ => by simp) (by omega) (by simp [chunk]) (fun i x hi hx => ?_) fun x hx p => by simp [g70, RSh.cells, show Φ 70 = mCpAls from rfl, mCpAls, hx]
  have hl : x.asList.length = i := by rw [hx, one_len, List.length_take]; omega
  have h1 := sumR_rowN (p := szDs kAlarm) hi
  have h2 := szAl (rowN a.asList i)
  simp [rowAt_nat, show Φ 51 = mCpAl from rfl, mCpAl, cpAl, lenMax, chunk, hl]
  omega)
end Go.Proofs.YthibophjhdoooaaGreatDoor


/-
  Contracts: copies, those of some labels, what was sent on.
-/
import Derived.Test.YtpgpkomolheinaaSF
set_option linter.unusedVariables false
set_option linter.unusedSimpArgs false
namespace Go.Proofs.Ytpgpkomolheinaa
open Go.Vx

theorem szAl (r : List D) : (cell r 0).asList.length ≤ szDs kAlarm r := by simp only [szDs_cons, szD]; omega
theorem ok63 : Good1 Try.prog Φ g63 := good1 tok mixed (l := []) (by simp) Try.func63 (by decide) (by decide) v63_eq (args2 fun a b hw hp => by
  simp [g63] at hw
  exact eqV_wp (Φ := Φ) (a := a) (b := b) (p := eqDs kLabel) (tests := []) (t := .op .and [.op (.sbin .eql) [.op (.fld 0) [.op .row [.var 0, .var 2]], .op (.fld 0) [.op .row [.var 1, .var 2]]], .op (.sbin .eql) [.op (.fld 1) [.op .row [.var 0, .var 2]], .op (.fld 1) [.op .row [.var 1, .var 2]]]]) hw.1.1
    (fun i h1 h2 => by simp [rowAt_nat, eqDs_cons, eqDs_nil, eqD_str]) _)
theorem ok66 : Good1 Try.prog Φ g66 := good1 tok mixed (l := []) (by simp) Try.func66 (by decide) (by decide) v66_eq (args2 fun a b hw hp => by
  simp [g66] at hw
  exact eqV_wp (Φ := Φ) (a := a) (b := b) (p := eqDs kLabel) (tests := []) (t := .op .and [.op (.sbin .eql) [.op (.fld 0) [.op .row [.var 0, .var 2]], .op (.fld 0) [.op .row [.var 1, .var 2]]], .op (.sbin .eql) [.op (.fld 1) [.op .row [.var 0, .var 2]], .op (.fld 1) [.op .row [.var 1, .var 2]]]]) hw.1.1
    (fun i h1 h2 => by simp [rowAt_nat, eqDs_cons, eqDs_nil, eqD_str]) _)
theorem ok90 : Good1 Try.prog Φ g90 := good1 tok mixed (l := []) (by simp) Try.func90 (by decide) (by decide) v90_eq (args1 fun a hw hp => by
  simp [g90, show Φ 90 = mCp from rfl, mCp] at hp
  simp [v90, g90, show Φ 90 = mCp from rfl, mCp, lenMax]
  omega)
theorem ok64 : Good1 Try.prog Φ g64 := good1 tok mixed (l := []) (by simp) Try.func64 (by decide) (by decide) v64_eq (args1 fun a hw hp => by
  simp [g64, show Φ 64 = mCpAl from rfl, mCpAl] at hp
  simp [v64, g64, show Φ 64 = mCpAl from rfl, mCpAl, cpAl, lenMax, chunk]
  omega)
theorem ok67 : Good1 Try.prog Φ g67 := good1 tok mixed (l := [g90]) (by simp [ok90]) Try.func67 (by decide) (by decide) v67_eq (args1 fun a hw hp => by
  simp [g67, show Φ 67 = mCpAl from rfl, mCpAl] at hp
  simp [v67, g67, show Φ 67 = mCpAl from rfl, show Φ 90 = mCp from rfl, mCp, mCpAl, cpAl, hp])

theorem ofG_len (s : List (List D)) (r : List D) : (ofG s r).length ≤ 1 := cond_length
theorem of_len (s xs : List (List D)) : (xs.flatMap (ofG s)).length ≤ xs.length := Nat.le_trans (fm_len (ofG_len s) xs) (Nat.le_of_eq (sumR_one xs))
theorem ok21 : Good1 Try.prog Φ g21 := good1e tok mixed (l := [g66, g67]) (by simp [ok66, ok67]) Try.func21 (by decide) (by decide) v21_eq (args2 fun a b hw hp => by
  simp [g21, show Φ 21 = mOf from rfl, mOf] at hp
  refine fm_wp' (Φ := Φ) (g := ofG b.asList) (xs := a.asList) rfl (fun _ _ => by simp) (by omega) rfl (fun i x hi hx => ?_) fun x hx p => by simp [g21, RSh.cells, show Φ 21 = mOf from rfl, mOf, hx]
  have hl : x.asList.length ≤ i := by rw [hx]; exact Nat.le_trans (of_len _ _) (by rw [List.length_take]; omega)
  have h1 := sumR_rowN (p := szDs kAlarm) hi
  have h2 := szAl (rowN a.asList i)
  simp [rowAt_nat, show Φ 67 = mCpAl from rfl, show Φ 66 = mEqL kLabel from rfl, mEqL, mCpAl, cpAl, lenMax, chunk, hi, ofG]
  refine ⟨fun h => ⟨by omega, by simp [h]⟩, fun h => by simp [h]⟩)
theorem ok19 : Good1 Try.prog Φ g19 := good1e tok mixed (l := [g63, g64]) (by simp [ok63, ok64]) Try.func19 (by decide) (by decide) v19_eq (args2 fun a b hw hp => by
  simp [g19, show Φ 19 = mOf from rfl, mOf] at hp
  refine fm_wp (Φ := Φ) (g := ofG b.asList) (xs := a.asList) rfl (fun _ _ => by simp) (by omega) (by simp [chunk]) (fun i x hi hx => ?_) fun x hx p => by simp [g19, RSh.cells, show Φ 19 = mOf from rfl, mOf, hx]
  have hl : x.asList.length ≤ i := by rw [hx]; exact Nat.le_trans (of_len _ _) (by rw [List.length_take]; omega)
  have h1 := sumR_rowN (p := szDs kAlarm) hi
  have h2 := szAl (rowN a.asList i)
  simp [rowAt_nat, show Φ 64 = mCpAl from rfl, show Φ 63 = mEqL kLabel from rfl, mEqL, mCpAl, cpAl, lenMax, chunk, hi, ofG]
  refine ⟨fun h => ⟨by omega, by omega, by simp [h]⟩, fun h => by simp [h]⟩)
end Go.Proofs.Ytpgpkomolheinaa


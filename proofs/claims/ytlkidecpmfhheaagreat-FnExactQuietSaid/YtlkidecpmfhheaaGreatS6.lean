import Derived.Test.YtlkidecpmfhheaaGreatS5
import Derived.Test.YtlkidecpmfhheaaGreatW9
set_option linter.all false
namespace Go.Proofs.YtlkidecpmfhheaaGreat
open Go.Vx
theorem ok163 : Good1 Tryz.prog Φ g163 := good1 tok mixed (l := []) (by simp) Tryz.func163 (by decide) (by decide) v163_eq (args2 fun a b hw hp => by
 simp [g163] at hw
 exact eqV_wp (Φ := Φ) (a := a) (b := b) (p := eqDs kLabel) (tests := []) (t := .op .and [.op (.sbin .eql) [.op (.fld 0) [.op .row [.var 0, .var 2]], .op (.fld 0) [.op .row [.var 1, .var 2]]], .op (.sbin .eql) [.op (.fld 1) [.op .row [.var 0, .var 2]], .op (.fld 1) [.op .row [.var 1, .var 2]]]]) hw.1.1
   (fun i h1 h2 => by simp [rowAt_nat, eqDs_cons, eqDs_nil, eqD_str]) _)
theorem ok162 : Good1 Tryz.prog Φ g162 := good1 tok mixed (l := [g163]) (by simp [ok163]) Tryz.func162 (by decide) (by decide) v162_eq (args2 fun a b hw hp => by
 simp [v162, Φ162, Φ163, mEqA, mEqL, g162, eqDs_cons, eqDs_nil, eqD_str, eqD_int, eqD_bool, eqD_sl]
 rw [Bool.eq_iff_iff]
 simp [and_assoc, and_comm, and_left_comm])
theorem ok136 : Good1 Tryz.prog Φ g136 := good1 tok mixed (l := [g162]) (by simp [ok162]) Tryz.func136 (by decide) (by decide) v136_eq (args2 fun a b hw hp => by
 simp [g136] at hw
 exact eqV_wp (Φ := Φ) (a := a) (b := b) (p := eqDs kAlarm) (tests := [.op (.fn 162 1000) [mkE (.var 0) (.var 2), mkE (.var 1) (.var 2)]]) (t := .op (.fn 162 0) [mkE (.var 0) (.var 2), mkE (.var 1) (.var 2)]) hw.1.1
   (fun i h1 h2 => by simp only [conj_cons, conj_nil, den_op, dens_cons, dens_nil, op_fn, mkE_den, den_var, Φ162, mEqA, con_ok, con_zero, cell_zero, cell_succ, D.asInt_int, D.asBool_bool, rowAt_nat, cell_zero, cell_succ, D.row_sl]; exact ⟨⟨trivial, trivial⟩, trivial⟩) _)
theorem ok248 : Good1 Tryz.prog Φ g248 := good1 tok mixed (l := []) (by simp) Tryz.func248 (by decide) (by decide) v248_eq (args2 fun a b hw hp => by
 simp [g248] at hw
 exact eqV_wp (Φ := Φ) (a := a) (b := b) (p := eqDs kLabel) (tests := []) (t := .op .and [.op (.sbin .eql) [.op (.fld 0) [.op .row [.var 0, .var 2]], .op (.fld 0) [.op .row [.var 1, .var 2]]], .op (.sbin .eql) [.op (.fld 1) [.op .row [.var 0, .var 2]], .op (.fld 1) [.op .row [.var 1, .var 2]]]]) hw.1.1
   (fun i h1 h2 => by simp [rowAt_nat, eqDs_cons, eqDs_nil, eqD_str]) _)
theorem ok217 : Good1 Tryz.prog Φ g217 := good1 tok mixed (l := [g248]) (by simp [ok248]) Tryz.func217 (by decide) (by decide) v217_eq (args2 fun a b hw hp => by
 simp [v217, Φ217, Φ248, mEqA, mEqL, g217, eqDs_cons, eqDs_nil, eqD_str, eqD_int, eqD_bool, eqD_sl]
 rw [Bool.eq_iff_iff]
 simp [and_assoc, and_comm, and_left_comm])
theorem ok147 : Good1 Tryz.prog Φ g147 := good1 tok mixed (l := [g217]) (by simp [ok217]) Tryz.func147 (by decide) (by decide) v147_eq (args2 fun a b hw hp => by
 simp [g147] at hw
 exact eqV_wp (Φ := Φ) (a := a) (b := b) (p := eqDs kAlarm) (tests := [.op (.fn 217 1000) [mkE (.var 0) (.var 2), mkE (.var 1) (.var 2)]]) (t := .op (.fn 217 0) [mkE (.var 0) (.var 2), mkE (.var 1) (.var 2)]) hw.1.1
   (fun i h1 h2 => by simp only [conj_cons, conj_nil, den_op, dens_cons, dens_nil, op_fn, mkE_den, den_var, Φ217, mEqA, con_ok, con_zero, cell_zero, cell_succ, D.asInt_int, D.asBool_bool, rowAt_nat, cell_zero, cell_succ, D.row_sl]; exact ⟨⟨trivial, trivial⟩, trivial⟩) _)
theorem szPt (r : List D) : (cell r 2).asList.length + sumR (szDs kChain) (cell r 2).asList ≤ szDs kPart r := by
 simp only [szDs_cons, szDs_nil, szD, cell_tail, Nat.zero_add, Nat.reduceAdd]
 omega
theorem szCh (r : List D) : (cell r 1).asList.length + sumR (szDs kAlarm) (cell r 1).asList ≤ szDs kChain r := by
 simp only [szDs_cons, szDs_nil, szD, cell_tail, Nat.zero_add, Nat.reduceAdd]
 omega
end Go.Proofs.YtlkidecpmfhheaaGreat

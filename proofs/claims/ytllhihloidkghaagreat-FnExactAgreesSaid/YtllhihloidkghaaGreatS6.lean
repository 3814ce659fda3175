/-
  Contracts: comparing, all alarms of a store.
-/
import Derived.Test.YtllhihloidkghaaGreatS5
import Derived.Test.YtllhihloidkghaaGreatW9
set_option linter.unusedVariables false
set_option linter.unusedSimpArgs false
namespace Go.Proofs.YtllhihloidkghaaGreat
open Go.Vx

theorem ok65 : Good1 Tryz.prog Φ g65 := good1 tok mixed (l := []) (by simp) Tryz.func65 (by decide) (by decide) v65_eq (args2 fun a b hw hp => by
  simp [g65] at hw
  exact eqV_wp (Φ := Φ) (a := a) (b := b) (p := eqDs kLabel) (tests := []) (t := .op .and [.op (.sbin .eql) [.op (.fld 0) [.op .row [.var 0, .var 2]], .op (.fld 0) [.op .row [.var 1, .var 2]]], .op (.sbin .eql) [.op (.fld 1) [.op .row [.var 0, .var 2]], .op (.fld 1) [.op .row [.var 1, .var 2]]]]) hw.1.1
    (fun i h1 h2 => by simp [rowAt_nat, eqDs_cons, eqDs_nil, eqD_str]) _)
theorem ok60 : Good1 Tryz.prog Φ g60 := good1 tok mixed (l := [g65]) (by simp [ok65]) Tryz.func60 (by decide) (by decide) v60_eq (args2 fun a b hw hp => by
  simp [v60, show Φ 60 = mEqA kAlarm from rfl, show Φ 65 = mEqL kLabel from rfl, mEqA, mEqL, g60, eqDs_cons, eqDs_nil, eqD_str, eqD_int, eqD_bool, eqD_sl]
  rw [Bool.eq_iff_iff]
  simp [and_assoc, and_comm, and_left_comm])
theorem ok22 : Good1 Tryz.prog Φ g22 := good1 tok mixed (l := [g60]) (by simp [ok60]) Tryz.func22 (by decide) (by decide) v22_eq (args2 fun a b hw hp => by
  simp [g22] at hw
  exact eqV_wp (Φ := Φ) (a := a) (b := b) (p := eqDs kAlarm) (tests := [.op (.fn 60 1000) [mkE (.var 0) (.var 2), mkE (.var 1) (.var 2)]]) (t := .op (.fn 60 0) [mkE (.var 0) (.var 2), mkE (.var 1) (.var 2)]) hw.1.1
    (fun i h1 h2 => by simp only [conj_cons, conj_nil, den_op, dens_cons, dens_nil, op_fn, mkE_den, den_var, show Φ 60 = mEqA kAlarm from rfl, mEqA, con_ok, con_zero, cell_zero, cell_succ, D.asInt_int, D.asBool_bool, rowAt_nat, cell_zero, cell_succ, D.row_sl]; exact ⟨⟨trivial, trivial⟩, trivial⟩) _)
theorem ok25 : Good1 Tryz.prog Φ g25 := good1 tok mixed (l := [g22]) (by simp [ok22]) Tryz.func25 (by decide) (by decide) v25_eq (args2 fun a b hw hp => by
  simp [v25, show Φ 25 = mEqA kSub from rfl, show Φ 22 = mEqL kAlarm from rfl, mEqA, mEqL, g25, eqDs_cons, eqDs_nil, eqD_str, eqD_int, eqD_bool, eqD_sl]
  rw [Bool.eq_iff_iff]
  simp [and_assoc, and_comm, and_left_comm])
theorem ok26 : Good1 Tryz.prog Φ g26 := good1 tok mixed (l := [g22, g65]) (by simp [ok22, ok65]) Tryz.func26 (by decide) (by decide) v26_eq (args2 fun a b hw hp => by
  simp [v26, show Φ 26 = mEqA kGroup from rfl, show Φ 22 = mEqL kAlarm from rfl, show Φ 65 = mEqL kLabel from rfl, mEqA, mEqL, g26, eqDs_cons, eqDs_nil, eqD_str, eqD_int, eqD_bool, eqD_sl]
  rw [Bool.eq_iff_iff]
  simp [and_assoc, and_comm, and_left_comm])
theorem ok59 : Good1 Tryz.prog Φ g59 := good1 tok mixed (l := []) (by simp) Tryz.func59 (by decide) (by decide) v59_eq (args2 fun a b hw hp => by
  simp [g59] at hw
  exact eqV'_wp (Φ := Φ) (a := a) (b := b) (p := eqDs [.str]) (tests := []) (t := .op (.sbin .neq) [.op (.fld 0) [mkE (.var 0) (.var 2)], .op (.fld 0) [mkE (.var 1) (.var 2)]]) hw.1.1
    (fun i h1 h2 => ⟨trivial, by simp [rowAt_nat, eqDs_cons, eqDs_nil, eqD_str, eqD_int, eqD_bool]⟩) _)
theorem ok21 : Good1 Tryz.prog Φ g21 := good1 tok mixed (l := [g59]) (by simp [ok59]) Tryz.func21 (by decide) (by decide) v21_eq (args2 fun a b hw hp => by
  simp [v21, show Φ 21 = mEqA kConf from rfl, show Φ 59 = mEqL [.str] from rfl, mEqA, mEqL, g21, eqDs_cons, eqDs_nil, eqD_str, eqD_int, eqD_bool, eqD_sl]
  rw [Bool.eq_iff_iff]
  simp [and_assoc, and_comm, and_left_comm])

theorem ok99 : Good1 Tryz.prog Φ g99 := good1 tok mixed (l := []) (by simp) Tryz.func99 (by decide) (by decide) v99_eq (args2 fun a b hw hp => by
  simp [g99] at hw
  exact eqV_wp (Φ := Φ) (a := a) (b := b) (p := eqDs kLabel) (tests := []) (t := .op .and [.op (.sbin .eql) [.op (.fld 0) [.op .row [.var 0, .var 2]], .op (.fld 0) [.op .row [.var 1, .var 2]]], .op (.sbin .eql) [.op (.fld 1) [.op .row [.var 0, .var 2]], .op (.fld 1) [.op .row [.var 1, .var 2]]]]) hw.1.1
    (fun i h1 h2 => by simp [rowAt_nat, eqDs_cons, eqDs_nil, eqD_str]) _)
theorem ok78 : Good1 Tryz.prog Φ g78 := good1 tok mixed (l := [g99]) (by simp [ok99]) Tryz.func78 (by decide) (by decide) v78_eq (args2 fun a b hw hp => by
  simp [v78, show Φ 78 = mEqA kAlarm from rfl, show Φ 99 = mEqL kLabel from rfl, mEqA, mEqL, g78, eqDs_cons, eqDs_nil, eqD_str, eqD_int, eqD_bool, eqD_sl]
  rw [Bool.eq_iff_iff]
  simp [and_assoc, and_comm, and_left_comm])
theorem ok39 : Good1 Tryz.prog Φ g39 := good1 tok mixed (l := [g78]) (by simp [ok78]) Tryz.func39 (by decide) (by decide) v39_eq (args2 fun a b hw hp => by
  simp [g39] at hw
  exact eqV_wp (Φ := Φ) (a := a) (b := b) (p := eqDs kAlarm) (tests := [.op (.fn 78 1000) [mkE (.var 0) (.var 2), mkE (.var 1) (.var 2)]]) (t := .op (.fn 78 0) [mkE (.var 0) (.var 2), mkE (.var 1) (.var 2)]) hw.1.1
    (fun i h1 h2 => by simp only [conj_cons, conj_nil, den_op, dens_cons, dens_nil, op_fn, mkE_den, den_var, show Φ 78 = mEqA kAlarm from rfl, mEqA, con_ok, con_zero, cell_zero, cell_succ, D.asInt_int, D.asBool_bool, rowAt_nat, cell_zero, cell_succ, D.row_sl]; exact ⟨⟨trivial, trivial⟩, trivial⟩) _)
theorem ok76 : Good1 Tryz.prog Φ g76 := good1 tok mixed (l := [g39]) (by simp [ok39]) Tryz.func76 (by decide) (by decide) v76_eq (args2 fun a b hw hp => by
  simp [v76, show Φ 76 = mEqA kSub from rfl, show Φ 39 = mEqL kAlarm from rfl, mEqA, mEqL, g76, eqDs_cons, eqDs_nil, eqD_str, eqD_int, eqD_bool, eqD_sl]
  rw [Bool.eq_iff_iff]
  simp [and_assoc, and_comm, and_left_comm])
theorem ok77 : Good1 Tryz.prog Φ g77 := good1 tok mixed (l := [g39, g99]) (by simp [ok39, ok99]) Tryz.func77 (by decide) (by decide) v77_eq (args2 fun a b hw hp => by
  simp [v77, show Φ 77 = mEqA kGroup from rfl, show Φ 39 = mEqL kAlarm from rfl, show Φ 99 = mEqL kLabel from rfl, mEqA, mEqL, g77, eqDs_cons, eqDs_nil, eqD_str, eqD_int, eqD_bool, eqD_sl]
  rw [Bool.eq_iff_iff]
  simp [and_assoc, and_comm, and_left_comm])
theorem ok75 : Good1 Tryz.prog Φ g75 := good1 tok mixed (l := []) (by simp) Tryz.func75 (by decide) (by decide) v75_eq (args2 fun a b hw hp => by
  simp [g75] at hw
  exact eqV'_wp (Φ := Φ) (a := a) (b := b) (p := eqDs [.str]) (tests := []) (t := .op (.sbin .neq) [.op (.fld 0) [mkE (.var 0) (.var 2)], .op (.fld 0) [mkE (.var 1) (.var 2)]]) hw.1.1
    (fun i h1 h2 => ⟨trivial, by simp [rowAt_nat, eqDs_cons, eqDs_nil, eqD_str, eqD_int, eqD_bool]⟩) _)
theorem ok36 : Good1 Tryz.prog Φ g36 := good1 tok mixed (l := [g75]) (by simp [ok75]) Tryz.func36 (by decide) (by decide) v36_eq (args2 fun a b hw hp => by
  simp [v36, show Φ 36 = mEqA kConf from rfl, show Φ 75 = mEqL [.str] from rfl, mEqA, mEqL, g36, eqDs_cons, eqDs_nil, eqD_str, eqD_int, eqD_bool, eqD_sl]
  rw [Bool.eq_iff_iff]
  simp [and_assoc, and_comm, and_left_comm])

theorem ok37 : Good1 Tryz.prog Φ g37 := good1 tok mixed (l := [g76]) (by simp [ok76]) Tryz.func37 (by decide) (by decide) v37_eq (args2 fun a b hw hp => by
  simp [g37] at hw
  exact eqV_wp (Φ := Φ) (a := a) (b := b) (p := eqDs kSub) (tests := [.op (.fn 76 1000) [mkE (.var 0) (.var 2), mkE (.var 1) (.var 2)]]) (t := .op (.fn 76 0) [mkE (.var 0) (.var 2), mkE (.var 1) (.var 2)]) hw.1.1
    (fun i h1 h2 => by simp only [conj_cons, conj_nil, den_op, dens_cons, dens_nil, op_fn, mkE_den, den_var, show Φ 76 = mEqA kSub from rfl, mEqA, con_ok, con_zero, cell_zero, cell_succ, D.asInt_int, D.asBool_bool, rowAt_nat, cell_zero, cell_succ, D.row_sl]; exact ⟨⟨trivial, trivial⟩, trivial⟩) _)
theorem ok38 : Good1 Tryz.prog Φ g38 := good1 tok mixed (l := [g77]) (by simp [ok77]) Tryz.func38 (by decide) (by decide) v38_eq (args2 fun a b hw hp => by
  simp [g38] at hw
  exact eqV_wp (Φ := Φ) (a := a) (b := b) (p := eqDs kGroup) (tests := [.op (.fn 77 1000) [mkE (.var 0) (.var 2), mkE (.var 1) (.var 2)]]) (t := .op (.fn 77 0) [mkE (.var 0) (.var 2), mkE (.var 1) (.var 2)]) hw.1.1
    (fun i h1 h2 => by simp only [conj_cons, conj_nil, den_op, dens_cons, dens_nil, op_fn, mkE_den, den_var, show Φ 77 = mEqA kGroup from rfl, mEqA, con_ok, con_zero, cell_zero, cell_succ, D.asInt_int, D.asBool_bool, rowAt_nat, cell_zero, cell_succ, D.row_sl]; exact ⟨⟨trivial, trivial⟩, trivial⟩) _)

theorem szPt (r : List D) : (cell r 2).asList.length + sumR (szDs kChain) (cell r 2).asList ≤ szDs kPart r := by
  simp only [szDs_cons, szDs_nil, szD, cell_tail, Nat.zero_add, Nat.reduceAdd]
  omega
theorem szCh (r : List D) : (cell r 1).asList.length + sumR (szDs kAlarm) (cell r 1).asList ≤ szDs kChain r := by
  simp only [szDs_cons, szDs_nil, szD, cell_tail, Nat.zero_add, Nat.reduceAdd]
  omega

end Go.Proofs.YtllhihloidkghaaGreat

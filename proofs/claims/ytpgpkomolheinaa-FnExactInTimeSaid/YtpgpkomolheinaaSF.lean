/-
  The helpers of the laws: measure, copy, compare.
-/
import Derived.Test.YtpgpkomolheinaaSM
namespace Go.Proofs.Ytpgpkomolheinaa
open Go.Vx

theorem ok68 : Good1 Try.prog Φ g68 := good1 tok mixed (l := []) (by simp []) Try.func68 (by decide) (by decide) v68_eq (args2 fun a b hw hp => by
  simp [v68, show Φ 68 = mEqA kLabel from rfl, mEqA, mEqL, g68, eqDs_cons, eqDs_nil, eqD_str, eqD_int, eqD_bool, eqD_sl]
  simp +contextual <;> (intros; simp_all))
theorem ok62 : Good1 Try.prog Φ g62 := good1 tok mixed (l := []) (by simp []) Try.func62 (by decide) (by decide) v62_eq (args2 fun a b hw hp => by
  simp [g62, show Φ 62 = mSzA kLabel' from rfl, mSzA, szPre] at hw hp
  have := szSV_wp (Φ := Φ) (env := [a, b]) (B := fun _ _ => False) [.s (.op (.fld 0) [.var 0]), .s (.op (.fld 1) [.var 0])] [(cell a.row 0).asStr.size, (cell a.row 1).asStr.size] (.var 1) b.asInt (by simp +contextual [stOk, hw, mSzL, mSzA, szPre, szD]) rfl (by simp) hp.1 hp.2
  have e : szDs kLabel' a.row = sumN [(cell a.row 0).asStr.size, (cell a.row 1).asStr.size] := by simp [szDs_cons, szDs_nil, szD, sumN] <;> omega
  show v62.wp Φ (fun l => l = [.int (szM (szDs kLabel' a.row) b.asInt)]) [a, b] _
  rw [e]
  exact this)
theorem ok65 : Good1 Try.prog Φ g65 := good1 tok mixed (l := []) (by simp []) Try.func65 (by decide) (by decide) v65_eq (args1 fun a hw hp => by
  simp [g65, show Φ 65 = mToA kLabel' from rfl, mToA, toPre, szDs_cons, szDs_nil, szD] at hp
  simp [v65, show Φ 65 = mToA kLabel' from rfl, mToA, mToL, toPre, toPreL, szDs_cons, szDs_nil, szD, g65, cnDs_cons, cnDs_nil, cnD] <;> omega)
theorem ok22 : Good1 Try.prog Φ g22 := good1 tok mixed (l := [g68]) (by simpa using ok68) Try.func22 (by decide) (by decide) v22_eq (args2 fun a b hw hp => by
  simp [g22] at hw
  exact eqV_wp (Φ := Φ) (a := a) (b := b) (p := eqDs kLabel) (tests := [.op (.fn 68 1000) [mkE (.var 0) (.var 2), mkE (.var 1) (.var 2)]]) (t := .op (.fn 68 0) [mkE (.var 0) (.var 2), mkE (.var 1) (.var 2)]) hw.1.1
    (fun i h1 h2 => by simp only [conj_cons, conj_nil, den_op, dens_cons, dens_nil, op_fn, mkE_den, den_var, show Φ 68 = mEqA kLabel from rfl, mEqA, con_ok, con_zero, cell_zero, cell_succ, D.asInt_int, D.asBool_bool, rowAt_nat, cell_zero, cell_succ, D.row_sl]; exact ⟨⟨trivial, trivial⟩, trivial⟩) _)
theorem ok18 : Good1 Try.prog Φ g18 := good1 tok mixed (l := [g62]) (by simpa using ok62) Try.func18 (by decide) (by decide) v18_eq (args2 fun a b hw hp => by
  simp [g18, show Φ 18 = mSzL kLabel' from rfl, mSzL, szPre] at hw hp
  exact szV_wp (c := 62) (ks := kLabel') rfl hw.1.1 hp _)
theorem ok20 : Good1 Try.prog Φ g20 := good1 tok mixed (l := [g65]) (by simpa using ok65) Try.func20 (by decide) (by decide) v20_eq (args1 fun a hw hp => by
  simp [g20, show Φ 20 = mToL kLabel' from rfl, mToL, toPreL] at hw hp
  exact toV_wp (Φ := Φ) (a := a) (c := 65) (bytes := (TT 80).bytes) (tid := 80) (ks := kLabel') (ks' := kLabel) (by decide) rfl (fun _ => rfl) rfl hp _)
theorem ok39 : Good1 Try.prog Φ g39 := good1 tok mixed (l := [g22]) (by simp [ok22]) Try.func39 (by decide) (by decide) v39_eq (args2 fun a b hw hp => by
  simp [v39, show Φ 39 = mEqA kAlarm from rfl, show Φ 22 = mEqL kLabel from rfl, mEqA, mEqL, g39, eqDs_cons, eqDs_nil, eqD_str, eqD_int, eqD_bool, eqD_sl]
  simp +contextual <;> (intros; simp_all))
theorem ok59 : Good1 Try.prog Φ g59 := good1 tok mixed (l := [g18]) (by simp [ok18]) Try.func59 (by decide) (by decide) v59_eq (args2 fun a b hw hp => by
  simp [g59, show Φ 59 = mSzA kAlarm' from rfl, mSzA, szPre] at hw hp
  have := szSV_wp (Φ := Φ) (env := [a, b]) (B := fun _ _ => False) [.c 18 (.op (.fld 0) [.var 0]), .s (.op (.fld 3) [.var 0])] [szD (.sl 78 kLabel') (cell a.row 0), (cell a.row 3).asStr.size] (.var 1) b.asInt (by simp +contextual [stOk, hw, show Φ 18 = mSzL kLabel' from rfl, mSzL, mSzA, szPre, szD]) rfl (by simp) hp.1 hp.2
  have e : szDs kAlarm' a.row = sumN [szD (.sl 78 kLabel') (cell a.row 0), (cell a.row 3).asStr.size] := by simp [szDs_cons, szDs_nil, szD, sumN] <;> omega
  show v59.wp Φ (fun l => l = [.int (szM (szDs kAlarm' a.row) b.asInt)]) [a, b] _
  rw [e]
  exact this)
theorem ok61 : Good1 Try.prog Φ g61 := good1 tok mixed (l := [g20]) (by simp [ok20]) Try.func61 (by decide) (by decide) v61_eq (args1 fun a hw hp => by
  simp [g61, show Φ 61 = mToA kAlarm' from rfl, mToA, toPre, szDs_cons, szDs_nil, szD] at hp
  simp [v61, show Φ 61 = mToA kAlarm' from rfl, show Φ 20 = mToL kLabel' from rfl, mToA, mToL, toPre, toPreL, szDs_cons, szDs_nil, szD, g61, cnDs_cons, cnDs_nil, cnD] <;> omega)
theorem ok17 : Good1 Try.prog Φ g17 := good1 tok mixed (l := [g39]) (by simpa using ok39) Try.func17 (by decide) (by decide) v17_eq (args2 fun a b hw hp => by
  simp [g17] at hw
  exact eqV_wp (Φ := Φ) (a := a) (b := b) (p := eqDs kAlarm) (tests := [.op (.fn 39 1000) [mkE (.var 0) (.var 2), mkE (.var 1) (.var 2)]]) (t := .op (.fn 39 0) [mkE (.var 0) (.var 2), mkE (.var 1) (.var 2)]) hw.1.1
    (fun i h1 h2 => by simp only [conj_cons, conj_nil, den_op, dens_cons, dens_nil, op_fn, mkE_den, den_var, show Φ 39 = mEqA kAlarm from rfl, mEqA, con_ok, con_zero, cell_zero, cell_succ, D.asInt_int, D.asBool_bool, rowAt_nat, cell_zero, cell_succ, D.row_sl]; exact ⟨⟨trivial, trivial⟩, trivial⟩) _)
theorem ok13 : Good1 Try.prog Φ g13 := good1 tok mixed (l := [g59]) (by simpa using ok59) Try.func13 (by decide) (by decide) v13_eq (args2 fun a b hw hp => by
  simp [g13, show Φ 13 = mSzL kAlarm' from rfl, mSzL, szPre] at hw hp
  exact szV_wp (c := 59) (ks := kAlarm') rfl hw.1.1 hp _)
theorem ok15 : Good1 Try.prog Φ g15 := good1 tok mixed (l := [g61]) (by simpa using ok61) Try.func15 (by decide) (by decide) v15_eq (args1 fun a hw hp => by
  simp [g15, show Φ 15 = mToL kAlarm' from rfl, mToL, toPreL] at hw hp
  exact toV_wp (Φ := Φ) (a := a) (c := 61) (bytes := (TT 53).bytes) (tid := 53) (ks := kAlarm') (ks' := kAlarm) (by decide) rfl (fun _ => rfl) rfl hp _)
theorem ok75 : Good1 Try.prog Φ g75 := good1 tok mixed (l := [g17, g22, g39]) (by simp [ok17, ok22, ok39]) Try.func75 (by decide) (by decide) v75_eq (args2 fun a b hw hp => by
  simp [v75, show Φ 75 = mEqA kDeed from rfl, show Φ 17 = mEqL kAlarm from rfl, show Φ 22 = mEqL kLabel from rfl, show Φ 39 = mEqA kAlarm from rfl, mEqA, mEqL, g75, eqDs_cons, eqDs_nil, eqD_str, eqD_int, eqD_bool, eqD_sl]
  simp +contextual <;> (intros; simp_all))
theorem ok71 : Good1 Try.prog Φ g71 := good1 tok mixed (l := [g13, g18, g59]) (by simp [ok13, ok18, ok59]) Try.func71 (by decide) (by decide) v71_eq (args2 fun a b hw hp => by
  simp [g71, show Φ 71 = mSzA kDeed' from rfl, mSzA, szPre] at hw hp
  have := szSV_wp (Φ := Φ) (env := [a, b]) (B := fun _ _ => False) [.c 59 (.op .mk [.op (.fld 2) [.var 0], .op (.fld 3) [.var 0], .op (.fld 4) [.var 0], .op (.fld 5) [.var 0]]), .c 18 (.op (.fld 6) [.var 0]), .c 13 (.op (.fld 10) [.var 0])] [szDs kAlarm' [cell a.row 2, cell a.row 3, cell a.row 4, cell a.row 5], szD (.sl 78 kLabel') (cell a.row 6), szD (.sl 74 kAlarm') (cell a.row 10)] (.var 1) b.asInt (by simp +contextual [stOk, hw, show Φ 13 = mSzL kAlarm' from rfl, show Φ 18 = mSzL kLabel' from rfl, show Φ 59 = mSzA kAlarm' from rfl, mSzL, mSzA, szPre, szD]) rfl (by simp) hp.1 hp.2
  have e : szDs kDeed' a.row = sumN [szDs kAlarm' [cell a.row 2, cell a.row 3, cell a.row 4, cell a.row 5], szD (.sl 78 kLabel') (cell a.row 6), szD (.sl 74 kAlarm') (cell a.row 10)] := by simp [szDs_cons, szDs_nil, szD, sumN] <;> omega
  show v71.wp Φ (fun l => l = [.int (szM (szDs kDeed' a.row) b.asInt)]) [a, b] _
  rw [e]
  exact this)
theorem ok73 : Good1 Try.prog Φ g73 := good1 tok mixed (l := [g15, g20, g61]) (by simp [ok15, ok20, ok61]) Try.func73 (by decide) (by decide) v73_eq (args1 fun a hw hp => by
  simp [g73, show Φ 73 = mToA kDeed' from rfl, mToA, toPre, szDs_cons, szDs_nil, szD] at hp
  simp [v73, show Φ 73 = mToA kDeed' from rfl, show Φ 15 = mToL kAlarm' from rfl, show Φ 20 = mToL kLabel' from rfl, show Φ 61 = mToA kAlarm' from rfl, mToA, mToL, toPre, toPreL, szDs_cons, szDs_nil, szD, g73, cnDs_cons, cnDs_nil, cnD] <;> omega)
theorem ok30 : Good1 Try.prog Φ g30 := good1 tok mixed (l := [g75]) (by simpa using ok75) Try.func30 (by decide) (by decide) v30_eq (args2 fun a b hw hp => by
  simp [g30] at hw
  exact eqV_wp (Φ := Φ) (a := a) (b := b) (p := eqDs kDeed) (tests := [.op (.fn 75 1000) [mkE (.var 0) (.var 2), mkE (.var 1) (.var 2)]]) (t := .op (.fn 75 0) [mkE (.var 0) (.var 2), mkE (.var 1) (.var 2)]) hw.1.1
    (fun i h1 h2 => by simp only [conj_cons, conj_nil, den_op, dens_cons, dens_nil, op_fn, mkE_den, den_var, show Φ 75 = mEqA kDeed from rfl, mEqA, con_ok, con_zero, cell_zero, cell_succ, D.asInt_int, D.asBool_bool, rowAt_nat, cell_zero, cell_succ, D.row_sl]; exact ⟨⟨trivial, trivial⟩, trivial⟩) _)
theorem ok26 : Good1 Try.prog Φ g26 := good1 tok mixed (l := [g71]) (by simpa using ok71) Try.func26 (by decide) (by decide) v26_eq (args2 fun a b hw hp => by
  simp [g26, show Φ 26 = mSzL kDeed' from rfl, mSzL, szPre] at hw hp
  exact szV_wp (c := 71) (ks := kDeed') rfl hw.1.1 hp _)
theorem ok28 : Good1 Try.prog Φ g28 := good1 tok mixed (l := [g73]) (by simpa using ok73) Try.func28 (by decide) (by decide) v28_eq (args1 fun a hw hp => by
  simp [g28, show Φ 28 = mToL kDeed' from rfl, mToL, toPreL] at hw hp
  exact toV_wp (Φ := Φ) (a := a) (c := 73) (bytes := (TT 89).bytes) (tid := 89) (ks := kDeed') (ks' := kDeed) (by decide) rfl (fun _ => rfl) rfl hp _)

end Go.Proofs.Ytpgpkomolheinaa

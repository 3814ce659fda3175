/-
  The helpers of the laws: measure, copy, compare.
-/
import Derived.Test.YtpgpkomolheinaaDoorSM
namespace Go.Proofs.YtpgpkomolheinaaDoor
open Go.Vx

theorem ok38 : Good1 Tryd.prog Φ g38 := good1 tok mixed (l := []) (by simp []) Tryd.func38 (by decide) (by decide) v38_eq (args2 fun a b hw hp => by
  simp [v38, show Φ 38 = mEqA kLabel from rfl, mEqA, mEqL, g38, eqDs_cons, eqDs_nil, eqD_str, eqD_int, eqD_bool, eqD_sl]
  simp +contextual <;> (intros; simp_all))
theorem ok33 : Good1 Tryd.prog Φ g33 := good1 tok mixed (l := []) (by simp []) Tryd.func33 (by decide) (by decide) v33_eq (args2 fun a b hw hp => by
  simp [g33, show Φ 33 = mSzA kLabel' from rfl, mSzA, szPre] at hw hp
  have := szSV_wp (Φ := Φ) (env := [a, b]) (B := fun _ _ => False) [.s (.op (.fld 0) [.var 0]), .s (.op (.fld 1) [.var 0])] [(cell a.row 0).asStr.size, (cell a.row 1).asStr.size] (.var 1) b.asInt (by simp +contextual [stOk, hw, mSzL, mSzA, szPre, szD]) rfl (by simp) hp.1 hp.2
  have e : szDs kLabel' a.row = sumN [(cell a.row 0).asStr.size, (cell a.row 1).asStr.size] := by simp [szDs_cons, szDs_nil, szD, sumN] <;> omega
  show v33.wp Φ (fun l => l = [.int (szM (szDs kLabel' a.row) b.asInt)]) [a, b] _
  rw [e]
  exact this)
theorem ok35 : Good1 Tryd.prog Φ g35 := good1 tok mixed (l := []) (by simp []) Tryd.func35 (by decide) (by decide) v35_eq (args1 fun a hw hp => by
  simp [g35, show Φ 35 = mToA kLabel' from rfl, mToA, toPre, szDs_cons, szDs_nil, szD] at hp
  simp [v35, show Φ 35 = mToA kLabel' from rfl, mToA, mToL, toPre, toPreL, szDs_cons, szDs_nil, szD, g35, cnDs_cons, cnDs_nil, cnD] <;> omega)
theorem ok27 : Good1 Tryd.prog Φ g27 := good1 tok mixed (l := [g38]) (by simpa using ok38) Tryd.func27 (by decide) (by decide) v27_eq (args2 fun a b hw hp => by
  simp [g27] at hw
  exact eqV_wp (Φ := Φ) (a := a) (b := b) (p := eqDs kLabel) (tests := [.op (.fn 38 1000) [mkE (.var 0) (.var 2), mkE (.var 1) (.var 2)]]) (t := .op (.fn 38 0) [mkE (.var 0) (.var 2), mkE (.var 1) (.var 2)]) hw.1.1
    (fun i h1 h2 => by simp only [conj_cons, conj_nil, den_op, dens_cons, dens_nil, op_fn, mkE_den, den_var, show Φ 38 = mEqA kLabel from rfl, mEqA, con_ok, con_zero, cell_zero, cell_succ, D.asInt_int, D.asBool_bool, rowAt_nat, cell_zero, cell_succ, D.row_sl]; exact ⟨⟨trivial, trivial⟩, trivial⟩) _)
theorem ok21 : Good1 Tryd.prog Φ g21 := good1 tok mixed (l := [g33]) (by simpa using ok33) Tryd.func21 (by decide) (by decide) v21_eq (args2 fun a b hw hp => by
  simp [g21, show Φ 21 = mSzL kLabel' from rfl, mSzL, szPre] at hw hp
  exact szV_wp (c := 33) (ks := kLabel') rfl hw.1.1 hp _)
theorem ok24 : Good1 Tryd.prog Φ g24 := good1 tok mixed (l := [g35]) (by simpa using ok35) Tryd.func24 (by decide) (by decide) v24_eq (args1 fun a hw hp => by
  simp [g24, show Φ 24 = mToL kLabel' from rfl, mToL, toPreL] at hw hp
  exact toV_wp (Φ := Φ) (a := a) (c := 35) (bytes := (TT 70).bytes) (tid := 70) (ks := kLabel') (ks' := kLabel) (by decide) rfl (fun _ => rfl) rfl hp _)
theorem ok20 : Good1 Tryd.prog Φ g20 := good1 tok mixed (l := [g27]) (by simp [ok27]) Tryd.func20 (by decide) (by decide) v20_eq (args2 fun a b hw hp => by
  simp [v20, show Φ 20 = mEqA kAlarm from rfl, show Φ 27 = mEqL kLabel from rfl, mEqA, mEqL, g20, eqDs_cons, eqDs_nil, eqD_str, eqD_int, eqD_bool, eqD_sl]
  simp +contextual <;> (intros; simp_all))
theorem ok9 : Good1 Tryd.prog Φ g9 := good1 tok mixed (l := [g20]) (by simpa using ok20) Tryd.func9 (by decide) (by decide) v9_eq (args2 fun a b hw hp => by
  simp [g9] at hw
  exact eqV_wp (Φ := Φ) (a := a) (b := b) (p := eqDs kAlarm) (tests := [.op (.fn 20 1000) [mkE (.var 0) (.var 2), mkE (.var 1) (.var 2)]]) (t := .op (.fn 20 0) [mkE (.var 0) (.var 2), mkE (.var 1) (.var 2)]) hw.1.1
    (fun i h1 h2 => by simp only [conj_cons, conj_nil, den_op, dens_cons, dens_nil, op_fn, mkE_den, den_var, show Φ 20 = mEqA kAlarm from rfl, mEqA, con_ok, con_zero, cell_zero, cell_succ, D.asInt_int, D.asBool_bool, rowAt_nat, cell_zero, cell_succ, D.row_sl]; exact ⟨⟨trivial, trivial⟩, trivial⟩) _)
theorem ok14 : Good1 Tryd.prog Φ g14 := good1 tok mixed (l := [g9, g27]) (by simp [ok9, ok27]) Tryd.func14 (by decide) (by decide) v14_eq (args2 fun a b hw hp => by
  simp [v14, show Φ 14 = mEqA kBatch from rfl, show Φ 9 = mEqL kAlarm from rfl, show Φ 27 = mEqL kLabel from rfl, mEqA, mEqL, g14, eqDs_cons, eqDs_nil, eqD_str, eqD_int, eqD_bool, eqD_sl]
  simp +contextual <;> (intros; simp_all))
theorem ok15 : Good1 Tryd.prog Φ g15 := good1 tok mixed (l := [g21]) (by simp [ok21]) Tryd.func15 (by decide) (by decide) v15_eq (args2 fun a b hw hp => by
  simp [g15, show Φ 15 = mSzA kAlarm' from rfl, mSzA, szPre] at hw hp
  have := szSV_wp (Φ := Φ) (env := [a, b]) (B := fun _ _ => False) [.c 21 (.op (.fld 0) [.var 0]), .s (.op (.fld 3) [.var 0])] [szD (.sl 68 kLabel') (cell a.row 0), (cell a.row 3).asStr.size] (.var 1) b.asInt (by simp +contextual [stOk, hw, show Φ 21 = mSzL kLabel' from rfl, mSzL, mSzA, szPre, szD]) rfl (by simp) hp.1 hp.2
  have e : szDs kAlarm' a.row = sumN [szD (.sl 68 kLabel') (cell a.row 0), (cell a.row 3).asStr.size] := by simp [szDs_cons, szDs_nil, szD, sumN] <;> omega
  show v15.wp Φ (fun l => l = [.int (szM (szDs kAlarm' a.row) b.asInt)]) [a, b] _
  rw [e]
  exact this)
theorem ok5 : Good1 Tryd.prog Φ g5 := good1 tok mixed (l := [g15]) (by simpa using ok15) Tryd.func5 (by decide) (by decide) v5_eq (args2 fun a b hw hp => by
  simp [g5, show Φ 5 = mSzL kAlarm' from rfl, mSzL, szPre] at hw hp
  exact szV_wp (c := 15) (ks := kAlarm') rfl hw.1.1 hp _)
theorem ok10 : Good1 Tryd.prog Φ g10 := good1 tok mixed (l := [g5, g21]) (by simp [ok5, ok21]) Tryd.func10 (by decide) (by decide) v10_eq (args2 fun a b hw hp => by
  simp [g10, show Φ 10 = mSzA kBatch' from rfl, mSzA, szPre] at hw hp
  have := szSV_wp (Φ := Φ) (env := [a, b]) (B := fun _ _ => False) [.c 21 (.op (.fld 1) [.var 0]), .c 5 (.op (.fld 3) [.var 0])] [szD (.sl 68 kLabel') (cell a.row 1), szD (.sl 42 kAlarm') (cell a.row 3)] (.var 1) b.asInt (by simp +contextual [stOk, hw, show Φ 5 = mSzL kAlarm' from rfl, show Φ 21 = mSzL kLabel' from rfl, mSzL, mSzA, szPre, szD]) rfl (by simp) hp.1 hp.2
  have e : szDs kBatch' a.row = sumN [szD (.sl 68 kLabel') (cell a.row 1), szD (.sl 42 kAlarm') (cell a.row 3)] := by simp [szDs_cons, szDs_nil, szD, sumN] <;> omega
  show v10.wp Φ (fun l => l = [.int (szM (szDs kBatch' a.row) b.asInt)]) [a, b] _
  rw [e]
  exact this)
theorem ok17 : Good1 Tryd.prog Φ g17 := good1 tok mixed (l := [g24]) (by simp [ok24]) Tryd.func17 (by decide) (by decide) v17_eq (args1 fun a hw hp => by
  simp [g17, show Φ 17 = mToA kAlarm' from rfl, mToA, toPre, szDs_cons, szDs_nil, szD] at hp
  simp [v17, show Φ 17 = mToA kAlarm' from rfl, show Φ 24 = mToL kLabel' from rfl, mToA, mToL, toPre, toPreL, szDs_cons, szDs_nil, szD, g17, cnDs_cons, cnDs_nil, cnD] <;> omega)
theorem ok7 : Good1 Tryd.prog Φ g7 := good1 tok mixed (l := [g17]) (by simpa using ok17) Tryd.func7 (by decide) (by decide) v7_eq (args1 fun a hw hp => by
  simp [g7, show Φ 7 = mToL kAlarm' from rfl, mToL, toPreL] at hw hp
  exact toV_wp (Φ := Φ) (a := a) (c := 17) (bytes := (TT 45).bytes) (tid := 45) (ks := kAlarm') (ks' := kAlarm) (by decide) rfl (fun _ => rfl) rfl hp _)
theorem ok12 : Good1 Tryd.prog Φ g12 := good1 tok mixed (l := [g7, g24]) (by simp [ok7, ok24]) Tryd.func12 (by decide) (by decide) v12_eq (args1 fun a hw hp => by
  simp [g12, show Φ 12 = mToA kBatch' from rfl, mToA, toPre, szDs_cons, szDs_nil, szD] at hp
  simp [v12, show Φ 12 = mToA kBatch' from rfl, show Φ 7 = mToL kAlarm' from rfl, show Φ 24 = mToL kLabel' from rfl, mToA, mToL, toPre, toPreL, szDs_cons, szDs_nil, szD, g12, cnDs_cons, cnDs_nil, cnD] <;> omega)

end Go.Proofs.YtpgpkomolheinaaDoor

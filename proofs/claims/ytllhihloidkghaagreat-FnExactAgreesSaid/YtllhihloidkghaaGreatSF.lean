/-
  The helpers of the laws: measure, copy, compare.
-/
import Derived.Test.YtllhihloidkghaaGreatSM
set_option linter.unusedVariables false
set_option linter.unusedSimpArgs false
namespace Go.Proofs.YtllhihloidkghaaGreat
open Go.Vx

theorem ok106 : Good1 Tryz.prog Φ g106 := good1 tok mixed (l := []) (by simp) Tryz.func106 (by decide) (by decide) v106_eq (args2 fun a b hw hp => by
  simp [g106] at hw
  exact eqV'_wp (Φ := Φ) (a := a) (b := b) (p := eqDs [.int .i64]) (tests := []) (t := .op (.bin .neq .i64) [.op (.fld 0) [mkE (.var 0) (.var 2)], .op (.fld 0) [mkE (.var 1) (.var 2)]]) hw.1.1
    (fun i h1 h2 => ⟨trivial, by simp [rowAt_nat, eqDs_cons, eqDs_nil, eqD_str, eqD_int, eqD_bool]⟩) _)
theorem ok83 : Good1 Tryz.prog Φ g83 := good1 tok mixed (l := []) (by simp) Tryz.func83 (by decide) (by decide) v83_eq (args2 fun a b hw hp => by
  simp [g83] at hw
  exact eqV'_wp (Φ := Φ) (a := a) (b := b) (p := eqDs [.str]) (tests := []) (t := .op (.sbin .neq) [.op (.fld 0) [mkE (.var 0) (.var 2)], .op (.fld 0) [mkE (.var 1) (.var 2)]]) hw.1.1
    (fun i h1 h2 => ⟨trivial, by simp [rowAt_nat, eqDs_cons, eqDs_nil, eqD_str, eqD_int, eqD_bool]⟩) _)
theorem ok94 : Good1 Tryz.prog Φ g94 := good1 tok mixed (l := []) (by simp) Tryz.func94 (by decide) (by decide) v94_eq (args2 fun a b hw hp => by
  simp [g94, show Φ 94 = mSzL [.int .i64] from rfl, mSzL, szPre] at hw hp
  exact szC_wp (fun _ => rfl) hw.1.1 hp _)
theorem ok51 : Good1 Tryz.prog Φ g51 := good1 tok mixed (l := []) (by simp) Tryz.func51 (by decide) (by decide) v51_eq (args2 fun a b hw hp => by
  simp [g51, show Φ 51 = mSzL [.str] from rfl, mSzL, szPre] at hw hp
  exact szT_wp hw.1.1 hw.1.2 hp _)
theorem ok98 : Good1 Tryz.prog Φ g98 := good1 tok mixed (l := []) (by simp) Tryz.func98 (by decide) (by decide) v98_eq (args1 fun a hw hp => by
  simp [g98, show Φ 98 = mToL [.int .i64] from rfl, mToL, toPreL] at hw hp
  exact toV'_wp (Φ := Φ) (a := a) (tests := []) (src := mkE (.var 0) (.var 1)) (bytes := (TT 3).bytes) (tid := 3) (ks := [.int .i64]) (ks' := [.int .i64]) (by decide) rfl (fun _ => rfl) (fun i x hi => ⟨trivial, fun j hj => by
    have hj0 : j = 0 := by simp at hj; omega
    subst hj0
    simp only [mkE_den, den_var, cell_zero, cell_succ, D.asInt_int, rowAt_nat, D.row_sl, cnDs_cons, cnD]⟩) hp _)
theorem ok66 : Good1 Tryz.prog Φ g66 := good1 tok mixed (l := []) (by simp) Tryz.func66 (by decide) (by decide) v66_eq (args1 fun a hw hp => by
  simp [g66, show Φ 66 = mToL [.str] from rfl, mToL, toPreL] at hw hp
  exact toV'_wp (Φ := Φ) (a := a) (tests := []) (src := mkE (.var 0) (.var 1)) (bytes := (TT 9).bytes) (tid := 9) (ks := [.str]) (ks' := [.str]) (by decide) rfl (fun _ => rfl) (fun i x hi => ⟨trivial, fun j hj => by
    have hj0 : j = 0 := by simp at hj; omega
    subst hj0
    simp only [mkE_den, den_var, cell_zero, cell_succ, D.asInt_int, rowAt_nat, D.row_sl, cnDs_cons, cnD]⟩) hp _)
theorem ok117 : Good1 Tryz.prog Φ g117 := good1 tok mixed (l := []) (by simp []) Tryz.func117 (by decide) (by decide) v117_eq (args2 fun a b hw hp => by
  simp [v117, show Φ 117 = mEqA kLabel from rfl, mEqA, mEqL, g117, eqDs_cons, eqDs_nil, eqD_str, eqD_int, eqD_bool, eqD_sl]
  simp +contextual <;> (intros; simp_all))
theorem ok105 : Good1 Tryz.prog Φ g105 := good1 tok mixed (l := [g117]) (by simpa using ok117) Tryz.func105 (by decide) (by decide) v105_eq (args2 fun a b hw hp => by
  simp [g105] at hw
  exact eqV_wp (Φ := Φ) (a := a) (b := b) (p := eqDs kLabel) (tests := [.op (.fn 117 1000) [mkE (.var 0) (.var 2), mkE (.var 1) (.var 2)]]) (t := .op (.fn 117 0) [mkE (.var 0) (.var 2), mkE (.var 1) (.var 2)]) hw.1.1
    (fun i h1 h2 => by simp only [conj_cons, conj_nil, den_op, dens_cons, dens_nil, op_fn, mkE_den, den_var, show Φ 117 = mEqA kLabel from rfl, mEqA, con_ok, con_zero, cell_zero, cell_succ, D.asInt_int, D.asBool_bool, rowAt_nat, cell_zero, cell_succ, D.row_sl]; exact ⟨⟨trivial, trivial⟩, trivial⟩) _)
theorem ok86 : Good1 Tryz.prog Φ g86 := good1 tok mixed (l := [g105]) (by simp [ok105]) Tryz.func86 (by decide) (by decide) v86_eq (args2 fun a b hw hp => by
  simp [v86, show Φ 86 = mEqA kAlarm from rfl, show Φ 105 = mEqL kLabel from rfl, mEqA, mEqL, g86, eqDs_cons, eqDs_nil, eqD_str, eqD_int, eqD_bool, eqD_sl]
  simp +contextual <;> (intros; simp_all))
theorem ok45 : Good1 Tryz.prog Φ g45 := good1 tok mixed (l := [g86]) (by simpa using ok86) Tryz.func45 (by decide) (by decide) v45_eq (args2 fun a b hw hp => by
  simp [g45] at hw
  exact eqV_wp (Φ := Φ) (a := a) (b := b) (p := eqDs kAlarm) (tests := [.op (.fn 86 1000) [mkE (.var 0) (.var 2), mkE (.var 1) (.var 2)]]) (t := .op (.fn 86 0) [mkE (.var 0) (.var 2), mkE (.var 1) (.var 2)]) hw.1.1
    (fun i h1 h2 => by simp only [conj_cons, conj_nil, den_op, dens_cons, dens_nil, op_fn, mkE_den, den_var, show Φ 86 = mEqA kAlarm from rfl, mEqA, con_ok, con_zero, cell_zero, cell_succ, D.asInt_int, D.asBool_bool, rowAt_nat, cell_zero, cell_succ, D.row_sl]; exact ⟨⟨trivial, trivial⟩, trivial⟩) _)
theorem ok116 : Good1 Tryz.prog Φ g116 := good1 tok mixed (l := [g45]) (by simp [ok45]) Tryz.func116 (by decide) (by decide) v116_eq (args2 fun a b hw hp => by
  simp [v116, show Φ 116 = mEqA kChain from rfl, show Φ 45 = mEqL kAlarm from rfl, mEqA, mEqL, g116, eqDs_cons, eqDs_nil, eqD_str, eqD_int, eqD_bool, eqD_sl]
  simp +contextual <;> (intros; simp_all))
theorem ok85 : Good1 Tryz.prog Φ g85 := good1 tok mixed (l := [g45]) (by simp [ok45]) Tryz.func85 (by decide) (by decide) v85_eq (args2 fun a b hw hp => by
  simp [v85, show Φ 85 = mEqA kSub from rfl, show Φ 45 = mEqL kAlarm from rfl, mEqA, mEqL, g85, eqDs_cons, eqDs_nil, eqD_str, eqD_int, eqD_bool, eqD_sl]
  simp +contextual <;> (intros; simp_all))
theorem ok88 : Good1 Tryz.prog Φ g88 := good1 tok mixed (l := []) (by simp []) Tryz.func88 (by decide) (by decide) v88_eq (args2 fun a b hw hp => by
  simp [v88, show Φ 88 = mEqA kTimer from rfl, mEqA, mEqL, g88, eqDs_cons, eqDs_nil, eqD_str, eqD_int, eqD_bool, eqD_sl]
  simp +contextual <;> (intros; simp_all))
theorem ok108 : Good1 Tryz.prog Φ g108 := good1 tok mixed (l := []) (by simp []) Tryz.func108 (by decide) (by decide) v108_eq (args2 fun a b hw hp => by
  simp [g108, show Φ 108 = mSzA kLabel' from rfl, mSzA, szPre] at hw hp
  have := szSV_wp (Φ := Φ) (env := [a, b]) (B := fun _ _ => False) [.s (.op (.fld 0) [.var 0]), .s (.op (.fld 1) [.var 0])] [(cell a.row 0).asStr.size, (cell a.row 1).asStr.size] (.var 1) b.asInt (by simp +contextual [stOk, hw, mSzL, mSzA, szPre, szD]) rfl (by simp) hp.1 hp.2
  have e : szDs kLabel' a.row = sumN [(cell a.row 0).asStr.size, (cell a.row 1).asStr.size] := by simp [szDs_cons, szDs_nil, szD, sumN] <;> omega
  show v108.wp Φ (fun l => l = [.int (szM (szDs kLabel' a.row) b.asInt)]) [a, b] _
  rw [e]
  exact this)
theorem ok93 : Good1 Tryz.prog Φ g93 := good1 tok mixed (l := [g108]) (by simpa using ok108) Tryz.func93 (by decide) (by decide) v93_eq (args2 fun a b hw hp => by
  simp [g93, show Φ 93 = mSzL kLabel' from rfl, mSzL, szPre] at hw hp
  exact szV_wp (c := 108) (ks := kLabel') rfl hw.1.1 hp _)
theorem ok54 : Good1 Tryz.prog Φ g54 := good1 tok mixed (l := [g93]) (by simp [ok93]) Tryz.func54 (by decide) (by decide) v54_eq (args2 fun a b hw hp => by
  simp [g54, show Φ 54 = mSzA kAlarm' from rfl, mSzA, szPre] at hw hp
  have := szSV_wp (Φ := Φ) (env := [a, b]) (B := fun _ _ => False) [.c 93 (.op (.fld 0) [.var 0]), .s (.op (.fld 3) [.var 0])] [szD (.sl 172 kLabel') (cell a.row 0), (cell a.row 3).asStr.size] (.var 1) b.asInt (by simp +contextual [stOk, hw, show Φ 93 = mSzL kLabel' from rfl, mSzL, mSzA, szPre, szD]) rfl (by simp) hp.1 hp.2
  have e : szDs kAlarm' a.row = sumN [szD (.sl 172 kLabel') (cell a.row 0), (cell a.row 3).asStr.size] := by simp [szDs_cons, szDs_nil, szD, sumN] <;> omega
  show v54.wp Φ (fun l => l = [.int (szM (szDs kAlarm' a.row) b.asInt)]) [a, b] _
  rw [e]
  exact this)
theorem ok15 : Good1 Tryz.prog Φ g15 := good1 tok mixed (l := [g54]) (by simpa using ok54) Tryz.func15 (by decide) (by decide) v15_eq (args2 fun a b hw hp => by
  simp [g15, show Φ 15 = mSzL kAlarm' from rfl, mSzL, szPre] at hw hp
  exact szV_wp (c := 54) (ks := kAlarm') rfl hw.1.1 hp _)
theorem ok107 : Good1 Tryz.prog Φ g107 := good1 tok mixed (l := [g15]) (by simp [ok15]) Tryz.func107 (by decide) (by decide) v107_eq (args2 fun a b hw hp => by
  simp [g107, show Φ 107 = mSzA kChain' from rfl, mSzA, szPre] at hw hp
  have := szSV_wp (Φ := Φ) (env := [a, b]) (B := fun _ _ => False) [.c 15 (.op (.fld 1) [.var 0])] [szD (.sl 105 kAlarm') (cell a.row 1)] (.var 1) b.asInt (by simp +contextual [stOk, hw, show Φ 15 = mSzL kAlarm' from rfl, mSzL, mSzA, szPre, szD]) rfl (by simp) hp.1 hp.2
  have e : szDs kChain' a.row = sumN [szD (.sl 105 kAlarm') (cell a.row 1)] := by simp [szDs_cons, szDs_nil, szD, sumN] <;> omega
  show v107.wp Φ (fun l => l = [.int (szM (szDs kChain' a.row) b.asInt)]) [a, b] _
  rw [e]
  exact this)
theorem ok53 : Good1 Tryz.prog Φ g53 := good1 tok mixed (l := [g15]) (by simp [ok15]) Tryz.func53 (by decide) (by decide) v53_eq (args2 fun a b hw hp => by
  simp [g53, show Φ 53 = mSzA kSub' from rfl, mSzA, szPre] at hw hp
  have := szSV_wp (Φ := Φ) (env := [a, b]) (B := fun _ _ => False) [.c 15 (.op (.fld 0) [.var 0])] [szD (.sl 105 kAlarm') (cell a.row 0)] (.var 1) b.asInt (by simp +contextual [stOk, hw, show Φ 15 = mSzL kAlarm' from rfl, mSzL, mSzA, szPre, szD]) rfl (by simp) hp.1 hp.2
  have e : szDs kSub' a.row = sumN [szD (.sl 105 kAlarm') (cell a.row 0)] := by simp [szDs_cons, szDs_nil, szD, sumN] <;> omega
  show v53.wp Φ (fun l => l = [.int (szM (szDs kSub' a.row) b.asInt)]) [a, b] _
  rw [e]
  exact this)
theorem ok111 : Good1 Tryz.prog Φ g111 := good1 tok mixed (l := []) (by simp []) Tryz.func111 (by decide) (by decide) v111_eq (args1 fun a hw hp => by
  simp [g111, show Φ 111 = mToA kLabel' from rfl, mToA, toPre, szDs_cons, szDs_nil, szD] at hp
  simp [v111, show Φ 111 = mToA kLabel' from rfl, mToA, mToL, toPre, toPreL, szDs_cons, szDs_nil, szD, g111, cnDs_cons, cnDs_nil, cnD] <;> omega)
theorem ok97 : Good1 Tryz.prog Φ g97 := good1 tok mixed (l := [g111]) (by simpa using ok111) Tryz.func97 (by decide) (by decide) v97_eq (args1 fun a hw hp => by
  simp [g97, show Φ 97 = mToL kLabel' from rfl, mToL, toPreL] at hw hp
  exact toV_wp (Φ := Φ) (a := a) (c := 111) (bytes := (TT 159).bytes) (tid := 159) (ks := kLabel') (ks' := kLabel) (by decide) rfl (fun _ => rfl) rfl hp _)
theorem ok69 : Good1 Tryz.prog Φ g69 := good1 tok mixed (l := [g97]) (by simp [ok97]) Tryz.func69 (by decide) (by decide) v69_eq (args1 fun a hw hp => by
  simp [g69, show Φ 69 = mToA kAlarm' from rfl, mToA, toPre, szDs_cons, szDs_nil, szD] at hp
  simp [v69, show Φ 69 = mToA kAlarm' from rfl, show Φ 97 = mToL kLabel' from rfl, mToA, mToL, toPre, toPreL, szDs_cons, szDs_nil, szD, g69, cnDs_cons, cnDs_nil, cnD] <;> omega)
theorem ok30 : Good1 Tryz.prog Φ g30 := good1 tok mixed (l := [g69]) (by simpa using ok69) Tryz.func30 (by decide) (by decide) v30_eq (args1 fun a hw hp => by
  simp [g30, show Φ 30 = mToL kAlarm' from rfl, mToL, toPreL] at hw hp
  exact toV_wp (Φ := Φ) (a := a) (c := 69) (bytes := (TT 122).bytes) (tid := 122) (ks := kAlarm') (ks' := kAlarm) (by decide) rfl (fun _ => rfl) rfl hp _)
theorem ok110 : Good1 Tryz.prog Φ g110 := good1 tok mixed (l := [g30]) (by simp [ok30]) Tryz.func110 (by decide) (by decide) v110_eq (args1 fun a hw hp => by
  simp [g110, show Φ 110 = mToA kChain' from rfl, mToA, toPre, szDs_cons, szDs_nil, szD] at hp
  simp [v110, show Φ 110 = mToA kChain' from rfl, show Φ 30 = mToL kAlarm' from rfl, mToA, mToL, toPre, toPreL, szDs_cons, szDs_nil, szD, g110, cnDs_cons, cnDs_nil, cnD] <;> omega)
theorem ok68 : Good1 Tryz.prog Φ g68 := good1 tok mixed (l := [g30]) (by simp [ok30]) Tryz.func68 (by decide) (by decide) v68_eq (args1 fun a hw hp => by
  simp [g68, show Φ 68 = mToA kSub' from rfl, mToA, toPre, szDs_cons, szDs_nil, szD] at hp
  simp [v68, show Φ 68 = mToA kSub' from rfl, show Φ 30 = mToL kAlarm' from rfl, mToA, mToL, toPre, toPreL, szDs_cons, szDs_nil, szD, g68, cnDs_cons, cnDs_nil, cnD] <;> omega)
theorem ok71 : Good1 Tryz.prog Φ g71 := good1 tok mixed (l := []) (by simp []) Tryz.func71 (by decide) (by decide) v71_eq (args1 fun a hw hp => by
  simp [g71, show Φ 71 = mToA kTimer' from rfl, mToA, toPre, szDs_cons, szDs_nil, szD] at hp
  simp [v71, show Φ 71 = mToA kTimer' from rfl, mToA, mToL, toPre, toPreL, szDs_cons, szDs_nil, szD, g71, cnDs_cons, cnDs_nil, cnD] <;> omega)
theorem ok104 : Good1 Tryz.prog Φ g104 := good1 tok mixed (l := [g116]) (by simpa using ok116) Tryz.func104 (by decide) (by decide) v104_eq (args2 fun a b hw hp => by
  simp [g104] at hw
  exact eqV_wp (Φ := Φ) (a := a) (b := b) (p := eqDs kChain) (tests := [.op (.fn 116 1000) [mkE (.var 0) (.var 2), mkE (.var 1) (.var 2)]]) (t := .op (.fn 116 0) [mkE (.var 0) (.var 2), mkE (.var 1) (.var 2)]) hw.1.1
    (fun i h1 h2 => by simp only [conj_cons, conj_nil, den_op, dens_cons, dens_nil, op_fn, mkE_den, den_var, show Φ 116 = mEqA kChain from rfl, mEqA, con_ok, con_zero, cell_zero, cell_succ, D.asInt_int, D.asBool_bool, rowAt_nat, cell_zero, cell_succ, D.row_sl]; exact ⟨⟨trivial, trivial⟩, trivial⟩) _)
theorem ok44 : Good1 Tryz.prog Φ g44 := good1 tok mixed (l := [g85]) (by simpa using ok85) Tryz.func44 (by decide) (by decide) v44_eq (args2 fun a b hw hp => by
  simp [g44] at hw
  exact eqV_wp (Φ := Φ) (a := a) (b := b) (p := eqDs kSub) (tests := [.op (.fn 85 1000) [mkE (.var 0) (.var 2), mkE (.var 1) (.var 2)]]) (t := .op (.fn 85 0) [mkE (.var 0) (.var 2), mkE (.var 1) (.var 2)]) hw.1.1
    (fun i h1 h2 => by simp only [conj_cons, conj_nil, den_op, dens_cons, dens_nil, op_fn, mkE_den, den_var, show Φ 85 = mEqA kSub from rfl, mEqA, con_ok, con_zero, cell_zero, cell_succ, D.asInt_int, D.asBool_bool, rowAt_nat, cell_zero, cell_succ, D.row_sl]; exact ⟨⟨trivial, trivial⟩, trivial⟩) _)
theorem ok47 : Good1 Tryz.prog Φ g47 := good1 tok mixed (l := [g88]) (by simpa using ok88) Tryz.func47 (by decide) (by decide) v47_eq (args2 fun a b hw hp => by
  simp [g47] at hw
  exact eqV_wp (Φ := Φ) (a := a) (b := b) (p := eqDs kTimer) (tests := [.op (.fn 88 1000) [mkE (.var 0) (.var 2), mkE (.var 1) (.var 2)]]) (t := .op (.fn 88 0) [mkE (.var 0) (.var 2), mkE (.var 1) (.var 2)]) hw.1.1
    (fun i h1 h2 => by simp only [conj_cons, conj_nil, den_op, dens_cons, dens_nil, op_fn, mkE_den, den_var, show Φ 88 = mEqA kTimer from rfl, mEqA, con_ok, con_zero, cell_zero, cell_succ, D.asInt_int, D.asBool_bool, rowAt_nat, cell_zero, cell_succ, D.row_sl]; exact ⟨⟨trivial, trivial⟩, trivial⟩) _)
theorem ok92 : Good1 Tryz.prog Φ g92 := good1 tok mixed (l := [g107]) (by simpa using ok107) Tryz.func92 (by decide) (by decide) v92_eq (args2 fun a b hw hp => by
  simp [g92, show Φ 92 = mSzL kChain' from rfl, mSzL, szPre] at hw hp
  exact szV_wp (c := 107) (ks := kChain') rfl hw.1.1 hp _)
theorem ok14 : Good1 Tryz.prog Φ g14 := good1 tok mixed (l := [g53]) (by simpa using ok53) Tryz.func14 (by decide) (by decide) v14_eq (args2 fun a b hw hp => by
  simp [g14, show Φ 14 = mSzL kSub' from rfl, mSzL, szPre] at hw hp
  exact szV_wp (c := 53) (ks := kSub') rfl hw.1.1 hp _)
theorem ok17 : Good1 Tryz.prog Φ g17 := good1 tok mixed (l := []) (by simp) Tryz.func17 (by decide) (by decide) v17_eq (args2 fun a b hw hp => by
  simp [g17, show Φ 17 = mSzL kTimer' from rfl, mSzL, szPre] at hw hp
  exact szC_wp (fun _ => rfl) hw.1.1 hp _)
theorem ok96 : Good1 Tryz.prog Φ g96 := good1 tok mixed (l := [g110]) (by simpa using ok110) Tryz.func96 (by decide) (by decide) v96_eq (args1 fun a hw hp => by
  simp [g96, show Φ 96 = mToL kChain' from rfl, mToL, toPreL] at hw hp
  exact toV_wp (Φ := Φ) (a := a) (c := 110) (bytes := (TT 157).bytes) (tid := 157) (ks := kChain') (ks' := kChain) (by decide) rfl (fun _ => rfl) rfl hp _)
theorem ok29 : Good1 Tryz.prog Φ g29 := good1 tok mixed (l := [g68]) (by simpa using ok68) Tryz.func29 (by decide) (by decide) v29_eq (args1 fun a hw hp => by
  simp [g29, show Φ 29 = mToL kSub' from rfl, mToL, toPreL] at hw hp
  exact toV_wp (Φ := Φ) (a := a) (c := 68) (bytes := (TT 73).bytes) (tid := 73) (ks := kSub') (ks' := kSub) (by decide) rfl (fun _ => rfl) rfl hp _)
theorem ok32 : Good1 Tryz.prog Φ g32 := good1 tok mixed (l := [g71]) (by simpa using ok71) Tryz.func32 (by decide) (by decide) v32_eq (args1 fun a hw hp => by
  simp [g32, show Φ 32 = mToL kTimer' from rfl, mToL, toPreL] at hw hp
  exact toV_wp (Φ := Φ) (a := a) (c := 71) (bytes := (TT 138).bytes) (tid := 138) (ks := kTimer') (ks' := kTimer) (by decide) rfl (fun _ => rfl) rfl hp _)
theorem ok84 : Good1 Tryz.prog Φ g84 := good1 tok mixed (l := [g104]) (by simp [ok104]) Tryz.func84 (by decide) (by decide) v84_eq (args2 fun a b hw hp => by
  simp [v84, show Φ 84 = mEqA kPart from rfl, show Φ 104 = mEqL kChain from rfl, mEqA, mEqL, g84, eqDs_cons, eqDs_nil, eqD_str, eqD_int, eqD_bool, eqD_sl]
  simp +contextual <;> (intros; simp_all))
theorem ok52 : Good1 Tryz.prog Φ g52 := good1 tok mixed (l := [g92]) (by simp [ok92]) Tryz.func52 (by decide) (by decide) v52_eq (args2 fun a b hw hp => by
  simp [g52, show Φ 52 = mSzA kPart' from rfl, mSzA, szPre] at hw hp
  have := szSV_wp (Φ := Φ) (env := [a, b]) (B := fun _ _ => False) [.c 92 (.op (.fld 2) [.var 0])] [szD (.sl 170 kChain') (cell a.row 2)] (.var 1) b.asInt (by simp +contextual [stOk, hw, show Φ 92 = mSzL kChain' from rfl, mSzL, mSzA, szPre, szD]) rfl (by simp) hp.1 hp.2
  have e : szDs kPart' a.row = sumN [szD (.sl 170 kChain') (cell a.row 2)] := by simp [szDs_cons, szDs_nil, szD, sumN] <;> omega
  show v52.wp Φ (fun l => l = [.int (szM (szDs kPart' a.row) b.asInt)]) [a, b] _
  rw [e]
  exact this)
theorem ok67 : Good1 Tryz.prog Φ g67 := good1 tok mixed (l := [g96]) (by simp [ok96]) Tryz.func67 (by decide) (by decide) v67_eq (args1 fun a hw hp => by
  simp [g67, show Φ 67 = mToA kPart' from rfl, mToA, toPre, szDs_cons, szDs_nil, szD] at hp
  simp [v67, show Φ 67 = mToA kPart' from rfl, show Φ 96 = mToL kChain' from rfl, mToA, mToL, toPre, toPreL, szDs_cons, szDs_nil, szD, g67, cnDs_cons, cnDs_nil, cnD] <;> omega)
theorem ok43 : Good1 Tryz.prog Φ g43 := good1 tok mixed (l := [g84]) (by simpa using ok84) Tryz.func43 (by decide) (by decide) v43_eq (args2 fun a b hw hp => by
  simp [g43] at hw
  exact eqV_wp (Φ := Φ) (a := a) (b := b) (p := eqDs kPart) (tests := [.op (.fn 84 1000) [mkE (.var 0) (.var 2), mkE (.var 1) (.var 2)]]) (t := .op (.fn 84 0) [mkE (.var 0) (.var 2), mkE (.var 1) (.var 2)]) hw.1.1
    (fun i h1 h2 => by simp only [conj_cons, conj_nil, den_op, dens_cons, dens_nil, op_fn, mkE_den, den_var, show Φ 84 = mEqA kPart from rfl, mEqA, con_ok, con_zero, cell_zero, cell_succ, D.asInt_int, D.asBool_bool, rowAt_nat, cell_zero, cell_succ, D.row_sl]; exact ⟨⟨trivial, trivial⟩, trivial⟩) _)
theorem ok13 : Good1 Tryz.prog Φ g13 := good1 tok mixed (l := [g52]) (by simpa using ok52) Tryz.func13 (by decide) (by decide) v13_eq (args2 fun a b hw hp => by
  simp [g13, show Φ 13 = mSzL kPart' from rfl, mSzL, szPre] at hw hp
  exact szV_wp (c := 52) (ks := kPart') rfl hw.1.1 hp _)
theorem ok28 : Good1 Tryz.prog Φ g28 := good1 tok mixed (l := [g67]) (by simpa using ok67) Tryz.func28 (by decide) (by decide) v28_eq (args1 fun a hw hp => by
  simp [g28, show Φ 28 = mToL kPart' from rfl, mToL, toPreL] at hw hp
  exact toV_wp (Φ := Φ) (a := a) (c := 67) (bytes := (TT 126).bytes) (tid := 126) (ks := kPart') (ks' := kPart) (by decide) rfl (fun _ => rfl) rfl hp _)
theorem ok89 : Good1 Tryz.prog Φ g89 := good1 tok mixed (l := [g45, g105]) (by simp [ok45, ok105]) Tryz.func89 (by decide) (by decide) v89_eq (args2 fun a b hw hp => by
  simp [v89, show Φ 89 = mEqA kBatch from rfl, show Φ 45 = mEqL kAlarm from rfl, show Φ 105 = mEqL kLabel from rfl, mEqA, mEqL, g89, eqDs_cons, eqDs_nil, eqD_str, eqD_int, eqD_bool, eqD_sl]
  simp +contextual <;> (intros; simp_all))
theorem ok56 : Good1 Tryz.prog Φ g56 := good1 tok mixed (l := [g15, g93]) (by simp [ok15, ok93]) Tryz.func56 (by decide) (by decide) v56_eq (args2 fun a b hw hp => by
  simp [g56, show Φ 56 = mSzA kBatch' from rfl, mSzA, szPre] at hw hp
  have := szSV_wp (Φ := Φ) (env := [a, b]) (B := fun _ _ => False) [.c 93 (.op (.fld 1) [.var 0]), .c 15 (.op (.fld 3) [.var 0])] [szD (.sl 172 kLabel') (cell a.row 1), szD (.sl 105 kAlarm') (cell a.row 3)] (.var 1) b.asInt (by simp +contextual [stOk, hw, show Φ 15 = mSzL kAlarm' from rfl, show Φ 93 = mSzL kLabel' from rfl, mSzL, mSzA, szPre, szD]) rfl (by simp) hp.1 hp.2
  have e : szDs kBatch' a.row = sumN [szD (.sl 172 kLabel') (cell a.row 1), szD (.sl 105 kAlarm') (cell a.row 3)] := by simp [szDs_cons, szDs_nil, szD, sumN] <;> omega
  show v56.wp Φ (fun l => l = [.int (szM (szDs kBatch' a.row) b.asInt)]) [a, b] _
  rw [e]
  exact this)
theorem ok72 : Good1 Tryz.prog Φ g72 := good1 tok mixed (l := [g30, g97]) (by simp [ok30, ok97]) Tryz.func72 (by decide) (by decide) v72_eq (args1 fun a hw hp => by
  simp [g72, show Φ 72 = mToA kBatch' from rfl, mToA, toPre, szDs_cons, szDs_nil, szD] at hp
  simp [v72, show Φ 72 = mToA kBatch' from rfl, show Φ 30 = mToL kAlarm' from rfl, show Φ 97 = mToL kLabel' from rfl, mToA, mToL, toPre, toPreL, szDs_cons, szDs_nil, szD, g72, cnDs_cons, cnDs_nil, cnD] <;> omega)
theorem ok48 : Good1 Tryz.prog Φ g48 := good1 tok mixed (l := [g89]) (by simpa using ok89) Tryz.func48 (by decide) (by decide) v48_eq (args2 fun a b hw hp => by
  simp [g48] at hw
  exact eqV_wp (Φ := Φ) (a := a) (b := b) (p := eqDs kBatch) (tests := [.op (.fn 89 1000) [mkE (.var 0) (.var 2), mkE (.var 1) (.var 2)]]) (t := .op (.fn 89 0) [mkE (.var 0) (.var 2), mkE (.var 1) (.var 2)]) hw.1.1
    (fun i h1 h2 => by simp only [conj_cons, conj_nil, den_op, dens_cons, dens_nil, op_fn, mkE_den, den_var, show Φ 89 = mEqA kBatch from rfl, mEqA, con_ok, con_zero, cell_zero, cell_succ, D.asInt_int, D.asBool_bool, rowAt_nat, cell_zero, cell_succ, D.row_sl]; exact ⟨⟨trivial, trivial⟩, trivial⟩) _)
theorem ok18 : Good1 Tryz.prog Φ g18 := good1 tok mixed (l := [g56]) (by simpa using ok56) Tryz.func18 (by decide) (by decide) v18_eq (args2 fun a b hw hp => by
  simp [g18, show Φ 18 = mSzL kBatch' from rfl, mSzL, szPre] at hw hp
  exact szV_wp (c := 56) (ks := kBatch') rfl hw.1.1 hp _)
theorem ok33 : Good1 Tryz.prog Φ g33 := good1 tok mixed (l := [g72]) (by simpa using ok72) Tryz.func33 (by decide) (by decide) v33_eq (args1 fun a hw hp => by
  simp [g33, show Φ 33 = mToL kBatch' from rfl, mToL, toPreL] at hw hp
  exact toV_wp (Φ := Φ) (a := a) (c := 72) (bytes := (TT 142).bytes) (tid := 142) (ks := kBatch') (ks' := kBatch) (by decide) rfl (fun _ => rfl) rfl hp _)
theorem ok87 : Good1 Tryz.prog Φ g87 := good1 tok mixed (l := [g45, g105]) (by simp [ok45, ok105]) Tryz.func87 (by decide) (by decide) v87_eq (args2 fun a b hw hp => by
  simp [v87, show Φ 87 = mEqA kGroup from rfl, show Φ 45 = mEqL kAlarm from rfl, show Φ 105 = mEqL kLabel from rfl, mEqA, mEqL, g87, eqDs_cons, eqDs_nil, eqD_str, eqD_int, eqD_bool, eqD_sl]
  simp +contextual <;> (intros; simp_all))
theorem ok55 : Good1 Tryz.prog Φ g55 := good1 tok mixed (l := [g15, g93]) (by simp [ok15, ok93]) Tryz.func55 (by decide) (by decide) v55_eq (args2 fun a b hw hp => by
  simp [g55, show Φ 55 = mSzA kGroup' from rfl, mSzA, szPre] at hw hp
  have := szSV_wp (Φ := Φ) (env := [a, b]) (B := fun _ _ => False) [.c 93 (.op (.fld 1) [.var 0]), .c 15 (.op (.fld 4) [.var 0])] [szD (.sl 172 kLabel') (cell a.row 1), szD (.sl 105 kAlarm') (cell a.row 4)] (.var 1) b.asInt (by simp +contextual [stOk, hw, show Φ 15 = mSzL kAlarm' from rfl, show Φ 93 = mSzL kLabel' from rfl, mSzL, mSzA, szPre, szD]) rfl (by simp) hp.1 hp.2
  have e : szDs kGroup' a.row = sumN [szD (.sl 172 kLabel') (cell a.row 1), szD (.sl 105 kAlarm') (cell a.row 4)] := by simp [szDs_cons, szDs_nil, szD, sumN] <;> omega
  show v55.wp Φ (fun l => l = [.int (szM (szDs kGroup' a.row) b.asInt)]) [a, b] _
  rw [e]
  exact this)
theorem ok70 : Good1 Tryz.prog Φ g70 := good1 tok mixed (l := [g30, g97]) (by simp [ok30, ok97]) Tryz.func70 (by decide) (by decide) v70_eq (args1 fun a hw hp => by
  simp [g70, show Φ 70 = mToA kGroup' from rfl, mToA, toPre, szDs_cons, szDs_nil, szD] at hp
  simp [v70, show Φ 70 = mToA kGroup' from rfl, show Φ 30 = mToL kAlarm' from rfl, show Φ 97 = mToL kLabel' from rfl, mToA, mToL, toPre, toPreL, szDs_cons, szDs_nil, szD, g70, cnDs_cons, cnDs_nil, cnD] <;> omega)
theorem ok46 : Good1 Tryz.prog Φ g46 := good1 tok mixed (l := [g87]) (by simpa using ok87) Tryz.func46 (by decide) (by decide) v46_eq (args2 fun a b hw hp => by
  simp [g46] at hw
  exact eqV_wp (Φ := Φ) (a := a) (b := b) (p := eqDs kGroup) (tests := [.op (.fn 87 1000) [mkE (.var 0) (.var 2), mkE (.var 1) (.var 2)]]) (t := .op (.fn 87 0) [mkE (.var 0) (.var 2), mkE (.var 1) (.var 2)]) hw.1.1
    (fun i h1 h2 => by simp only [conj_cons, conj_nil, den_op, dens_cons, dens_nil, op_fn, mkE_den, den_var, show Φ 87 = mEqA kGroup from rfl, mEqA, con_ok, con_zero, cell_zero, cell_succ, D.asInt_int, D.asBool_bool, rowAt_nat, cell_zero, cell_succ, D.row_sl]; exact ⟨⟨trivial, trivial⟩, trivial⟩) _)
theorem ok16 : Good1 Tryz.prog Φ g16 := good1 tok mixed (l := [g55]) (by simpa using ok55) Tryz.func16 (by decide) (by decide) v16_eq (args2 fun a b hw hp => by
  simp [g16, show Φ 16 = mSzL kGroup' from rfl, mSzL, szPre] at hw hp
  exact szV_wp (c := 55) (ks := kGroup') rfl hw.1.1 hp _)
theorem ok31 : Good1 Tryz.prog Φ g31 := good1 tok mixed (l := [g70]) (by simpa using ok70) Tryz.func31 (by decide) (by decide) v31_eq (args1 fun a hw hp => by
  simp [g31, show Φ 31 = mToL kGroup' from rfl, mToL, toPreL] at hw hp
  exact toV_wp (Φ := Φ) (a := a) (c := 70) (bytes := (TT 77).bytes) (tid := 77) (ks := kGroup') (ks' := kGroup) (by decide) rfl (fun _ => rfl) rfl hp _)
theorem ok42 : Good1 Tryz.prog Φ g42 := good1 tok mixed (l := [g83]) (by simp [ok83]) Tryz.func42 (by decide) (by decide) v42_eq (args2 fun a b hw hp => by
  simp [v42, show Φ 42 = mEqA kConf from rfl, show Φ 83 = mEqL [.str] from rfl, mEqA, mEqL, g42, eqDs_cons, eqDs_nil, eqD_str, eqD_int, eqD_bool, eqD_sl]
  simp +contextual <;> (intros; simp_all))
theorem ok12 : Good1 Tryz.prog Φ g12 := good1 tok mixed (l := [g51]) (by simp [ok51]) Tryz.func12 (by decide) (by decide) v12_eq (args2 fun a b hw hp => by
  simp [g12, show Φ 12 = mSzA kConf' from rfl, mSzA, szPre] at hw hp
  have := szSV_wp (Φ := Φ) (env := [a, b]) (B := fun _ _ => False) [.c 51 (.op (.fld 5) [.var 0])] [szD (.sl 9 [.str]) (cell a.row 5)] (.var 1) b.asInt (by simp +contextual [stOk, hw, show Φ 51 = mSzL [.str] from rfl, mSzL, mSzA, szPre, szD]) rfl (by simp) hp.1 hp.2
  have e : szDs kConf' a.row = sumN [szD (.sl 9 [.str]) (cell a.row 5)] := by simp [szDs_cons, szDs_nil, szD, sumN] <;> omega
  show v12.wp Φ (fun l => l = [.int (szM (szDs kConf' a.row) b.asInt)]) [a, b] _
  rw [e]
  exact this)
theorem ok27 : Good1 Tryz.prog Φ g27 := good1 tok mixed (l := [g66]) (by simp [ok66]) Tryz.func27 (by decide) (by decide) v27_eq (args1 fun a hw hp => by
  simp [g27, show Φ 27 = mToA kConf' from rfl, mToA, toPre, szDs_cons, szDs_nil, szD] at hp
  simp [v27, show Φ 27 = mToA kConf' from rfl, show Φ 66 = mToL [.str] from rfl, mToA, mToL, toPre, toPreL, szDs_cons, szDs_nil, szD, g27, cnDs_cons, cnDs_nil, cnD] <;> omega)
theorem ok11 : Good1 Tryz.prog Φ g11 := good1 tok mixed (l := [g42, g44, g45, g46]) (by simp [ok42, ok44, ok45, ok46]) Tryz.func11 (by decide) (by decide) v11_eq (args2 fun a b hw hp => by
  simp [v11, show Φ 11 = mEqA kModel from rfl, show Φ 42 = mEqA kConf from rfl, show Φ 44 = mEqL kSub from rfl, show Φ 45 = mEqL kAlarm from rfl, show Φ 46 = mEqL kGroup from rfl, mEqA, mEqL, g11, eqDs_cons, eqDs_nil, eqD_str, eqD_int, eqD_bool, eqD_sl]
  simp +contextual <;> (intros; simp_all))
theorem ok5 : Good1 Tryz.prog Φ g5 := good1 tok mixed (l := [g12, g14, g15, g16]) (by simp [ok12, ok14, ok15, ok16]) Tryz.func5 (by decide) (by decide) v5_eq (args2 fun a b hw hp => by
  simp [g5, show Φ 5 = mSzA kModel' from rfl, mSzA, szPre] at hw hp
  have := szSV_wp (Φ := Φ) (env := [a, b]) (B := fun _ _ => False) [.c 12 (.var 0), .c 15 (.op (.fld 6) [.var 0]), .c 14 (.op (.fld 7) [.var 0]), .c 15 (.op (.fld 8) [.var 0]), .c 16 (.op (.fld 9) [.var 0])] [szDs kConf' a.row, szD (.sl 105 kAlarm') (cell a.row 6), szD (.sl 101 kSub') (cell a.row 7), szD (.sl 105 kAlarm') (cell a.row 8), szD (.sl 108 kGroup') (cell a.row 9)] (.var 1) b.asInt (by simp +contextual [stOk, hw, show Φ 12 = mSzA kConf' from rfl, show Φ 14 = mSzL kSub' from rfl, show Φ 15 = mSzL kAlarm' from rfl, show Φ 16 = mSzL kGroup' from rfl, mSzL, mSzA, szPre, szD]) rfl (by simp) hp.1 hp.2
  have e : szDs kModel' a.row = sumN [szDs kConf' a.row, szD (.sl 105 kAlarm') (cell a.row 6), szD (.sl 101 kSub') (cell a.row 7), szD (.sl 105 kAlarm') (cell a.row 8), szD (.sl 108 kGroup') (cell a.row 9)] := by simp [szDs_cons, szDs_nil, szD, sumN] <;> omega
  show v5.wp Φ (fun l => l = [.int (szM (szDs kModel' a.row) b.asInt)]) [a, b] _
  rw [e]
  exact this)
theorem ok8 : Good1 Tryz.prog Φ g8 := good1 tok mixed (l := [g27, g29, g30, g31]) (by simp [ok27, ok29, ok30, ok31]) Tryz.func8 (by decide) (by decide) v8_eq (args1 fun a hw hp => by
  simp [g8, show Φ 8 = mToA kModel' from rfl, mToA, toPre, szDs_cons, szDs_nil, szD] at hp
  simp [v8, show Φ 8 = mToA kModel' from rfl, show Φ 27 = mToA kConf' from rfl, show Φ 29 = mToL kSub' from rfl, show Φ 30 = mToL kAlarm' from rfl, show Φ 31 = mToL kGroup' from rfl, mToA, mToL, toPre, toPreL, szDs_cons, szDs_nil, szD, g8, cnDs_cons, cnDs_nil, cnD] <;> omega)
theorem ok90 : Good1 Tryz.prog Φ g90 := good1 tok mixed (l := [g45, g86, g105, g106]) (by simp [ok45, ok86, ok105, ok106]) Tryz.func90 (by decide) (by decide) v90_eq (args2 fun a b hw hp => by
  simp [v90, show Φ 90 = mEqA kTask from rfl, show Φ 45 = mEqL kAlarm from rfl, show Φ 86 = mEqA kAlarm from rfl, show Φ 105 = mEqL kLabel from rfl, show Φ 106 = mEqL [.int .i64] from rfl, mEqA, mEqL, g90, eqDs_cons, eqDs_nil, eqD_str, eqD_int, eqD_bool, eqD_sl]
  simp +contextual <;> (intros; simp_all))
theorem ok57 : Good1 Tryz.prog Φ g57 := good1 tok mixed (l := [g15, g54, g93, g94]) (by simp [ok15, ok54, ok93, ok94]) Tryz.func57 (by decide) (by decide) v57_eq (args2 fun a b hw hp => by
  simp [g57, show Φ 57 = mSzA kTask' from rfl, mSzA, szPre] at hw hp
  have := szSV_wp (Φ := Φ) (env := [a, b]) (B := fun _ _ => False) [.c 54 (.op .mk [.op (.fld 2) [.var 0], .op (.fld 3) [.var 0], .op (.fld 4) [.var 0], .op (.fld 5) [.var 0]]), .c 93 (.op (.fld 6) [.var 0]), .c 94 (.op (.fld 8) [.var 0]), .c 15 (.op (.fld 9) [.var 0])] [szDs kAlarm' [cell a.row 2, cell a.row 3, cell a.row 4, cell a.row 5], szD (.sl 172 kLabel') (cell a.row 6), szD (.sl 3 [.int .i64]) (cell a.row 8), szD (.sl 105 kAlarm') (cell a.row 9)] (.var 1) b.asInt (by simp +contextual [stOk, hw, show Φ 15 = mSzL kAlarm' from rfl, show Φ 54 = mSzA kAlarm' from rfl, show Φ 93 = mSzL kLabel' from rfl, show Φ 94 = mSzL [.int .i64] from rfl, mSzL, mSzA, szPre, szD]) rfl (by simp) hp.1 hp.2
  have e : szDs kTask' a.row = sumN [szDs kAlarm' [cell a.row 2, cell a.row 3, cell a.row 4, cell a.row 5], szD (.sl 172 kLabel') (cell a.row 6), szD (.sl 3 [.int .i64]) (cell a.row 8), szD (.sl 105 kAlarm') (cell a.row 9)] := by simp [szDs_cons, szDs_nil, szD, sumN] <;> omega
  show v57.wp Φ (fun l => l = [.int (szM (szDs kTask' a.row) b.asInt)]) [a, b] _
  rw [e]
  exact this)
theorem ok73 : Good1 Tryz.prog Φ g73 := good1 tok mixed (l := [g30, g69, g97, g98]) (by simp [ok30, ok69, ok97, ok98]) Tryz.func73 (by decide) (by decide) v73_eq (args1 fun a hw hp => by
  simp [g73, show Φ 73 = mToA kTask' from rfl, mToA, toPre, szDs_cons, szDs_nil, szD] at hp
  simp [v73, show Φ 73 = mToA kTask' from rfl, show Φ 30 = mToL kAlarm' from rfl, show Φ 69 = mToA kAlarm' from rfl, show Φ 97 = mToL kLabel' from rfl, show Φ 98 = mToL [.int .i64] from rfl, mToA, mToL, toPre, toPreL, szDs_cons, szDs_nil, szD, g73, cnDs_cons, cnDs_nil, cnD] <;> omega)
theorem ok49 : Good1 Tryz.prog Φ g49 := good1 tok mixed (l := [g90]) (by simpa using ok90) Tryz.func49 (by decide) (by decide) v49_eq (args2 fun a b hw hp => by
  simp [g49] at hw
  exact eqV_wp (Φ := Φ) (a := a) (b := b) (p := eqDs kTask) (tests := [.op (.fn 90 1000) [mkE (.var 0) (.var 2), mkE (.var 1) (.var 2)]]) (t := .op (.fn 90 0) [mkE (.var 0) (.var 2), mkE (.var 1) (.var 2)]) hw.1.1
    (fun i h1 h2 => by simp only [conj_cons, conj_nil, den_op, dens_cons, dens_nil, op_fn, mkE_den, den_var, show Φ 90 = mEqA kTask from rfl, mEqA, con_ok, con_zero, cell_zero, cell_succ, D.asInt_int, D.asBool_bool, rowAt_nat, cell_zero, cell_succ, D.row_sl]; exact ⟨⟨trivial, trivial⟩, trivial⟩) _)
theorem ok19 : Good1 Tryz.prog Φ g19 := good1 tok mixed (l := [g57]) (by simpa using ok57) Tryz.func19 (by decide) (by decide) v19_eq (args2 fun a b hw hp => by
  simp [g19, show Φ 19 = mSzL kTask' from rfl, mSzL, szPre] at hw hp
  exact szV_wp (c := 57) (ks := kTask') rfl hw.1.1 hp _)
theorem ok34 : Good1 Tryz.prog Φ g34 := good1 tok mixed (l := [g73]) (by simpa using ok73) Tryz.func34 (by decide) (by decide) v34_eq (args1 fun a hw hp => by
  simp [g34, show Φ 34 = mToL kTask' from rfl, mToL, toPreL] at hw hp
  exact toV_wp (Φ := Φ) (a := a) (c := 73) (bytes := (TT 129).bytes) (tid := 129) (ks := kTask') (ks' := kTask) (by decide) rfl (fun _ => rfl) rfl hp _)
theorem ok91 : Good1 Tryz.prog Φ g91 := good1 tok mixed (l := [g45, g86, g105]) (by simp [ok45, ok86, ok105]) Tryz.func91 (by decide) (by decide) v91_eq (args2 fun a b hw hp => by
  simp [v91, show Φ 91 = mEqA kDeed from rfl, show Φ 45 = mEqL kAlarm from rfl, show Φ 86 = mEqA kAlarm from rfl, show Φ 105 = mEqL kLabel from rfl, mEqA, mEqL, g91, eqDs_cons, eqDs_nil, eqD_str, eqD_int, eqD_bool, eqD_sl]
  simp +contextual <;> (intros; simp_all))
theorem ok58 : Good1 Tryz.prog Φ g58 := good1 tok mixed (l := [g15, g54, g93]) (by simp [ok15, ok54, ok93]) Tryz.func58 (by decide) (by decide) v58_eq (args2 fun a b hw hp => by
  simp [g58, show Φ 58 = mSzA kDeed' from rfl, mSzA, szPre] at hw hp
  have := szSV_wp (Φ := Φ) (env := [a, b]) (B := fun _ _ => False) [.c 54 (.op .mk [.op (.fld 2) [.var 0], .op (.fld 3) [.var 0], .op (.fld 4) [.var 0], .op (.fld 5) [.var 0]]), .c 93 (.op (.fld 6) [.var 0]), .c 15 (.op (.fld 10) [.var 0])] [szDs kAlarm' [cell a.row 2, cell a.row 3, cell a.row 4, cell a.row 5], szD (.sl 172 kLabel') (cell a.row 6), szD (.sl 105 kAlarm') (cell a.row 10)] (.var 1) b.asInt (by simp +contextual [stOk, hw, show Φ 15 = mSzL kAlarm' from rfl, show Φ 54 = mSzA kAlarm' from rfl, show Φ 93 = mSzL kLabel' from rfl, mSzL, mSzA, szPre, szD]) rfl (by simp) hp.1 hp.2
  have e : szDs kDeed' a.row = sumN [szDs kAlarm' [cell a.row 2, cell a.row 3, cell a.row 4, cell a.row 5], szD (.sl 172 kLabel') (cell a.row 6), szD (.sl 105 kAlarm') (cell a.row 10)] := by simp [szDs_cons, szDs_nil, szD, sumN] <;> omega
  show v58.wp Φ (fun l => l = [.int (szM (szDs kDeed' a.row) b.asInt)]) [a, b] _
  rw [e]
  exact this)
theorem ok74 : Good1 Tryz.prog Φ g74 := good1 tok mixed (l := [g30, g69, g97]) (by simp [ok30, ok69, ok97]) Tryz.func74 (by decide) (by decide) v74_eq (args1 fun a hw hp => by
  simp [g74, show Φ 74 = mToA kDeed' from rfl, mToA, toPre, szDs_cons, szDs_nil, szD] at hp
  simp [v74, show Φ 74 = mToA kDeed' from rfl, show Φ 30 = mToL kAlarm' from rfl, show Φ 69 = mToA kAlarm' from rfl, show Φ 97 = mToL kLabel' from rfl, mToA, mToL, toPre, toPreL, szDs_cons, szDs_nil, szD, g74, cnDs_cons, cnDs_nil, cnD] <;> omega)
theorem ok50 : Good1 Tryz.prog Φ g50 := good1 tok mixed (l := [g91]) (by simpa using ok91) Tryz.func50 (by decide) (by decide) v50_eq (args2 fun a b hw hp => by
  simp [g50] at hw
  exact eqV_wp (Φ := Φ) (a := a) (b := b) (p := eqDs kDeed) (tests := [.op (.fn 91 1000) [mkE (.var 0) (.var 2), mkE (.var 1) (.var 2)]]) (t := .op (.fn 91 0) [mkE (.var 0) (.var 2), mkE (.var 1) (.var 2)]) hw.1.1
    (fun i h1 h2 => by simp only [conj_cons, conj_nil, den_op, dens_cons, dens_nil, op_fn, mkE_den, den_var, show Φ 91 = mEqA kDeed from rfl, mEqA, con_ok, con_zero, cell_zero, cell_succ, D.asInt_int, D.asBool_bool, rowAt_nat, cell_zero, cell_succ, D.row_sl]; exact ⟨⟨trivial, trivial⟩, trivial⟩) _)
theorem ok20 : Good1 Tryz.prog Φ g20 := good1 tok mixed (l := [g58]) (by simpa using ok58) Tryz.func20 (by decide) (by decide) v20_eq (args2 fun a b hw hp => by
  simp [g20, show Φ 20 = mSzL kDeed' from rfl, mSzL, szPre] at hw hp
  exact szV_wp (c := 58) (ks := kDeed') rfl hw.1.1 hp _)
theorem ok35 : Good1 Tryz.prog Φ g35 := good1 tok mixed (l := [g74]) (by simpa using ok74) Tryz.func35 (by decide) (by decide) v35_eq (args1 fun a hw hp => by
  simp [g35, show Φ 35 = mToL kDeed' from rfl, mToL, toPreL] at hw hp
  exact toV_wp (Φ := Φ) (a := a) (c := 74) (bytes := (TT 146).bytes) (tid := 146) (ks := kDeed') (ks' := kDeed) (by decide) rfl (fun _ => rfl) rfl hp _)
theorem ok10 : Good1 Tryz.prog Φ g10 := good1 tok mixed (l := [g42, g43, g44, g45, g46, g47, g48, g49, g50]) (by simp [ok42, ok43, ok44, ok45, ok46, ok47, ok48, ok49, ok50]) Tryz.func10 (by decide) (by decide) v10_eq (args2 fun a b hw hp => by
  simp [v10, show Φ 10 = mEqA kWorld from rfl, show Φ 42 = mEqA kConf from rfl, show Φ 43 = mEqL kPart from rfl, show Φ 44 = mEqL kSub from rfl, show Φ 45 = mEqL kAlarm from rfl, show Φ 46 = mEqL kGroup from rfl, show Φ 47 = mEqL kTimer from rfl, show Φ 48 = mEqL kBatch from rfl, show Φ 49 = mEqL kTask from rfl, show Φ 50 = mEqL kDeed from rfl, mEqA, mEqL, g10, eqDs_cons, eqDs_nil, eqD_str, eqD_int, eqD_bool, eqD_sl]
  simp +contextual <;> (intros; simp_all))
theorem ok4 : Good1 Tryz.prog Φ g4 := good1 tok mixed (l := [g12, g13, g14, g15, g16, g17, g18, g19, g20]) (by simp [ok12, ok13, ok14, ok15, ok16, ok17, ok18, ok19, ok20]) Tryz.func4 (by decide) (by decide) v4_eq (args2 fun a b hw hp => by
  simp [g4, show Φ 4 = mSzA kWorld' from rfl, mSzA, szPre] at hw hp
  have := szSV_wp (Φ := Φ) (env := [a, b]) (B := fun _ _ => False) [.c 12 (.var 0), .c 13 (.op (.fld 8) [.var 0]), .c 14 (.op (.fld 9) [.var 0]), .c 15 (.op (.fld 10) [.var 0]), .c 16 (.op (.fld 12) [.var 0]), .c 17 (.op (.fld 14) [.var 0]), .c 18 (.op (.fld 15) [.var 0]), .c 15 (.op (.fld 16) [.var 0]), .c 19 (.op (.fld 17) [.var 0]), .c 20 (.op (.fld 18) [.var 0])] [szDs kConf' a.row, szD (.sl 98 kPart') (cell a.row 8), szD (.sl 101 kSub') (cell a.row 9), szD (.sl 105 kAlarm') (cell a.row 10), szD (.sl 108 kGroup') (cell a.row 12), szD (.sl 140 kTimer') (cell a.row 14), szD (.sl 111 kBatch') (cell a.row 15), szD (.sl 105 kAlarm') (cell a.row 16), szD (.sl 115 kTask') (cell a.row 17), szD (.sl 118 kDeed') (cell a.row 18)] (.var 1) b.asInt (by simp +contextual [stOk, hw, show Φ 12 = mSzA kConf' from rfl, show Φ 13 = mSzL kPart' from rfl, show Φ 14 = mSzL kSub' from rfl, show Φ 15 = mSzL kAlarm' from rfl, show Φ 16 = mSzL kGroup' from rfl, show Φ 17 = mSzL kTimer' from rfl, show Φ 18 = mSzL kBatch' from rfl, show Φ 19 = mSzL kTask' from rfl, show Φ 20 = mSzL kDeed' from rfl, mSzL, mSzA, szPre, szD]) rfl (by simp) hp.1 hp.2
  have e : szDs kWorld' a.row = sumN [szDs kConf' a.row, szD (.sl 98 kPart') (cell a.row 8), szD (.sl 101 kSub') (cell a.row 9), szD (.sl 105 kAlarm') (cell a.row 10), szD (.sl 108 kGroup') (cell a.row 12), szD (.sl 140 kTimer') (cell a.row 14), szD (.sl 111 kBatch') (cell a.row 15), szD (.sl 105 kAlarm') (cell a.row 16), szD (.sl 115 kTask') (cell a.row 17), szD (.sl 118 kDeed') (cell a.row 18)] := by simp [szDs_cons, szDs_nil, szD, sumN] <;> omega
  show v4.wp Φ (fun l => l = [.int (szM (szDs kWorld' a.row) b.asInt)]) [a, b] _
  rw [e]
  exact this)
theorem ok7 : Good1 Tryz.prog Φ g7 := good1 tok mixed (l := [g27, g28, g29, g30, g31, g32, g33, g34, g35]) (by simp [ok27, ok28, ok29, ok30, ok31, ok32, ok33, ok34, ok35]) Tryz.func7 (by decide) (by decide) v7_eq (args1 fun a hw hp => by
  simp [g7, show Φ 7 = mToA kWorld' from rfl, mToA, toPre, szDs_cons, szDs_nil, szD] at hp
  simp [v7, show Φ 7 = mToA kWorld' from rfl, show Φ 27 = mToA kConf' from rfl, show Φ 28 = mToL kPart' from rfl, show Φ 29 = mToL kSub' from rfl, show Φ 30 = mToL kAlarm' from rfl, show Φ 31 = mToL kGroup' from rfl, show Φ 32 = mToL kTimer' from rfl, show Φ 33 = mToL kBatch' from rfl, show Φ 34 = mToL kTask' from rfl, show Φ 35 = mToL kDeed' from rfl, mToA, mToL, toPre, toPreL, szDs_cons, szDs_nil, szD, g7, cnDs_cons, cnDs_nil, cnD] <;> omega)

end Go.Proofs.YtllhihloidkghaaGreat

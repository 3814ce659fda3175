/-
  The helpers of the laws: measure, copy, compare.
-/
import Derived.Test.YtllhihloidkghaaSM
set_option linter.unusedVariables false
set_option linter.unusedSimpArgs false
namespace Go.Proofs.Ytllhihloidkghaa
open Go.Vx

theorem ok38 : Good1 Try.prog Φ g38 := good1 tok mixed (l := []) (by simp) Try.func38 (by decide) (by decide) v38_eq (args1 fun a hw hp => by
  simp [g38, show Φ 38 = mText from rfl, mText] at hp
  exact text_wp hp _)
theorem ok121 : Good1 Try.prog Φ g121 := good1 tok mixed (l := []) (by simp) Try.func121 (by decide) (by decide) v121_eq (args2 fun a b hw hp => by
  simp [g121] at hw
  exact eqV'_wp (Φ := Φ) (a := a) (b := b) (p := eqDs [.int .i64]) (tests := []) (t := .op (.bin .neq .i64) [.op (.fld 0) [mkE (.var 0) (.var 2)], .op (.fld 0) [mkE (.var 1) (.var 2)]]) hw.1.1
    (fun i h1 h2 => ⟨trivial, by simp [rowAt_nat, eqDs_cons, eqDs_nil, eqD_str, eqD_int, eqD_bool]⟩) _)
theorem ok98 : Good1 Try.prog Φ g98 := good1 tok mixed (l := []) (by simp) Try.func98 (by decide) (by decide) v98_eq (args2 fun a b hw hp => by
  simp [g98] at hw
  exact eqV'_wp (Φ := Φ) (a := a) (b := b) (p := eqDs [.str]) (tests := []) (t := .op (.sbin .neq) [.op (.fld 0) [mkE (.var 0) (.var 2)], .op (.fld 0) [mkE (.var 1) (.var 2)]]) hw.1.1
    (fun i h1 h2 => ⟨trivial, by simp [rowAt_nat, eqDs_cons, eqDs_nil, eqD_str, eqD_int, eqD_bool]⟩) _)
theorem ok110 : Good1 Try.prog Φ g110 := goodXi tok mixed (l := []) (by simp []) Try.func110 (by decide) (by decide) (by decide) (by decide) v110_eq (fun _ _ _ => rfl) (fun a n hp => by
  simp only [g110, toldX, show Φ 110 = mMrkL [.int .i64] from rfl, mMrkL, con_ok, mrkPre, cell_zero, cell_succ, lenD_sl, D.asInt_int] at hp
  obtain ⟨⟨hl, hrs⟩, h0, hb⟩ := hp
  refine mark_wp (Φ := Φ) (f := mrkDs [.int .i64]) (c := cntDs [.int .i64]) hl (fun i d hi hdl hrow => ?_) fun d hd => mrk_post hd
  have hs := sumR_take_le (p := cntDs [.int .i64]) (xs := a.asList) (i := i + 1)
  rw [sumR_take _ hi] at hs
  obtain ⟨hr, hw⟩ := hrs _ (rowN_mem hi)
  simp only [List.length_cons, List.length_nil] at hr
  generalize hS : sumR (cntDs [.int .i64]) (a.asList.take i) = S at hs ⊢
  generalize rowN a.asList i = r at hr hw hs hrow ⊢
  generalize sumR (cntDs [.int .i64]) a.asList = T at hs hb
  obtain ⟨r0, r, rfl⟩ := List.exists_cons_of_length_pos (l := r) (by omega)
  simp only [List.length_cons] at hr
  obtain rfl : r = [] := List.eq_nil_of_length_eq_zero (by simpa using hr)
  simp only [cntDs_cons, cntDs_nil, cntD_int, cntD_bool, cntD_str, cntD_sl, cell_zero, cell_succ, List.tail_cons, lenDs_cons, lenDs_nil] at hs hw
  simp (disch := omega) [w64, mText, mMrkL, mrkPre, rowAt_nat, hrow, hdl, mrkDs_cons, mrkDs_nil, mrkD_int, mrkD_bool, mrkD_str, mrkD_sl, cntDs_cons, cntDs_nil, cntD_int, cntD_bool, cntD_str, cntD_sl, and_assoc]
  repeat' (first | omega | exact hi | rfl | exact hw.1 | apply And.intro))
theorem ok108 : Good1 Try.prog Φ g108 := goodXi tok mixed (l := [g38]) (by simp [ok38]) Try.func108 (by decide) (by decide) (by decide) (by decide) v108_eq (fun _ _ _ => rfl) (fun a n hp => by
  simp only [g108, toldX, show Φ 108 = mMrkL [.str] from rfl, mMrkL, con_ok, mrkPre, cell_zero, cell_succ, lenD_sl, D.asInt_int] at hp
  obtain ⟨⟨hl, hrs⟩, h0, hb⟩ := hp
  refine mark_wp (Φ := Φ) (f := mrkDs [.str]) (c := cntDs [.str]) hl (fun i d hi hdl hrow => ?_) fun d hd => mrk_post hd
  have hs := sumR_take_le (p := cntDs [.str]) (xs := a.asList) (i := i + 1)
  rw [sumR_take _ hi] at hs
  obtain ⟨hr, hw⟩ := hrs _ (rowN_mem hi)
  simp only [List.length_cons, List.length_nil] at hr
  generalize hS : sumR (cntDs [.str]) (a.asList.take i) = S at hs ⊢
  generalize rowN a.asList i = r at hr hw hs hrow ⊢
  generalize sumR (cntDs [.str]) a.asList = T at hs hb
  obtain ⟨r0, r, rfl⟩ := List.exists_cons_of_length_pos (l := r) (by omega)
  simp only [List.length_cons] at hr
  obtain rfl : r = [] := List.eq_nil_of_length_eq_zero (by simpa using hr)
  simp only [cntDs_cons, cntDs_nil, cntD_int, cntD_bool, cntD_str, cntD_sl, cell_zero, cell_succ, List.tail_cons, lenDs_cons, lenDs_nil] at hs hw
  simp (disch := omega) [w64, show Φ 38 = mText from rfl, mText, mMrkL, mrkPre, rowAt_nat, hrow, hdl, mrkDs_cons, mrkDs_nil, mrkD_int, mrkD_bool, mrkD_str, mrkD_sl, cntDs_cons, cntDs_nil, cntD_int, cntD_bool, cntD_str, cntD_sl, and_assoc]
  repeat' (first | omega | exact hi | rfl | exact hw.1 | apply And.intro))
theorem ok117 : Good1 Try.prog Φ g117 := good1 tok mixed (l := []) (by simp) Try.func117 (by decide) (by decide) v117_eq (args2 fun a b hw hp => by
  simp [g117, show Φ 117 = mSzL [.int .i64] from rfl, mSzL, szPre] at hw hp
  exact szC_wp (fun _ => rfl) hw.1.1 hp _)
theorem ok85 : Good1 Try.prog Φ g85 := good1 tok mixed (l := []) (by simp) Try.func85 (by decide) (by decide) v85_eq (args2 fun a b hw hp => by
  simp [g85, show Φ 85 = mSzL [.str] from rfl, mSzL, szPre] at hw hp
  exact szT_wp hw.1.1 hw.1.2 hp _)
theorem ok119 : Good1 Try.prog Φ g119 := good1 tok mixed (l := []) (by simp) Try.func119 (by decide) (by decide) v119_eq (args1 fun a hw hp => by
  simp [g119, show Φ 119 = mToL [.int .i64] from rfl, mToL, toPreL] at hw hp
  exact toV'_wp (Φ := Φ) (a := a) (tests := []) (src := mkE (.var 0) (.var 1)) (bytes := (TT 3).bytes) (tid := 3) (ks := [.int .i64]) (ks' := [.int .i64]) (by decide) rfl (fun _ => rfl) (fun i x hi => ⟨trivial, fun j hj => by
    have hj0 : j = 0 := by simp at hj; omega
    subst hj0
    simp only [mkE_den, den_var, cell_zero, cell_succ, D.asInt_int, rowAt_nat, D.row_sl, cnDs_cons, cnD]⟩) hp _)
theorem ok91 : Good1 Try.prog Φ g91 := good1 tok mixed (l := []) (by simp) Try.func91 (by decide) (by decide) v91_eq (args1 fun a hw hp => by
  simp [g91, show Φ 91 = mToL [.str] from rfl, mToL, toPreL] at hw hp
  exact toV'_wp (Φ := Φ) (a := a) (tests := []) (src := mkE (.var 0) (.var 1)) (bytes := (TT 9).bytes) (tid := 9) (ks := [.str]) (ks' := [.str]) (by decide) rfl (fun _ => rfl) (fun i x hi => ⟨trivial, fun j hj => by
    have hj0 : j = 0 := by simp at hj; omega
    subst hj0
    simp only [mkE_den, den_var, cell_zero, cell_succ, D.asInt_int, rowAt_nat, D.row_sl, cnDs_cons, cnD]⟩) hp _)
theorem ok115 : Good1 Try.prog Φ g115 := good1 tok mixed (l := []) (by simp []) Try.func115 (by decide) (by decide) v115_eq (args2 fun a b hw hp => by
  simp [v115, show Φ 115 = mEqA kLabel from rfl, mEqA, mEqL, g115, eqDs_cons, eqDs_nil, eqD_str, eqD_int, eqD_bool, eqD_sl]
  simp +contextual <;> (intros; simp_all))
theorem ok84 : Good1 Try.prog Φ g84 := good1 tok mixed (l := [g115]) (by simpa using ok115) Try.func84 (by decide) (by decide) v84_eq (args2 fun a b hw hp => by
  simp [g84] at hw
  exact eqV_wp (Φ := Φ) (a := a) (b := b) (p := eqDs kLabel) (tests := [.op (.fn 115 1000) [mkE (.var 0) (.var 2), mkE (.var 1) (.var 2)]]) (t := .op (.fn 115 0) [mkE (.var 0) (.var 2), mkE (.var 1) (.var 2)]) hw.1.1
    (fun i h1 h2 => by simp only [conj_cons, conj_nil, den_op, dens_cons, dens_nil, op_fn, mkE_den, den_var, show Φ 115 = mEqA kLabel from rfl, mEqA, con_ok, con_zero, cell_zero, cell_succ, D.asInt_int, D.asBool_bool, rowAt_nat, cell_zero, cell_succ, D.row_sl]; exact ⟨⟨trivial, trivial⟩, trivial⟩) _)
theorem ok35 : Good1 Try.prog Φ g35 := good1 tok mixed (l := [g84]) (by simp [ok84]) Try.func35 (by decide) (by decide) v35_eq (args2 fun a b hw hp => by
  simp [v35, show Φ 35 = mEqA kAlarm from rfl, show Φ 84 = mEqL kLabel from rfl, mEqA, mEqL, g35, eqDs_cons, eqDs_nil, eqD_str, eqD_int, eqD_bool, eqD_sl]
  simp +contextual <;> (intros; simp_all))
theorem ok12 : Good1 Try.prog Φ g12 := good1 tok mixed (l := [g35]) (by simpa using ok35) Try.func12 (by decide) (by decide) v12_eq (args2 fun a b hw hp => by
  simp [g12] at hw
  exact eqV_wp (Φ := Φ) (a := a) (b := b) (p := eqDs kAlarm) (tests := [.op (.fn 35 1000) [mkE (.var 0) (.var 2), mkE (.var 1) (.var 2)]]) (t := .op (.fn 35 0) [mkE (.var 0) (.var 2), mkE (.var 1) (.var 2)]) hw.1.1
    (fun i h1 h2 => by simp only [conj_cons, conj_nil, den_op, dens_cons, dens_nil, op_fn, mkE_den, den_var, show Φ 35 = mEqA kAlarm from rfl, mEqA, con_ok, con_zero, cell_zero, cell_succ, D.asInt_int, D.asBool_bool, rowAt_nat, cell_zero, cell_succ, D.row_sl]; exact ⟨⟨trivial, trivial⟩, trivial⟩) _)
theorem ok130 : Good1 Try.prog Φ g130 := good1 tok mixed (l := [g12]) (by simp [ok12]) Try.func130 (by decide) (by decide) v130_eq (args2 fun a b hw hp => by
  simp [v130, show Φ 130 = mEqA kChain from rfl, show Φ 12 = mEqL kAlarm from rfl, mEqA, mEqL, g130, eqDs_cons, eqDs_nil, eqD_str, eqD_int, eqD_bool, eqD_sl]
  simp +contextual <;> (intros; simp_all))
theorem ok100 : Good1 Try.prog Φ g100 := good1 tok mixed (l := [g12]) (by simp [ok12]) Try.func100 (by decide) (by decide) v100_eq (args2 fun a b hw hp => by
  simp [v100, show Φ 100 = mEqA kSub from rfl, show Φ 12 = mEqL kAlarm from rfl, mEqA, mEqL, g100, eqDs_cons, eqDs_nil, eqD_str, eqD_int, eqD_bool, eqD_sl]
  simp +contextual <;> (intros; simp_all))
theorem ok102 : Good1 Try.prog Φ g102 := good1 tok mixed (l := []) (by simp []) Try.func102 (by decide) (by decide) v102_eq (args2 fun a b hw hp => by
  simp [v102, show Φ 102 = mEqA kTimer from rfl, mEqA, mEqL, g102, eqDs_cons, eqDs_nil, eqD_str, eqD_int, eqD_bool, eqD_sl]
  simp +contextual <;> (intros; simp_all))
theorem ok111 : Good1 Try.prog Φ g111 := good1 tok mixed (l := []) (by simp []) Try.func111 (by decide) (by decide) v111_eq (args2 fun a b hw hp => by
  simp [g111, show Φ 111 = mSzA kLabel' from rfl, mSzA, szPre] at hw hp
  have := szSV_wp (Φ := Φ) (env := [a, b]) (B := fun _ _ => False) [.s (.op (.fld 0) [.var 0]), .s (.op (.fld 1) [.var 0])] [(cell a.row 0).asStr.size, (cell a.row 1).asStr.size] (.var 1) b.asInt (by simp +contextual [stOk, hw, mSzL, mSzA, szPre, szD]) rfl (by simp) hp.1 hp.2
  have e : szDs kLabel' a.row = sumN [(cell a.row 0).asStr.size, (cell a.row 1).asStr.size] := by simp [szDs_cons, szDs_nil, szD, sumN] <;> omega
  show v111.wp Φ (fun l => l = [.int (szM (szDs kLabel' a.row) b.asInt)]) [a, b] _
  rw [e]
  exact this)
theorem ok79 : Good1 Try.prog Φ g79 := good1 tok mixed (l := [g111]) (by simpa using ok111) Try.func79 (by decide) (by decide) v79_eq (args2 fun a b hw hp => by
  simp [g79, show Φ 79 = mSzL kLabel' from rfl, mSzL, szPre] at hw hp
  exact szV_wp (c := 111) (ks := kLabel') rfl hw.1.1 hp _)
theorem ok78 : Good1 Try.prog Φ g78 := good1 tok mixed (l := [g79]) (by simp [ok79]) Try.func78 (by decide) (by decide) v78_eq (args2 fun a b hw hp => by
  simp [g78, show Φ 78 = mSzA kAlarm' from rfl, mSzA, szPre] at hw hp
  have := szSV_wp (Φ := Φ) (env := [a, b]) (B := fun _ _ => False) [.c 79 (.op (.fld 0) [.var 0]), .s (.op (.fld 3) [.var 0])] [szD (.sl 176 kLabel') (cell a.row 0), (cell a.row 3).asStr.size] (.var 1) b.asInt (by simp +contextual [stOk, hw, show Φ 79 = mSzL kLabel' from rfl, mSzL, mSzA, szPre, szD]) rfl (by simp) hp.1 hp.2
  have e : szDs kAlarm' a.row = sumN [szD (.sl 176 kLabel') (cell a.row 0), (cell a.row 3).asStr.size] := by simp [szDs_cons, szDs_nil, szD, sumN] <;> omega
  show v78.wp Φ (fun l => l = [.int (szM (szDs kAlarm' a.row) b.asInt)]) [a, b] _
  rw [e]
  exact this)
theorem ok45 : Good1 Try.prog Φ g45 := good1 tok mixed (l := [g78]) (by simpa using ok78) Try.func45 (by decide) (by decide) v45_eq (args2 fun a b hw hp => by
  simp [g45, show Φ 45 = mSzL kAlarm' from rfl, mSzL, szPre] at hw hp
  exact szV_wp (c := 78) (ks := kAlarm') rfl hw.1.1 hp _)
theorem ok128 : Good1 Try.prog Φ g128 := good1 tok mixed (l := [g45]) (by simp [ok45]) Try.func128 (by decide) (by decide) v128_eq (args2 fun a b hw hp => by
  simp [g128, show Φ 128 = mSzA kChain' from rfl, mSzA, szPre] at hw hp
  have := szSV_wp (Φ := Φ) (env := [a, b]) (B := fun _ _ => False) [.c 45 (.op (.fld 1) [.var 0])] [szD (.sl 67 kAlarm') (cell a.row 1)] (.var 1) b.asInt (by simp +contextual [stOk, hw, show Φ 45 = mSzL kAlarm' from rfl, mSzL, mSzA, szPre, szD]) rfl (by simp) hp.1 hp.2
  have e : szDs kChain' a.row = sumN [szD (.sl 67 kAlarm') (cell a.row 1)] := by simp [szDs_cons, szDs_nil, szD, sumN] <;> omega
  show v128.wp Φ (fun l => l = [.int (szM (szDs kChain' a.row) b.asInt)]) [a, b] _
  rw [e]
  exact this)
theorem ok87 : Good1 Try.prog Φ g87 := good1 tok mixed (l := [g45]) (by simp [ok45]) Try.func87 (by decide) (by decide) v87_eq (args2 fun a b hw hp => by
  simp [g87, show Φ 87 = mSzA kSub' from rfl, mSzA, szPre] at hw hp
  have := szSV_wp (Φ := Φ) (env := [a, b]) (B := fun _ _ => False) [.c 45 (.op (.fld 0) [.var 0])] [szD (.sl 67 kAlarm') (cell a.row 0)] (.var 1) b.asInt (by simp +contextual [stOk, hw, show Φ 45 = mSzL kAlarm' from rfl, mSzL, mSzA, szPre, szD]) rfl (by simp) hp.1 hp.2
  have e : szDs kSub' a.row = sumN [szD (.sl 67 kAlarm') (cell a.row 0)] := by simp [szDs_cons, szDs_nil, szD, sumN] <;> omega
  show v87.wp Φ (fun l => l = [.int (szM (szDs kSub' a.row) b.asInt)]) [a, b] _
  rw [e]
  exact this)
theorem ok112 : Good1 Try.prog Φ g112 := good1 tok mixed (l := []) (by simp []) Try.func112 (by decide) (by decide) v112_eq (args1 fun a hw hp => by
  simp [g112, show Φ 112 = mToA kLabel' from rfl, mToA, toPre, szDs_cons, szDs_nil, szD] at hp
  simp [v112, show Φ 112 = mToA kLabel' from rfl, mToA, mToL, toPre, toPreL, szDs_cons, szDs_nil, szD, g112, cnDs_cons, cnDs_nil, cnD] <;> omega)
theorem ok81 : Good1 Try.prog Φ g81 := good1 tok mixed (l := [g112]) (by simpa using ok112) Try.func81 (by decide) (by decide) v81_eq (args1 fun a hw hp => by
  simp [g81, show Φ 81 = mToL kLabel' from rfl, mToL, toPreL] at hw hp
  exact toV_wp (Φ := Φ) (a := a) (c := 112) (bytes := (TT 129).bytes) (tid := 129) (ks := kLabel') (ks' := kLabel) (by decide) rfl (fun _ => rfl) rfl hp _)
theorem ok80 : Good1 Try.prog Φ g80 := good1 tok mixed (l := [g81]) (by simp [ok81]) Try.func80 (by decide) (by decide) v80_eq (args1 fun a hw hp => by
  simp [g80, show Φ 80 = mToA kAlarm' from rfl, mToA, toPre, szDs_cons, szDs_nil, szD] at hp
  simp [v80, show Φ 80 = mToA kAlarm' from rfl, show Φ 81 = mToL kLabel' from rfl, mToA, mToL, toPre, toPreL, szDs_cons, szDs_nil, szD, g80, cnDs_cons, cnDs_nil, cnD] <;> omega)
theorem ok53 : Good1 Try.prog Φ g53 := good1 tok mixed (l := [g80]) (by simpa using ok80) Try.func53 (by decide) (by decide) v53_eq (args1 fun a hw hp => by
  simp [g53, show Φ 53 = mToL kAlarm' from rfl, mToL, toPreL] at hw hp
  exact toV_wp (Φ := Φ) (a := a) (c := 80) (bytes := (TT 74).bytes) (tid := 74) (ks := kAlarm') (ks' := kAlarm) (by decide) rfl (fun _ => rfl) rfl hp _)
theorem ok129 : Good1 Try.prog Φ g129 := good1 tok mixed (l := [g53]) (by simp [ok53]) Try.func129 (by decide) (by decide) v129_eq (args1 fun a hw hp => by
  simp [g129, show Φ 129 = mToA kChain' from rfl, mToA, toPre, szDs_cons, szDs_nil, szD] at hp
  simp [v129, show Φ 129 = mToA kChain' from rfl, show Φ 53 = mToL kAlarm' from rfl, mToA, mToL, toPre, toPreL, szDs_cons, szDs_nil, szD, g129, cnDs_cons, cnDs_nil, cnD] <;> omega)
theorem ok93 : Good1 Try.prog Φ g93 := good1 tok mixed (l := [g53]) (by simp [ok53]) Try.func93 (by decide) (by decide) v93_eq (args1 fun a hw hp => by
  simp [g93, show Φ 93 = mToA kSub' from rfl, mToA, toPre, szDs_cons, szDs_nil, szD] at hp
  simp [v93, show Φ 93 = mToA kSub' from rfl, show Φ 53 = mToL kAlarm' from rfl, mToA, mToL, toPre, toPreL, szDs_cons, szDs_nil, szD, g93, cnDs_cons, cnDs_nil, cnD] <;> omega)
theorem ok95 : Good1 Try.prog Φ g95 := good1 tok mixed (l := []) (by simp []) Try.func95 (by decide) (by decide) v95_eq (args1 fun a hw hp => by
  simp [g95, show Φ 95 = mToA kTimer' from rfl, mToA, toPre, szDs_cons, szDs_nil, szD] at hp
  simp [v95, show Φ 95 = mToA kTimer' from rfl, mToA, mToL, toPre, toPreL, szDs_cons, szDs_nil, szD, g95, cnDs_cons, cnDs_nil, cnD] <;> omega)
theorem ok120 : Good1 Try.prog Φ g120 := good1 tok mixed (l := [g130]) (by simpa using ok130) Try.func120 (by decide) (by decide) v120_eq (args2 fun a b hw hp => by
  simp [g120] at hw
  exact eqV_wp (Φ := Φ) (a := a) (b := b) (p := eqDs kChain) (tests := [.op (.fn 130 1000) [mkE (.var 0) (.var 2), mkE (.var 1) (.var 2)]]) (t := .op (.fn 130 0) [mkE (.var 0) (.var 2), mkE (.var 1) (.var 2)]) hw.1.1
    (fun i h1 h2 => by simp only [conj_cons, conj_nil, den_op, dens_cons, dens_nil, op_fn, mkE_den, den_var, show Φ 130 = mEqA kChain from rfl, mEqA, con_ok, con_zero, cell_zero, cell_succ, D.asInt_int, D.asBool_bool, rowAt_nat, cell_zero, cell_succ, D.row_sl]; exact ⟨⟨trivial, trivial⟩, trivial⟩) _)
theorem ok60 : Good1 Try.prog Φ g60 := good1 tok mixed (l := [g100]) (by simpa using ok100) Try.func60 (by decide) (by decide) v60_eq (args2 fun a b hw hp => by
  simp [g60] at hw
  exact eqV_wp (Φ := Φ) (a := a) (b := b) (p := eqDs kSub) (tests := [.op (.fn 100 1000) [mkE (.var 0) (.var 2), mkE (.var 1) (.var 2)]]) (t := .op (.fn 100 0) [mkE (.var 0) (.var 2), mkE (.var 1) (.var 2)]) hw.1.1
    (fun i h1 h2 => by simp only [conj_cons, conj_nil, den_op, dens_cons, dens_nil, op_fn, mkE_den, den_var, show Φ 100 = mEqA kSub from rfl, mEqA, con_ok, con_zero, cell_zero, cell_succ, D.asInt_int, D.asBool_bool, rowAt_nat, cell_zero, cell_succ, D.row_sl]; exact ⟨⟨trivial, trivial⟩, trivial⟩) _)
theorem ok62 : Good1 Try.prog Φ g62 := good1 tok mixed (l := [g102]) (by simpa using ok102) Try.func62 (by decide) (by decide) v62_eq (args2 fun a b hw hp => by
  simp [g62] at hw
  exact eqV_wp (Φ := Φ) (a := a) (b := b) (p := eqDs kTimer) (tests := [.op (.fn 102 1000) [mkE (.var 0) (.var 2), mkE (.var 1) (.var 2)]]) (t := .op (.fn 102 0) [mkE (.var 0) (.var 2), mkE (.var 1) (.var 2)]) hw.1.1
    (fun i h1 h2 => by simp only [conj_cons, conj_nil, den_op, dens_cons, dens_nil, op_fn, mkE_den, den_var, show Φ 102 = mEqA kTimer from rfl, mEqA, con_ok, con_zero, cell_zero, cell_succ, D.asInt_int, D.asBool_bool, rowAt_nat, cell_zero, cell_succ, D.row_sl]; exact ⟨⟨trivial, trivial⟩, trivial⟩) _)
theorem ok39 : Good1 Try.prog Φ g39 := good1e tok mixed (l := [g38]) (by simp [ok38]) Try.func39 (by decide) (by decide) v39_eq (args2 fun a b hw hp => by
  simp only [g39, told, show Φ 39 = mHldL kLabel from rfl, mHldL, con_ok, hldPre, cell_zero, cell_succ] at hp
  obtain ⟨hm, h0, hb⟩ := hp
  have hl : a.asList.length ≤ 140737488355328 := by
    simp only [g39, told, WFAs_cons, WFA_one, WFa_sl, lenMax] at hw
    exact hw.1.1
  refine held_wp (Φ := Φ) (c := cntDs kLabel) hl (fun i x hi hx => ?_) fun x hx => by simp [g39, told, RSh.cells, show Φ 39 = mHldL kLabel from rfl, mHldL, hx]
  have hr := allR_get hm hi
  have hs := sumR_take_le (p := cntDs kLabel) (xs := a.asList) (i := i + 1)
  rw [sumR_take _ hi] at hs
  generalize sumR (cntDs kLabel) (a.asList.take i) = S at hs hx hr ⊢
  generalize hR : rowN a.asList i = r at hs hr ⊢
  generalize sumR (cntDs kLabel) a.asList = T at hs hb
  simp [mkdDs_cons, mkdDs_nil, mkdD_int, mkdD_bool, mkdD_str, mkdD_sl, cntDs_cons, cntDs_nil, cntD_int, cntD_bool, cntD_str, cntD_sl, ← Int.add_assoc] at hr hs
  simp (disch := omega) [w64, show Φ 38 = mText from rfl, mText, mHldL, hldPre, rowAt_nat, hR, hx, hr, cntDs_cons, cntDs_nil, cntD_int, cntD_bool, cntD_str, cntD_sl, and_assoc]
  repeat' (first | omega | exact hi | rfl | apply And.intro | intro _))
theorem ok37 : Good1 Try.prog Φ g37 := goodXi tok mixed (l := [g38]) (by simp [ok38]) Try.func37 (by decide) (by decide) (by decide) (by decide) v37_eq (fun _ _ _ => rfl) (fun a n hp => by
  simp only [g37, toldX, show Φ 37 = mMrkL kLabel from rfl, mMrkL, con_ok, mrkPre, cell_zero, cell_succ, lenD_sl, D.asInt_int] at hp
  obtain ⟨⟨hl, hrs⟩, h0, hb⟩ := hp
  refine mark_wp (Φ := Φ) (f := mrkDs kLabel) (c := cntDs kLabel) hl (fun i d hi hdl hrow => ?_) fun d hd => mrk_post hd
  have hs := sumR_take_le (p := cntDs kLabel) (xs := a.asList) (i := i + 1)
  rw [sumR_take _ hi] at hs
  obtain ⟨hr, hw⟩ := hrs _ (rowN_mem hi)
  simp only [List.length_cons, List.length_nil] at hr
  generalize hS : sumR (cntDs kLabel) (a.asList.take i) = S at hs ⊢
  generalize rowN a.asList i = r at hr hw hs hrow ⊢
  generalize sumR (cntDs kLabel) a.asList = T at hs hb
  obtain ⟨r0, r, rfl⟩ := List.exists_cons_of_length_pos (l := r) (by omega)
  simp only [List.length_cons] at hr
  obtain ⟨r1, r, rfl⟩ := List.exists_cons_of_length_pos (l := r) (by omega)
  simp only [List.length_cons] at hr
  obtain rfl : r = [] := List.eq_nil_of_length_eq_zero (by simpa using hr)
  simp only [cntDs_cons, cntDs_nil, cntD_int, cntD_bool, cntD_str, cntD_sl, cell_zero, cell_succ, List.tail_cons, lenDs_cons, lenDs_nil] at hs hw
  simp (disch := omega) [w64, show Φ 38 = mText from rfl, mText, mMrkL, mrkPre, rowAt_nat, hrow, hdl, mrkDs_cons, mrkDs_nil, mrkD_int, mrkD_bool, mrkD_str, mrkD_sl, cntDs_cons, cntDs_nil, cntD_int, cntD_bool, cntD_str, cntD_sl, and_assoc]
  repeat' (first | omega | exact hi | rfl | exact hw.1 | exact hw.2.1 | apply And.intro))
theorem ok15 : Good1 Try.prog Φ g15 := goodXi tok mixed (l := [g37, g38]) (by simp [ok37, ok38]) Try.func15 (by decide) (by decide) (by decide) (by decide) v15_eq (fun _ _ _ => rfl) (fun a n hp => by
  simp only [g15, toldX, show Φ 15 = mMrkL kAlarm from rfl, mMrkL, con_ok, mrkPre, cell_zero, cell_succ, lenD_sl, D.asInt_int] at hp
  obtain ⟨⟨hl, hrs⟩, h0, hb⟩ := hp
  refine mark_wp (Φ := Φ) (f := mrkDs kAlarm) (c := cntDs kAlarm) hl (fun i d hi hdl hrow => ?_) fun d hd => mrk_post hd
  have hs := sumR_take_le (p := cntDs kAlarm) (xs := a.asList) (i := i + 1)
  rw [sumR_take _ hi] at hs
  obtain ⟨hr, hw⟩ := hrs _ (rowN_mem hi)
  simp only [List.length_cons, List.length_nil] at hr
  generalize hS : sumR (cntDs kAlarm) (a.asList.take i) = S at hs ⊢
  generalize rowN a.asList i = r at hr hw hs hrow ⊢
  generalize sumR (cntDs kAlarm) a.asList = T at hs hb
  obtain ⟨r0, r, rfl⟩ := List.exists_cons_of_length_pos (l := r) (by omega)
  simp only [List.length_cons] at hr
  obtain ⟨r1, r, rfl⟩ := List.exists_cons_of_length_pos (l := r) (by omega)
  simp only [List.length_cons] at hr
  obtain ⟨r2, r, rfl⟩ := List.exists_cons_of_length_pos (l := r) (by omega)
  simp only [List.length_cons] at hr
  obtain ⟨r3, r, rfl⟩ := List.exists_cons_of_length_pos (l := r) (by omega)
  simp only [List.length_cons] at hr
  obtain rfl : r = [] := List.eq_nil_of_length_eq_zero (by simpa using hr)
  simp only [cntDs_cons, cntDs_nil, cntD_int, cntD_bool, cntD_str, cntD_sl, cell_zero, cell_succ, List.tail_cons, lenDs_cons, lenDs_nil] at hs hw
  simp (disch := omega) [w64, show Φ 37 = mMrkL kLabel from rfl, show Φ 38 = mText from rfl, mText, mMrkL, mrkPre, rowAt_nat, hrow, hdl, mrkDs_cons, mrkDs_nil, mrkD_int, mrkD_bool, mrkD_str, mrkD_sl, cntDs_cons, cntDs_nil, cntD_int, cntD_bool, cntD_str, cntD_sl, and_assoc]
  repeat' (first | omega | exact hi | rfl | exact hw.1 | exact hw.2.1 | exact hw.2.2.1 | exact hw.2.2.2.1 | apply And.intro))
theorem ok109 : Good1 Try.prog Φ g109 := goodXi tok mixed (l := [g15]) (by simp [ok15]) Try.func109 (by decide) (by decide) (by decide) (by decide) v109_eq (fun _ _ _ => rfl) (fun a n hp => by
  simp only [g109, toldX, show Φ 109 = mMrkL kChain from rfl, mMrkL, con_ok, mrkPre, cell_zero, cell_succ, lenD_sl, D.asInt_int] at hp
  obtain ⟨⟨hl, hrs⟩, h0, hb⟩ := hp
  refine mark_wp (Φ := Φ) (f := mrkDs kChain) (c := cntDs kChain) hl (fun i d hi hdl hrow => ?_) fun d hd => mrk_post hd
  have hs := sumR_take_le (p := cntDs kChain) (xs := a.asList) (i := i + 1)
  rw [sumR_take _ hi] at hs
  obtain ⟨hr, hw⟩ := hrs _ (rowN_mem hi)
  simp only [List.length_cons, List.length_nil] at hr
  generalize hS : sumR (cntDs kChain) (a.asList.take i) = S at hs ⊢
  generalize rowN a.asList i = r at hr hw hs hrow ⊢
  generalize sumR (cntDs kChain) a.asList = T at hs hb
  obtain ⟨r0, r, rfl⟩ := List.exists_cons_of_length_pos (l := r) (by omega)
  simp only [List.length_cons] at hr
  obtain ⟨r1, r, rfl⟩ := List.exists_cons_of_length_pos (l := r) (by omega)
  simp only [List.length_cons] at hr
  obtain rfl : r = [] := List.eq_nil_of_length_eq_zero (by simpa using hr)
  simp only [cntDs_cons, cntDs_nil, cntD_int, cntD_bool, cntD_str, cntD_sl, cell_zero, cell_succ, List.tail_cons, lenDs_cons, lenDs_nil] at hs hw
  simp (disch := omega) [w64, show Φ 15 = mMrkL kAlarm from rfl, mText, mMrkL, mrkPre, rowAt_nat, hrow, hdl, mrkDs_cons, mrkDs_nil, mrkD_int, mrkD_bool, mrkD_str, mrkD_sl, cntDs_cons, cntDs_nil, cntD_int, cntD_bool, cntD_str, cntD_sl, and_assoc]
  repeat' (first | omega | exact hi | rfl | exact hw.1 | exact hw.2.1 | apply And.intro))
theorem ok73 : Good1 Try.prog Φ g73 := goodXi tok mixed (l := [g15]) (by simp [ok15]) Try.func73 (by decide) (by decide) (by decide) (by decide) v73_eq (fun _ _ _ => rfl) (fun a n hp => by
  simp only [g73, toldX, show Φ 73 = mMrkL kSub from rfl, mMrkL, con_ok, mrkPre, cell_zero, cell_succ, lenD_sl, D.asInt_int] at hp
  obtain ⟨⟨hl, hrs⟩, h0, hb⟩ := hp
  refine mark_wp (Φ := Φ) (f := mrkDs kSub) (c := cntDs kSub) hl (fun i d hi hdl hrow => ?_) fun d hd => mrk_post hd
  have hs := sumR_take_le (p := cntDs kSub) (xs := a.asList) (i := i + 1)
  rw [sumR_take _ hi] at hs
  obtain ⟨hr, hw⟩ := hrs _ (rowN_mem hi)
  simp only [List.length_cons, List.length_nil] at hr
  generalize hS : sumR (cntDs kSub) (a.asList.take i) = S at hs ⊢
  generalize rowN a.asList i = r at hr hw hs hrow ⊢
  generalize sumR (cntDs kSub) a.asList = T at hs hb
  obtain ⟨r0, r, rfl⟩ := List.exists_cons_of_length_pos (l := r) (by omega)
  simp only [List.length_cons] at hr
  obtain ⟨r1, r, rfl⟩ := List.exists_cons_of_length_pos (l := r) (by omega)
  simp only [List.length_cons] at hr
  obtain rfl : r = [] := List.eq_nil_of_length_eq_zero (by simpa using hr)
  simp only [cntDs_cons, cntDs_nil, cntD_int, cntD_bool, cntD_str, cntD_sl, cell_zero, cell_succ, List.tail_cons, lenDs_cons, lenDs_nil] at hs hw
  simp (disch := omega) [w64, show Φ 15 = mMrkL kAlarm from rfl, mText, mMrkL, mrkPre, rowAt_nat, hrow, hdl, mrkDs_cons, mrkDs_nil, mrkD_int, mrkD_bool, mrkD_str, mrkD_sl, cntDs_cons, cntDs_nil, cntD_int, cntD_bool, cntD_str, cntD_sl, and_assoc]
  repeat' (first | omega | exact hi | rfl | exact hw.1 | exact hw.2.1 | apply And.intro))
theorem ok75 : Good1 Try.prog Φ g75 := goodXi tok mixed (l := []) (by simp []) Try.func75 (by decide) (by decide) (by decide) (by decide) v75_eq (fun _ _ _ => rfl) (fun a n hp => by
  simp only [g75, toldX, show Φ 75 = mMrkL kTimer from rfl, mMrkL, con_ok, mrkPre, cell_zero, cell_succ, lenD_sl, D.asInt_int] at hp
  obtain ⟨⟨hl, hrs⟩, h0, hb⟩ := hp
  refine mark_wp (Φ := Φ) (f := mrkDs kTimer) (c := cntDs kTimer) hl (fun i d hi hdl hrow => ?_) fun d hd => mrk_post hd
  have hs := sumR_take_le (p := cntDs kTimer) (xs := a.asList) (i := i + 1)
  rw [sumR_take _ hi] at hs
  obtain ⟨hr, hw⟩ := hrs _ (rowN_mem hi)
  simp only [List.length_cons, List.length_nil] at hr
  generalize hS : sumR (cntDs kTimer) (a.asList.take i) = S at hs ⊢
  generalize rowN a.asList i = r at hr hw hs hrow ⊢
  generalize sumR (cntDs kTimer) a.asList = T at hs hb
  obtain ⟨r0, r, rfl⟩ := List.exists_cons_of_length_pos (l := r) (by omega)
  simp only [List.length_cons] at hr
  obtain ⟨r1, r, rfl⟩ := List.exists_cons_of_length_pos (l := r) (by omega)
  simp only [List.length_cons] at hr
  obtain rfl : r = [] := List.eq_nil_of_length_eq_zero (by simpa using hr)
  simp only [cntDs_cons, cntDs_nil, cntD_int, cntD_bool, cntD_str, cntD_sl, cell_zero, cell_succ, List.tail_cons, lenDs_cons, lenDs_nil] at hs hw
  simp (disch := omega) [w64, mText, mMrkL, mrkPre, rowAt_nat, hrow, hdl, mrkDs_cons, mrkDs_nil, mrkD_int, mrkD_bool, mrkD_str, mrkD_sl, cntDs_cons, cntDs_nil, cntD_int, cntD_bool, cntD_str, cntD_sl, and_assoc]
  repeat' (first | omega | exact hi | rfl | exact hw.1 | exact hw.2.1 | apply And.intro))
theorem ok116 : Good1 Try.prog Φ g116 := good1 tok mixed (l := [g128]) (by simpa using ok128) Try.func116 (by decide) (by decide) v116_eq (args2 fun a b hw hp => by
  simp [g116, show Φ 116 = mSzL kChain' from rfl, mSzL, szPre] at hw hp
  exact szV_wp (c := 128) (ks := kChain') rfl hw.1.1 hp _)
theorem ok44 : Good1 Try.prog Φ g44 := good1 tok mixed (l := [g87]) (by simpa using ok87) Try.func44 (by decide) (by decide) v44_eq (args2 fun a b hw hp => by
  simp [g44, show Φ 44 = mSzL kSub' from rfl, mSzL, szPre] at hw hp
  exact szV_wp (c := 87) (ks := kSub') rfl hw.1.1 hp _)
theorem ok47 : Good1 Try.prog Φ g47 := good1 tok mixed (l := []) (by simp) Try.func47 (by decide) (by decide) v47_eq (args2 fun a b hw hp => by
  simp [g47, show Φ 47 = mSzL kTimer' from rfl, mSzL, szPre] at hw hp
  exact szC_wp (fun _ => rfl) hw.1.1 hp _)
theorem ok118 : Good1 Try.prog Φ g118 := good1 tok mixed (l := [g129]) (by simpa using ok129) Try.func118 (by decide) (by decide) v118_eq (args1 fun a hw hp => by
  simp [g118, show Φ 118 = mToL kChain' from rfl, mToL, toPreL] at hw hp
  exact toV_wp (Φ := Φ) (a := a) (c := 129) (bytes := (TT 188).bytes) (tid := 188) (ks := kChain') (ks' := kChain) (by decide) rfl (fun _ => rfl) rfl hp _)
theorem ok52 : Good1 Try.prog Φ g52 := good1 tok mixed (l := [g93]) (by simpa using ok93) Try.func52 (by decide) (by decide) v52_eq (args1 fun a hw hp => by
  simp [g52, show Φ 52 = mToL kSub' from rfl, mToL, toPreL] at hw hp
  exact toV_wp (Φ := Φ) (a := a) (c := 93) (bytes := (TT 154).bytes) (tid := 154) (ks := kSub') (ks' := kSub) (by decide) rfl (fun _ => rfl) rfl hp _)
theorem ok55 : Good1 Try.prog Φ g55 := good1 tok mixed (l := [g95]) (by simpa using ok95) Try.func55 (by decide) (by decide) v55_eq (args1 fun a hw hp => by
  simp [g55, show Φ 55 = mToL kTimer' from rfl, mToL, toPreL] at hw hp
  exact toV_wp (Φ := Φ) (a := a) (c := 95) (bytes := (TT 160).bytes) (tid := 160) (ks := kTimer') (ks' := kTimer) (by decide) rfl (fun _ => rfl) rfl hp _)
theorem ok99 : Good1 Try.prog Φ g99 := good1 tok mixed (l := [g120]) (by simp [ok120]) Try.func99 (by decide) (by decide) v99_eq (args2 fun a b hw hp => by
  simp [v99, show Φ 99 = mEqA kPart from rfl, show Φ 120 = mEqL kChain from rfl, mEqA, mEqL, g99, eqDs_cons, eqDs_nil, eqD_str, eqD_int, eqD_bool, eqD_sl]
  simp +contextual <;> (intros; simp_all))
theorem ok86 : Good1 Try.prog Φ g86 := good1 tok mixed (l := [g116]) (by simp [ok116]) Try.func86 (by decide) (by decide) v86_eq (args2 fun a b hw hp => by
  simp [g86, show Φ 86 = mSzA kPart' from rfl, mSzA, szPre] at hw hp
  have := szSV_wp (Φ := Φ) (env := [a, b]) (B := fun _ _ => False) [.c 116 (.op (.fld 2) [.var 0])] [szD (.sl 202 kChain') (cell a.row 2)] (.var 1) b.asInt (by simp +contextual [stOk, hw, show Φ 116 = mSzL kChain' from rfl, mSzL, mSzA, szPre, szD]) rfl (by simp) hp.1 hp.2
  have e : szDs kPart' a.row = sumN [szD (.sl 202 kChain') (cell a.row 2)] := by simp [szDs_cons, szDs_nil, szD, sumN] <;> omega
  show v86.wp Φ (fun l => l = [.int (szM (szDs kPart' a.row) b.asInt)]) [a, b] _
  rw [e]
  exact this)
theorem ok92 : Good1 Try.prog Φ g92 := good1 tok mixed (l := [g118]) (by simp [ok118]) Try.func92 (by decide) (by decide) v92_eq (args1 fun a hw hp => by
  simp [g92, show Φ 92 = mToA kPart' from rfl, mToA, toPre, szDs_cons, szDs_nil, szD] at hp
  simp [v92, show Φ 92 = mToA kPart' from rfl, show Φ 118 = mToL kChain' from rfl, mToA, mToL, toPre, toPreL, szDs_cons, szDs_nil, szD, g92, cnDs_cons, cnDs_nil, cnD] <;> omega)
theorem ok59 : Good1 Try.prog Φ g59 := good1 tok mixed (l := [g99]) (by simpa using ok99) Try.func59 (by decide) (by decide) v59_eq (args2 fun a b hw hp => by
  simp [g59] at hw
  exact eqV_wp (Φ := Φ) (a := a) (b := b) (p := eqDs kPart) (tests := [.op (.fn 99 1000) [mkE (.var 0) (.var 2), mkE (.var 1) (.var 2)]]) (t := .op (.fn 99 0) [mkE (.var 0) (.var 2), mkE (.var 1) (.var 2)]) hw.1.1
    (fun i h1 h2 => by simp only [conj_cons, conj_nil, den_op, dens_cons, dens_nil, op_fn, mkE_den, den_var, show Φ 99 = mEqA kPart from rfl, mEqA, con_ok, con_zero, cell_zero, cell_succ, D.asInt_int, D.asBool_bool, rowAt_nat, cell_zero, cell_succ, D.row_sl]; exact ⟨⟨trivial, trivial⟩, trivial⟩) _)
theorem ok72 : Good1 Try.prog Φ g72 := goodXi tok mixed (l := [g109]) (by simp [ok109]) Try.func72 (by decide) (by decide) (by decide) (by decide) v72_eq (fun _ _ _ => rfl) (fun a n hp => by
  simp only [g72, toldX, show Φ 72 = mMrkL kPart from rfl, mMrkL, con_ok, mrkPre, cell_zero, cell_succ, lenD_sl, D.asInt_int] at hp
  obtain ⟨⟨hl, hrs⟩, h0, hb⟩ := hp
  refine mark_wp (Φ := Φ) (f := mrkDs kPart) (c := cntDs kPart) hl (fun i d hi hdl hrow => ?_) fun d hd => mrk_post hd
  have hs := sumR_take_le (p := cntDs kPart) (xs := a.asList) (i := i + 1)
  rw [sumR_take _ hi] at hs
  obtain ⟨hr, hw⟩ := hrs _ (rowN_mem hi)
  simp only [List.length_cons, List.length_nil] at hr
  generalize hS : sumR (cntDs kPart) (a.asList.take i) = S at hs ⊢
  generalize rowN a.asList i = r at hr hw hs hrow ⊢
  generalize sumR (cntDs kPart) a.asList = T at hs hb
  obtain ⟨r0, r, rfl⟩ := List.exists_cons_of_length_pos (l := r) (by omega)
  simp only [List.length_cons] at hr
  obtain ⟨r1, r, rfl⟩ := List.exists_cons_of_length_pos (l := r) (by omega)
  simp only [List.length_cons] at hr
  obtain ⟨r2, r, rfl⟩ := List.exists_cons_of_length_pos (l := r) (by omega)
  simp only [List.length_cons] at hr
  obtain rfl : r = [] := List.eq_nil_of_length_eq_zero (by simpa using hr)
  simp only [cntDs_cons, cntDs_nil, cntD_int, cntD_bool, cntD_str, cntD_sl, cell_zero, cell_succ, List.tail_cons, lenDs_cons, lenDs_nil] at hs hw
  simp (disch := omega) [w64, show Φ 109 = mMrkL kChain from rfl, mText, mMrkL, mrkPre, rowAt_nat, hrow, hdl, mrkDs_cons, mrkDs_nil, mrkD_int, mrkD_bool, mrkD_str, mrkD_sl, cntDs_cons, cntDs_nil, cntD_int, cntD_bool, cntD_str, cntD_sl, and_assoc]
  repeat' (first | omega | exact hi | rfl | exact hw.1 | exact hw.2.1 | exact hw.2.2.1 | apply And.intro))
theorem ok43 : Good1 Try.prog Φ g43 := good1 tok mixed (l := [g86]) (by simpa using ok86) Try.func43 (by decide) (by decide) v43_eq (args2 fun a b hw hp => by
  simp [g43, show Φ 43 = mSzL kPart' from rfl, mSzL, szPre] at hw hp
  exact szV_wp (c := 86) (ks := kPart') rfl hw.1.1 hp _)
theorem ok51 : Good1 Try.prog Φ g51 := good1 tok mixed (l := [g92]) (by simpa using ok92) Try.func51 (by decide) (by decide) v51_eq (args1 fun a hw hp => by
  simp [g51, show Φ 51 = mToL kPart' from rfl, mToL, toPreL] at hw hp
  exact toV_wp (Φ := Φ) (a := a) (c := 92) (bytes := (TT 151).bytes) (tid := 151) (ks := kPart') (ks' := kPart) (by decide) rfl (fun _ => rfl) rfl hp _)
theorem ok103 : Good1 Try.prog Φ g103 := good1 tok mixed (l := [g12, g84]) (by simp [ok12, ok84]) Try.func103 (by decide) (by decide) v103_eq (args2 fun a b hw hp => by
  simp [v103, show Φ 103 = mEqA kBatch from rfl, show Φ 12 = mEqL kAlarm from rfl, show Φ 84 = mEqL kLabel from rfl, mEqA, mEqL, g103, eqDs_cons, eqDs_nil, eqD_str, eqD_int, eqD_bool, eqD_sl]
  simp +contextual <;> (intros; simp_all))
theorem ok89 : Good1 Try.prog Φ g89 := good1 tok mixed (l := [g45, g79]) (by simp [ok45, ok79]) Try.func89 (by decide) (by decide) v89_eq (args2 fun a b hw hp => by
  simp [g89, show Φ 89 = mSzA kBatch' from rfl, mSzA, szPre] at hw hp
  have := szSV_wp (Φ := Φ) (env := [a, b]) (B := fun _ _ => False) [.c 79 (.op (.fld 1) [.var 0]), .c 45 (.op (.fld 3) [.var 0])] [szD (.sl 176 kLabel') (cell a.row 1), szD (.sl 67 kAlarm') (cell a.row 3)] (.var 1) b.asInt (by simp +contextual [stOk, hw, show Φ 45 = mSzL kAlarm' from rfl, show Φ 79 = mSzL kLabel' from rfl, mSzL, mSzA, szPre, szD]) rfl (by simp) hp.1 hp.2
  have e : szDs kBatch' a.row = sumN [szD (.sl 176 kLabel') (cell a.row 1), szD (.sl 67 kAlarm') (cell a.row 3)] := by simp [szDs_cons, szDs_nil, szD, sumN] <;> omega
  show v89.wp Φ (fun l => l = [.int (szM (szDs kBatch' a.row) b.asInt)]) [a, b] _
  rw [e]
  exact this)
theorem ok96 : Good1 Try.prog Φ g96 := good1 tok mixed (l := [g53, g81]) (by simp [ok53, ok81]) Try.func96 (by decide) (by decide) v96_eq (args1 fun a hw hp => by
  simp [g96, show Φ 96 = mToA kBatch' from rfl, mToA, toPre, szDs_cons, szDs_nil, szD] at hp
  simp [v96, show Φ 96 = mToA kBatch' from rfl, show Φ 53 = mToL kAlarm' from rfl, show Φ 81 = mToL kLabel' from rfl, mToA, mToL, toPre, toPreL, szDs_cons, szDs_nil, szD, g96, cnDs_cons, cnDs_nil, cnD] <;> omega)
theorem ok63 : Good1 Try.prog Φ g63 := good1 tok mixed (l := [g103]) (by simpa using ok103) Try.func63 (by decide) (by decide) v63_eq (args2 fun a b hw hp => by
  simp [g63] at hw
  exact eqV_wp (Φ := Φ) (a := a) (b := b) (p := eqDs kBatch) (tests := [.op (.fn 103 1000) [mkE (.var 0) (.var 2), mkE (.var 1) (.var 2)]]) (t := .op (.fn 103 0) [mkE (.var 0) (.var 2), mkE (.var 1) (.var 2)]) hw.1.1
    (fun i h1 h2 => by simp only [conj_cons, conj_nil, den_op, dens_cons, dens_nil, op_fn, mkE_den, den_var, show Φ 103 = mEqA kBatch from rfl, mEqA, con_ok, con_zero, cell_zero, cell_succ, D.asInt_int, D.asBool_bool, rowAt_nat, cell_zero, cell_succ, D.row_sl]; exact ⟨⟨trivial, trivial⟩, trivial⟩) _)
theorem ok16 : Good1 Try.prog Φ g16 := good1e tok mixed (l := [g38, g39]) (by simp [ok38, ok39]) Try.func16 (by decide) (by decide) v16_eq (args2 fun a b hw hp => by
  simp only [g16, told, show Φ 16 = mHldL kAlarm from rfl, mHldL, con_ok, hldPre, cell_zero, cell_succ] at hp
  obtain ⟨hm, h0, hb⟩ := hp
  have hl : a.asList.length ≤ 140737488355328 := by
    simp only [g16, told, WFAs_cons, WFA_one, WFa_sl, lenMax] at hw
    exact hw.1.1
  refine held_wp (Φ := Φ) (c := cntDs kAlarm) hl (fun i x hi hx => ?_) fun x hx => by simp [g16, told, RSh.cells, show Φ 16 = mHldL kAlarm from rfl, mHldL, hx]
  have hr := allR_get hm hi
  have hs := sumR_take_le (p := cntDs kAlarm) (xs := a.asList) (i := i + 1)
  rw [sumR_take _ hi] at hs
  generalize sumR (cntDs kAlarm) (a.asList.take i) = S at hs hx hr ⊢
  generalize hR : rowN a.asList i = r at hs hr ⊢
  generalize sumR (cntDs kAlarm) a.asList = T at hs hb
  simp [mkdDs_cons, mkdDs_nil, mkdD_int, mkdD_bool, mkdD_str, mkdD_sl, cntDs_cons, cntDs_nil, cntD_int, cntD_bool, cntD_str, cntD_sl, ← Int.add_assoc] at hr hs
  simp (disch := omega) [w64, show Φ 38 = mText from rfl, show Φ 39 = mHldL kLabel from rfl, mText, mHldL, hldPre, rowAt_nat, hR, hx, hr, cntDs_cons, cntDs_nil, cntD_int, cntD_bool, cntD_str, cntD_sl, and_assoc]
  repeat' (first | omega | exact hi | rfl | apply And.intro | intro _))
theorem ok76 : Good1 Try.prog Φ g76 := goodXi tok mixed (l := [g15, g37]) (by simp [ok15, ok37]) Try.func76 (by decide) (by decide) (by decide) (by decide) v76_eq (fun _ _ _ => rfl) (fun a n hp => by
  simp only [g76, toldX, show Φ 76 = mMrkL kBatch from rfl, mMrkL, con_ok, mrkPre, cell_zero, cell_succ, lenD_sl, D.asInt_int] at hp
  obtain ⟨⟨hl, hrs⟩, h0, hb⟩ := hp
  refine mark_wp (Φ := Φ) (f := mrkDs kBatch) (c := cntDs kBatch) hl (fun i d hi hdl hrow => ?_) fun d hd => mrk_post hd
  have hs := sumR_take_le (p := cntDs kBatch) (xs := a.asList) (i := i + 1)
  rw [sumR_take _ hi] at hs
  obtain ⟨hr, hw⟩ := hrs _ (rowN_mem hi)
  simp only [List.length_cons, List.length_nil] at hr
  generalize hS : sumR (cntDs kBatch) (a.asList.take i) = S at hs ⊢
  generalize rowN a.asList i = r at hr hw hs hrow ⊢
  generalize sumR (cntDs kBatch) a.asList = T at hs hb
  obtain ⟨r0, r, rfl⟩ := List.exists_cons_of_length_pos (l := r) (by omega)
  simp only [List.length_cons] at hr
  obtain ⟨r1, r, rfl⟩ := List.exists_cons_of_length_pos (l := r) (by omega)
  simp only [List.length_cons] at hr
  obtain ⟨r2, r, rfl⟩ := List.exists_cons_of_length_pos (l := r) (by omega)
  simp only [List.length_cons] at hr
  obtain ⟨r3, r, rfl⟩ := List.exists_cons_of_length_pos (l := r) (by omega)
  simp only [List.length_cons] at hr
  obtain rfl : r = [] := List.eq_nil_of_length_eq_zero (by simpa using hr)
  simp only [cntDs_cons, cntDs_nil, cntD_int, cntD_bool, cntD_str, cntD_sl, cell_zero, cell_succ, List.tail_cons, lenDs_cons, lenDs_nil] at hs hw
  simp (disch := omega) [w64, show Φ 15 = mMrkL kAlarm from rfl, show Φ 37 = mMrkL kLabel from rfl, mText, mMrkL, mrkPre, rowAt_nat, hrow, hdl, mrkDs_cons, mrkDs_nil, mrkD_int, mrkD_bool, mrkD_str, mrkD_sl, cntDs_cons, cntDs_nil, cntD_int, cntD_bool, cntD_str, cntD_sl, and_assoc]
  repeat' (first | omega | exact hi | rfl | exact hw.1 | exact hw.2.1 | exact hw.2.2.1 | exact hw.2.2.2.1 | apply And.intro))
theorem ok48 : Good1 Try.prog Φ g48 := good1 tok mixed (l := [g89]) (by simpa using ok89) Try.func48 (by decide) (by decide) v48_eq (args2 fun a b hw hp => by
  simp [g48, show Φ 48 = mSzL kBatch' from rfl, mSzL, szPre] at hw hp
  exact szV_wp (c := 89) (ks := kBatch') rfl hw.1.1 hp _)
theorem ok56 : Good1 Try.prog Φ g56 := good1 tok mixed (l := [g96]) (by simpa using ok96) Try.func56 (by decide) (by decide) v56_eq (args1 fun a hw hp => by
  simp [g56, show Φ 56 = mToL kBatch' from rfl, mToL, toPreL] at hw hp
  exact toV_wp (Φ := Φ) (a := a) (c := 96) (bytes := (TT 109).bytes) (tid := 109) (ks := kBatch') (ks' := kBatch) (by decide) rfl (fun _ => rfl) rfl hp _)
theorem ok101 : Good1 Try.prog Φ g101 := good1 tok mixed (l := [g12, g84]) (by simp [ok12, ok84]) Try.func101 (by decide) (by decide) v101_eq (args2 fun a b hw hp => by
  simp [v101, show Φ 101 = mEqA kGroup from rfl, show Φ 12 = mEqL kAlarm from rfl, show Φ 84 = mEqL kLabel from rfl, mEqA, mEqL, g101, eqDs_cons, eqDs_nil, eqD_str, eqD_int, eqD_bool, eqD_sl]
  simp +contextual <;> (intros; simp_all))
theorem ok88 : Good1 Try.prog Φ g88 := good1 tok mixed (l := [g45, g79]) (by simp [ok45, ok79]) Try.func88 (by decide) (by decide) v88_eq (args2 fun a b hw hp => by
  simp [g88, show Φ 88 = mSzA kGroup' from rfl, mSzA, szPre] at hw hp
  have := szSV_wp (Φ := Φ) (env := [a, b]) (B := fun _ _ => False) [.c 79 (.op (.fld 1) [.var 0]), .c 45 (.op (.fld 4) [.var 0])] [szD (.sl 176 kLabel') (cell a.row 1), szD (.sl 67 kAlarm') (cell a.row 4)] (.var 1) b.asInt (by simp +contextual [stOk, hw, show Φ 45 = mSzL kAlarm' from rfl, show Φ 79 = mSzL kLabel' from rfl, mSzL, mSzA, szPre, szD]) rfl (by simp) hp.1 hp.2
  have e : szDs kGroup' a.row = sumN [szD (.sl 176 kLabel') (cell a.row 1), szD (.sl 67 kAlarm') (cell a.row 4)] := by simp [szDs_cons, szDs_nil, szD, sumN] <;> omega
  show v88.wp Φ (fun l => l = [.int (szM (szDs kGroup' a.row) b.asInt)]) [a, b] _
  rw [e]
  exact this)
theorem ok94 : Good1 Try.prog Φ g94 := good1 tok mixed (l := [g53, g81]) (by simp [ok53, ok81]) Try.func94 (by decide) (by decide) v94_eq (args1 fun a hw hp => by
  simp [g94, show Φ 94 = mToA kGroup' from rfl, mToA, toPre, szDs_cons, szDs_nil, szD] at hp
  simp [v94, show Φ 94 = mToA kGroup' from rfl, show Φ 53 = mToL kAlarm' from rfl, show Φ 81 = mToL kLabel' from rfl, mToA, mToL, toPre, toPreL, szDs_cons, szDs_nil, szD, g94, cnDs_cons, cnDs_nil, cnD] <;> omega)
theorem ok61 : Good1 Try.prog Φ g61 := good1 tok mixed (l := [g101]) (by simpa using ok101) Try.func61 (by decide) (by decide) v61_eq (args2 fun a b hw hp => by
  simp [g61] at hw
  exact eqV_wp (Φ := Φ) (a := a) (b := b) (p := eqDs kGroup) (tests := [.op (.fn 101 1000) [mkE (.var 0) (.var 2), mkE (.var 1) (.var 2)]]) (t := .op (.fn 101 0) [mkE (.var 0) (.var 2), mkE (.var 1) (.var 2)]) hw.1.1
    (fun i h1 h2 => by simp only [conj_cons, conj_nil, den_op, dens_cons, dens_nil, op_fn, mkE_den, den_var, show Φ 101 = mEqA kGroup from rfl, mEqA, con_ok, con_zero, cell_zero, cell_succ, D.asInt_int, D.asBool_bool, rowAt_nat, cell_zero, cell_succ, D.row_sl]; exact ⟨⟨trivial, trivial⟩, trivial⟩) _)
theorem ok74 : Good1 Try.prog Φ g74 := goodXi tok mixed (l := [g15, g37]) (by simp [ok15, ok37]) Try.func74 (by decide) (by decide) (by decide) (by decide) v74_eq (fun _ _ _ => rfl) (fun a n hp => by
  simp only [g74, toldX, show Φ 74 = mMrkL kGroup from rfl, mMrkL, con_ok, mrkPre, cell_zero, cell_succ, lenD_sl, D.asInt_int] at hp
  obtain ⟨⟨hl, hrs⟩, h0, hb⟩ := hp
  refine mark_wp (Φ := Φ) (f := mrkDs kGroup) (c := cntDs kGroup) hl (fun i d hi hdl hrow => ?_) fun d hd => mrk_post hd
  have hs := sumR_take_le (p := cntDs kGroup) (xs := a.asList) (i := i + 1)
  rw [sumR_take _ hi] at hs
  obtain ⟨hr, hw⟩ := hrs _ (rowN_mem hi)
  simp only [List.length_cons, List.length_nil] at hr
  generalize hS : sumR (cntDs kGroup) (a.asList.take i) = S at hs ⊢
  generalize rowN a.asList i = r at hr hw hs hrow ⊢
  generalize sumR (cntDs kGroup) a.asList = T at hs hb
  obtain ⟨r0, r, rfl⟩ := List.exists_cons_of_length_pos (l := r) (by omega)
  simp only [List.length_cons] at hr
  obtain ⟨r1, r, rfl⟩ := List.exists_cons_of_length_pos (l := r) (by omega)
  simp only [List.length_cons] at hr
  obtain ⟨r2, r, rfl⟩ := List.exists_cons_of_length_pos (l := r) (by omega)
  simp only [List.length_cons] at hr
  obtain ⟨r3, r, rfl⟩ := List.exists_cons_of_length_pos (l := r) (by omega)
  simp only [List.length_cons] at hr
  obtain ⟨r4, r, rfl⟩ := List.exists_cons_of_length_pos (l := r) (by omega)
  simp only [List.length_cons] at hr
  obtain rfl : r = [] := List.eq_nil_of_length_eq_zero (by simpa using hr)
  simp only [cntDs_cons, cntDs_nil, cntD_int, cntD_bool, cntD_str, cntD_sl, cell_zero, cell_succ, List.tail_cons, lenDs_cons, lenDs_nil] at hs hw
  simp (disch := omega) [w64, show Φ 15 = mMrkL kAlarm from rfl, show Φ 37 = mMrkL kLabel from rfl, mText, mMrkL, mrkPre, rowAt_nat, hrow, hdl, mrkDs_cons, mrkDs_nil, mrkD_int, mrkD_bool, mrkD_str, mrkD_sl, cntDs_cons, cntDs_nil, cntD_int, cntD_bool, cntD_str, cntD_sl, and_assoc]
  repeat' (first | omega | exact hi | rfl | exact hw.1 | exact hw.2.1 | exact hw.2.2.1 | exact hw.2.2.2.1 | exact hw.2.2.2.2.1 | apply And.intro))
theorem ok46 : Good1 Try.prog Φ g46 := good1 tok mixed (l := [g88]) (by simpa using ok88) Try.func46 (by decide) (by decide) v46_eq (args2 fun a b hw hp => by
  simp [g46, show Φ 46 = mSzL kGroup' from rfl, mSzL, szPre] at hw hp
  exact szV_wp (c := 88) (ks := kGroup') rfl hw.1.1 hp _)
theorem ok54 : Good1 Try.prog Φ g54 := good1 tok mixed (l := [g94]) (by simpa using ok94) Try.func54 (by decide) (by decide) v54_eq (args1 fun a hw hp => by
  simp [g54, show Φ 54 = mToL kGroup' from rfl, mToL, toPreL] at hw hp
  exact toV_wp (Φ := Φ) (a := a) (c := 94) (bytes := (TT 157).bytes) (tid := 157) (ks := kGroup') (ks' := kGroup) (by decide) rfl (fun _ => rfl) rfl hp _)
theorem ok58 : Good1 Try.prog Φ g58 := good1 tok mixed (l := [g98]) (by simp [ok98]) Try.func58 (by decide) (by decide) v58_eq (args2 fun a b hw hp => by
  simp [v58, show Φ 58 = mEqA kConf from rfl, show Φ 98 = mEqL [.str] from rfl, mEqA, mEqL, g58, eqDs_cons, eqDs_nil, eqD_str, eqD_int, eqD_bool, eqD_sl]
  simp +contextual <;> (intros; simp_all))
theorem ok71 : Good1 Try.prog Φ g71 := goodXi tok mixed (l := [g108]) (by simp [ok108]) Try.func71 (by decide) (by decide) (by decide) (by decide) v71_eq (fun _ _ _ => rfl) (fun a n hp => by
  simp only [g71, toldX, show Φ 71 = mMrkA kConf from rfl, mMrkA, con_ok, mrkPreA, cell_zero, cell_succ, D.asInt_int] at hp
  obtain ⟨hw, h0, hb⟩ := hp
  simp only [lenDs_cons, lenDs_nil, cell_tail, cntSl, Nat.zero_add, Nat.reduceAdd] at hw hb
  simp only [v71, wp_req', wp_ret', conj_cons, conj_nil, den_op, dens_cons, dens_nil, den_var, op_fn, op_asl, op_fld, op_mk, cell_zero, cell_succ, List.map_cons, List.map_nil, show Φ 108 = mMrkL [.str] from rfl, mMrkL, mMrkA, mrkPre, mrkPreA, con_ok, con_zero, con_2000, D.asInt_int, D.asList_sl, D.row_sl, cntSl, mrkSl, lenDs_cons, lenDs_nil, cell_tail, List.tail_cons, Nat.zero_add, Nat.reduceAdd, Nat.sub_self, and_true, if_true, show (2000 : Nat) ≠ 0 by decide, if_false]
  repeat' (first | omega | exact hw.1 | exact hw.2.1 | exact hw.2.2.1 | exact hw.2.2.2.1 | exact hw.2.2.2.2.1 | exact hw.2.2.2.2.2.1 | exact hw.2.2.2.2.2.2.1 | exact hw.2.2.2.2.2.2.2.1 | exact hw.2.2.2.2.2.2.2.2.1 | exact hw.2.2.2.2.2.2.2.2.2.1 | exact hw.2.2.2.2.2.2.2.2.2.2.1 | exact hw.2.2.2.2.2.2.2.2.2.2.2.1 | exact hw.2.2.2.2.2.2.2.2.2.2.2.2.1 | exact hw.2.2.2.2.2.2.2.2.2.2.2.2.2.1 | exact hw.2.2.2.2.2.2.2.2.2.2.2.2.2.2.1 | exact hw.2.2.2.2.2.2.2.2.2.2.2.2.2.2.2.1 | exact hw.2.2.2.2.2.2.2.2.2.2.2.2.2.2.2.2.1 | exact hw.2.2.2.2.2.2.2.2.2.2.2.2.2.2.2.2.2.1 | exact hw.2.2.2.2.2.2.2.2.2.2.2.2.2.2.2.2.2.2.1 | refine mrkA_post ?_ ?_ rfl | (simp [cntSl, mrkSl, ← Int.add_assoc]; done) | apply And.intro))
theorem ok42 : Good1 Try.prog Φ g42 := good1 tok mixed (l := [g85]) (by simp [ok85]) Try.func42 (by decide) (by decide) v42_eq (args2 fun a b hw hp => by
  simp [g42, show Φ 42 = mSzA kConf' from rfl, mSzA, szPre] at hw hp
  have := szSV_wp (Φ := Φ) (env := [a, b]) (B := fun _ _ => False) [.c 85 (.op (.fld 5) [.var 0])] [szD (.sl 9 [.str]) (cell a.row 5)] (.var 1) b.asInt (by simp +contextual [stOk, hw, show Φ 85 = mSzL [.str] from rfl, mSzL, mSzA, szPre, szD]) rfl (by simp) hp.1 hp.2
  have e : szDs kConf' a.row = sumN [szD (.sl 9 [.str]) (cell a.row 5)] := by simp [szDs_cons, szDs_nil, szD, sumN] <;> omega
  show v42.wp Φ (fun l => l = [.int (szM (szDs kConf' a.row) b.asInt)]) [a, b] _
  rw [e]
  exact this)
theorem ok50 : Good1 Try.prog Φ g50 := good1 tok mixed (l := [g91]) (by simp [ok91]) Try.func50 (by decide) (by decide) v50_eq (args1 fun a hw hp => by
  simp [g50, show Φ 50 = mToA kConf' from rfl, mToA, toPre, szDs_cons, szDs_nil, szD] at hp
  simp [v50, show Φ 50 = mToA kConf' from rfl, show Φ 91 = mToL [.str] from rfl, mToA, mToL, toPre, toPreL, szDs_cons, szDs_nil, szD, g50, cnDs_cons, cnDs_nil, cnD] <;> omega)
theorem ok104 : Good1 Try.prog Φ g104 := good1 tok mixed (l := [g12, g35, g84, g121]) (by simp [ok12, ok35, ok84, ok121]) Try.func104 (by decide) (by decide) v104_eq (args2 fun a b hw hp => by
  simp [v104, show Φ 104 = mEqA kTask from rfl, show Φ 12 = mEqL kAlarm from rfl, show Φ 35 = mEqA kAlarm from rfl, show Φ 84 = mEqL kLabel from rfl, show Φ 121 = mEqL [.int .i64] from rfl, mEqA, mEqL, g104, eqDs_cons, eqDs_nil, eqD_str, eqD_int, eqD_bool, eqD_sl]
  simp +contextual <;> (intros; simp_all))
theorem ok90 : Good1 Try.prog Φ g90 := good1 tok mixed (l := [g45, g78, g79, g117]) (by simp [ok45, ok78, ok79, ok117]) Try.func90 (by decide) (by decide) v90_eq (args2 fun a b hw hp => by
  simp [g90, show Φ 90 = mSzA kTask' from rfl, mSzA, szPre] at hw hp
  have := szSV_wp (Φ := Φ) (env := [a, b]) (B := fun _ _ => False) [.c 78 (.op .mk [.op (.fld 2) [.var 0], .op (.fld 3) [.var 0], .op (.fld 4) [.var 0], .op (.fld 5) [.var 0]]), .c 79 (.op (.fld 6) [.var 0]), .c 117 (.op (.fld 8) [.var 0]), .c 45 (.op (.fld 9) [.var 0])] [szDs kAlarm' [cell a.row 2, cell a.row 3, cell a.row 4, cell a.row 5], szD (.sl 176 kLabel') (cell a.row 6), szD (.sl 3 [.int .i64]) (cell a.row 8), szD (.sl 67 kAlarm') (cell a.row 9)] (.var 1) b.asInt (by simp +contextual [stOk, hw, show Φ 45 = mSzL kAlarm' from rfl, show Φ 78 = mSzA kAlarm' from rfl, show Φ 79 = mSzL kLabel' from rfl, show Φ 117 = mSzL [.int .i64] from rfl, mSzL, mSzA, szPre, szD]) rfl (by simp) hp.1 hp.2
  have e : szDs kTask' a.row = sumN [szDs kAlarm' [cell a.row 2, cell a.row 3, cell a.row 4, cell a.row 5], szD (.sl 176 kLabel') (cell a.row 6), szD (.sl 3 [.int .i64]) (cell a.row 8), szD (.sl 67 kAlarm') (cell a.row 9)] := by simp [szDs_cons, szDs_nil, szD, sumN] <;> omega
  show v90.wp Φ (fun l => l = [.int (szM (szDs kTask' a.row) b.asInt)]) [a, b] _
  rw [e]
  exact this)
theorem ok97 : Good1 Try.prog Φ g97 := good1 tok mixed (l := [g53, g80, g81, g119]) (by simp [ok53, ok80, ok81, ok119]) Try.func97 (by decide) (by decide) v97_eq (args1 fun a hw hp => by
  simp [g97, show Φ 97 = mToA kTask' from rfl, mToA, toPre, szDs_cons, szDs_nil, szD] at hp
  simp [v97, show Φ 97 = mToA kTask' from rfl, show Φ 53 = mToL kAlarm' from rfl, show Φ 80 = mToA kAlarm' from rfl, show Φ 81 = mToL kLabel' from rfl, show Φ 119 = mToL [.int .i64] from rfl, mToA, mToL, toPre, toPreL, szDs_cons, szDs_nil, szD, g97, cnDs_cons, cnDs_nil, cnD] <;> omega)
theorem ok64 : Good1 Try.prog Φ g64 := good1 tok mixed (l := [g104]) (by simpa using ok104) Try.func64 (by decide) (by decide) v64_eq (args2 fun a b hw hp => by
  simp [g64] at hw
  exact eqV_wp (Φ := Φ) (a := a) (b := b) (p := eqDs kTask) (tests := [.op (.fn 104 1000) [mkE (.var 0) (.var 2), mkE (.var 1) (.var 2)]]) (t := .op (.fn 104 0) [mkE (.var 0) (.var 2), mkE (.var 1) (.var 2)]) hw.1.1
    (fun i h1 h2 => by simp only [conj_cons, conj_nil, den_op, dens_cons, dens_nil, op_fn, mkE_den, den_var, show Φ 104 = mEqA kTask from rfl, mEqA, con_ok, con_zero, cell_zero, cell_succ, D.asInt_int, D.asBool_bool, rowAt_nat, cell_zero, cell_succ, D.row_sl]; exact ⟨⟨trivial, trivial⟩, trivial⟩) _)
set_option maxHeartbeats 2000000 in
theorem ok77 : Good1 Try.prog Φ g77 := goodXi tok mixed (l := [g15, g37, g38, g110]) (by simp [ok15, ok37, ok38, ok110]) Try.func77 (by decide) (by decide) (by decide) (by decide) v77_eq (fun _ _ _ => rfl) (fun a n hp => by
  simp only [g77, toldX, show Φ 77 = mMrkL kTask from rfl, mMrkL, con_ok, mrkPre, cell_zero, cell_succ, lenD_sl, D.asInt_int] at hp
  obtain ⟨⟨hl, hrs⟩, h0, hb⟩ := hp
  refine mark_wp (Φ := Φ) (f := mrkDs kTask) (c := cntDs kTask) hl (fun i d hi hdl hrow => ?_) fun d hd => mrk_post hd
  have hs := sumR_take_le (p := cntDs kTask) (xs := a.asList) (i := i + 1)
  rw [sumR_take _ hi] at hs
  obtain ⟨hr, hw⟩ := hrs _ (rowN_mem hi)
  simp only [List.length_cons, List.length_nil] at hr
  generalize hS : sumR (cntDs kTask) (a.asList.take i) = S at hs ⊢
  generalize rowN a.asList i = r at hr hw hs hrow ⊢
  generalize sumR (cntDs kTask) a.asList = T at hs hb
  obtain ⟨r0, r, rfl⟩ := List.exists_cons_of_length_pos (l := r) (by omega)
  simp only [List.length_cons] at hr
  obtain ⟨r1, r, rfl⟩ := List.exists_cons_of_length_pos (l := r) (by omega)
  simp only [List.length_cons] at hr
  obtain ⟨r2, r, rfl⟩ := List.exists_cons_of_length_pos (l := r) (by omega)
  simp only [List.length_cons] at hr
  obtain ⟨r3, r, rfl⟩ := List.exists_cons_of_length_pos (l := r) (by omega)
  simp only [List.length_cons] at hr
  obtain ⟨r4, r, rfl⟩ := List.exists_cons_of_length_pos (l := r) (by omega)
  simp only [List.length_cons] at hr
  obtain ⟨r5, r, rfl⟩ := List.exists_cons_of_length_pos (l := r) (by omega)
  simp only [List.length_cons] at hr
  obtain ⟨r6, r, rfl⟩ := List.exists_cons_of_length_pos (l := r) (by omega)
  simp only [List.length_cons] at hr
  obtain ⟨r7, r, rfl⟩ := List.exists_cons_of_length_pos (l := r) (by omega)
  simp only [List.length_cons] at hr
  obtain ⟨r8, r, rfl⟩ := List.exists_cons_of_length_pos (l := r) (by omega)
  simp only [List.length_cons] at hr
  obtain ⟨r9, r, rfl⟩ := List.exists_cons_of_length_pos (l := r) (by omega)
  simp only [List.length_cons] at hr
  obtain ⟨r10, r, rfl⟩ := List.exists_cons_of_length_pos (l := r) (by omega)
  simp only [List.length_cons] at hr
  obtain ⟨r11, r, rfl⟩ := List.exists_cons_of_length_pos (l := r) (by omega)
  simp only [List.length_cons] at hr
  obtain rfl : r = [] := List.eq_nil_of_length_eq_zero (by simpa using hr)
  simp only [cntDs_cons, cntDs_nil, cntD_int, cntD_bool, cntD_str, cntD_sl, cell_zero, cell_succ, List.tail_cons, lenDs_cons, lenDs_nil] at hs hw
  simp (disch := omega) [w64, show Φ 15 = mMrkL kAlarm from rfl, show Φ 37 = mMrkL kLabel from rfl, show Φ 38 = mText from rfl, show Φ 110 = mMrkL [.int .i64] from rfl, mText, mMrkL, mrkPre, rowAt_nat, hrow, hdl, mrkDs_cons, mrkDs_nil, mrkD_int, mrkD_bool, mrkD_str, mrkD_sl, cntDs_cons, cntDs_nil, cntD_int, cntD_bool, cntD_str, cntD_sl, and_assoc]
  repeat' (first | omega | exact hi | rfl | exact hw.1 | exact hw.2.1 | exact hw.2.2.1 | exact hw.2.2.2.1 | exact hw.2.2.2.2.1 | exact hw.2.2.2.2.2.1 | exact hw.2.2.2.2.2.2.1 | exact hw.2.2.2.2.2.2.2.1 | exact hw.2.2.2.2.2.2.2.2.1 | exact hw.2.2.2.2.2.2.2.2.2.1 | exact hw.2.2.2.2.2.2.2.2.2.2.1 | exact hw.2.2.2.2.2.2.2.2.2.2.2.1 | apply And.intro))
theorem ok49 : Good1 Try.prog Φ g49 := good1 tok mixed (l := [g90]) (by simpa using ok90) Try.func49 (by decide) (by decide) v49_eq (args2 fun a b hw hp => by
  simp [g49, show Φ 49 = mSzL kTask' from rfl, mSzL, szPre] at hw hp
  exact szV_wp (c := 90) (ks := kTask') rfl hw.1.1 hp _)
theorem ok57 : Good1 Try.prog Φ g57 := good1 tok mixed (l := [g97]) (by simpa using ok97) Try.func57 (by decide) (by decide) v57_eq (args1 fun a hw hp => by
  simp [g57, show Φ 57 = mToL kTask' from rfl, mToL, toPreL] at hw hp
  exact toV_wp (Φ := Φ) (a := a) (c := 97) (bytes := (TT 115).bytes) (tid := 115) (ks := kTask') (ks' := kTask) (by decide) rfl (fun _ => rfl) rfl hp _)
theorem ok36 : Good1 Try.prog Φ g36 := good1 tok mixed (l := [g12, g35, g84]) (by simp [ok12, ok35, ok84]) Try.func36 (by decide) (by decide) v36_eq (args2 fun a b hw hp => by
  simp [v36, show Φ 36 = mEqA kDeed from rfl, show Φ 12 = mEqL kAlarm from rfl, show Φ 35 = mEqA kAlarm from rfl, show Φ 84 = mEqL kLabel from rfl, mEqA, mEqL, g36, eqDs_cons, eqDs_nil, eqD_str, eqD_int, eqD_bool, eqD_sl]
  simp +contextual <;> (intros; simp_all))
theorem ok29 : Good1 Try.prog Φ g29 := good1 tok mixed (l := [g45, g78, g79]) (by simp [ok45, ok78, ok79]) Try.func29 (by decide) (by decide) v29_eq (args2 fun a b hw hp => by
  simp [g29, show Φ 29 = mSzA kDeed' from rfl, mSzA, szPre] at hw hp
  have := szSV_wp (Φ := Φ) (env := [a, b]) (B := fun _ _ => False) [.c 78 (.op .mk [.op (.fld 2) [.var 0], .op (.fld 3) [.var 0], .op (.fld 4) [.var 0], .op (.fld 5) [.var 0]]), .c 79 (.op (.fld 6) [.var 0]), .c 45 (.op (.fld 10) [.var 0])] [szDs kAlarm' [cell a.row 2, cell a.row 3, cell a.row 4, cell a.row 5], szD (.sl 176 kLabel') (cell a.row 6), szD (.sl 67 kAlarm') (cell a.row 10)] (.var 1) b.asInt (by simp +contextual [stOk, hw, show Φ 45 = mSzL kAlarm' from rfl, show Φ 78 = mSzA kAlarm' from rfl, show Φ 79 = mSzL kLabel' from rfl, mSzL, mSzA, szPre, szD]) rfl (by simp) hp.1 hp.2
  have e : szDs kDeed' a.row = sumN [szDs kAlarm' [cell a.row 2, cell a.row 3, cell a.row 4, cell a.row 5], szD (.sl 176 kLabel') (cell a.row 6), szD (.sl 67 kAlarm') (cell a.row 10)] := by simp [szDs_cons, szDs_nil, szD, sumN] <;> omega
  show v29.wp Φ (fun l => l = [.int (szM (szDs kDeed' a.row) b.asInt)]) [a, b] _
  rw [e]
  exact this)
theorem ok32 : Good1 Try.prog Φ g32 := good1 tok mixed (l := [g53, g80, g81]) (by simp [ok53, ok80, ok81]) Try.func32 (by decide) (by decide) v32_eq (args1 fun a hw hp => by
  simp [g32, show Φ 32 = mToA kDeed' from rfl, mToA, toPre, szDs_cons, szDs_nil, szD] at hp
  simp [v32, show Φ 32 = mToA kDeed' from rfl, show Φ 53 = mToL kAlarm' from rfl, show Φ 80 = mToA kAlarm' from rfl, show Φ 81 = mToL kLabel' from rfl, mToA, mToL, toPre, toPreL, szDs_cons, szDs_nil, szD, g32, cnDs_cons, cnDs_nil, cnD] <;> omega)
theorem ok13 : Good1 Try.prog Φ g13 := good1 tok mixed (l := [g36]) (by simpa using ok36) Try.func13 (by decide) (by decide) v13_eq (args2 fun a b hw hp => by
  simp [g13] at hw
  exact eqV_wp (Φ := Φ) (a := a) (b := b) (p := eqDs kDeed) (tests := [.op (.fn 36 1000) [mkE (.var 0) (.var 2), mkE (.var 1) (.var 2)]]) (t := .op (.fn 36 0) [mkE (.var 0) (.var 2), mkE (.var 1) (.var 2)]) hw.1.1
    (fun i h1 h2 => by simp only [conj_cons, conj_nil, den_op, dens_cons, dens_nil, op_fn, mkE_den, den_var, show Φ 36 = mEqA kDeed from rfl, mEqA, con_ok, con_zero, cell_zero, cell_succ, D.asInt_int, D.asBool_bool, rowAt_nat, cell_zero, cell_succ, D.row_sl]; exact ⟨⟨trivial, trivial⟩, trivial⟩) _)
set_option maxHeartbeats 2000000 in
theorem ok14 : Good1 Try.prog Φ g14 := goodXi tok mixed (l := [g15, g37, g38]) (by simp [ok15, ok37, ok38]) Try.func14 (by decide) (by decide) (by decide) (by decide) v14_eq (fun _ _ _ => rfl) (fun a n hp => by
  simp only [g14, toldX, show Φ 14 = mMrkL kDeed from rfl, mMrkL, con_ok, mrkPre, cell_zero, cell_succ, lenD_sl, D.asInt_int] at hp
  obtain ⟨⟨hl, hrs⟩, h0, hb⟩ := hp
  refine mark_wp (Φ := Φ) (f := mrkDs kDeed) (c := cntDs kDeed) hl (fun i d hi hdl hrow => ?_) fun d hd => mrk_post hd
  have hs := sumR_take_le (p := cntDs kDeed) (xs := a.asList) (i := i + 1)
  rw [sumR_take _ hi] at hs
  obtain ⟨hr, hw⟩ := hrs _ (rowN_mem hi)
  simp only [List.length_cons, List.length_nil] at hr
  generalize hS : sumR (cntDs kDeed) (a.asList.take i) = S at hs ⊢
  generalize rowN a.asList i = r at hr hw hs hrow ⊢
  generalize sumR (cntDs kDeed) a.asList = T at hs hb
  obtain ⟨r0, r, rfl⟩ := List.exists_cons_of_length_pos (l := r) (by omega)
  simp only [List.length_cons] at hr
  obtain ⟨r1, r, rfl⟩ := List.exists_cons_of_length_pos (l := r) (by omega)
  simp only [List.length_cons] at hr
  obtain ⟨r2, r, rfl⟩ := List.exists_cons_of_length_pos (l := r) (by omega)
  simp only [List.length_cons] at hr
  obtain ⟨r3, r, rfl⟩ := List.exists_cons_of_length_pos (l := r) (by omega)
  simp only [List.length_cons] at hr
  obtain ⟨r4, r, rfl⟩ := List.exists_cons_of_length_pos (l := r) (by omega)
  simp only [List.length_cons] at hr
  obtain ⟨r5, r, rfl⟩ := List.exists_cons_of_length_pos (l := r) (by omega)
  simp only [List.length_cons] at hr
  obtain ⟨r6, r, rfl⟩ := List.exists_cons_of_length_pos (l := r) (by omega)
  simp only [List.length_cons] at hr
  obtain ⟨r7, r, rfl⟩ := List.exists_cons_of_length_pos (l := r) (by omega)
  simp only [List.length_cons] at hr
  obtain ⟨r8, r, rfl⟩ := List.exists_cons_of_length_pos (l := r) (by omega)
  simp only [List.length_cons] at hr
  obtain ⟨r9, r, rfl⟩ := List.exists_cons_of_length_pos (l := r) (by omega)
  simp only [List.length_cons] at hr
  obtain ⟨r10, r, rfl⟩ := List.exists_cons_of_length_pos (l := r) (by omega)
  simp only [List.length_cons] at hr
  obtain ⟨r11, r, rfl⟩ := List.exists_cons_of_length_pos (l := r) (by omega)
  simp only [List.length_cons] at hr
  obtain ⟨r12, r, rfl⟩ := List.exists_cons_of_length_pos (l := r) (by omega)
  simp only [List.length_cons] at hr
  obtain ⟨r13, r, rfl⟩ := List.exists_cons_of_length_pos (l := r) (by omega)
  simp only [List.length_cons] at hr
  obtain ⟨r14, r, rfl⟩ := List.exists_cons_of_length_pos (l := r) (by omega)
  simp only [List.length_cons] at hr
  obtain rfl : r = [] := List.eq_nil_of_length_eq_zero (by simpa using hr)
  simp only [cntDs_cons, cntDs_nil, cntD_int, cntD_bool, cntD_str, cntD_sl, cell_zero, cell_succ, List.tail_cons, lenDs_cons, lenDs_nil] at hs hw
  simp (disch := omega) [w64, show Φ 15 = mMrkL kAlarm from rfl, show Φ 37 = mMrkL kLabel from rfl, show Φ 38 = mText from rfl, mText, mMrkL, mrkPre, rowAt_nat, hrow, hdl, mrkDs_cons, mrkDs_nil, mrkD_int, mrkD_bool, mrkD_str, mrkD_sl, cntDs_cons, cntDs_nil, cntD_int, cntD_bool, cntD_str, cntD_sl, and_assoc]
  repeat' (first | omega | exact hi | rfl | exact hw.1 | exact hw.2.1 | exact hw.2.2.1 | exact hw.2.2.2.1 | exact hw.2.2.2.2.1 | exact hw.2.2.2.2.2.1 | exact hw.2.2.2.2.2.2.1 | exact hw.2.2.2.2.2.2.2.1 | exact hw.2.2.2.2.2.2.2.2.1 | exact hw.2.2.2.2.2.2.2.2.2.1 | exact hw.2.2.2.2.2.2.2.2.2.2.1 | exact hw.2.2.2.2.2.2.2.2.2.2.2.1 | exact hw.2.2.2.2.2.2.2.2.2.2.2.2.1 | exact hw.2.2.2.2.2.2.2.2.2.2.2.2.2.1 | exact hw.2.2.2.2.2.2.2.2.2.2.2.2.2.2.1 | apply And.intro))
theorem ok8 : Good1 Try.prog Φ g8 := good1 tok mixed (l := [g29]) (by simpa using ok29) Try.func8 (by decide) (by decide) v8_eq (args2 fun a b hw hp => by
  simp [g8, show Φ 8 = mSzL kDeed' from rfl, mSzL, szPre] at hw hp
  exact szV_wp (c := 29) (ks := kDeed') rfl hw.1.1 hp _)
theorem ok10 : Good1 Try.prog Φ g10 := good1 tok mixed (l := [g32]) (by simpa using ok32) Try.func10 (by decide) (by decide) v10_eq (args1 fun a hw hp => by
  simp [g10, show Φ 10 = mToL kDeed' from rfl, mToL, toPreL] at hw hp
  exact toV_wp (Φ := Φ) (a := a) (c := 32) (bytes := (TT 76).bytes) (tid := 76) (ks := kDeed') (ks' := kDeed) (by decide) rfl (fun _ => rfl) rfl hp _)
theorem ok23 : Good1 Try.prog Φ g23 := good1 tok mixed (l := [g12, g13, g58, g59, g60, g61, g62, g63, g64]) (by simp [ok12, ok13, ok58, ok59, ok60, ok61, ok62, ok63, ok64]) Try.func23 (by decide) (by decide) v23_eq (args2 fun a b hw hp => by
  simp [v23, show Φ 23 = mEqA kWorld from rfl, show Φ 12 = mEqL kAlarm from rfl, show Φ 13 = mEqL kDeed from rfl, show Φ 58 = mEqA kConf from rfl, show Φ 59 = mEqL kPart from rfl, show Φ 60 = mEqL kSub from rfl, show Φ 61 = mEqL kGroup from rfl, show Φ 62 = mEqL kTimer from rfl, show Φ 63 = mEqL kBatch from rfl, show Φ 64 = mEqL kTask from rfl, mEqA, mEqL, g23, eqDs_cons, eqDs_nil, eqD_str, eqD_int, eqD_bool, eqD_sl]
  simp +contextual <;> (intros; simp_all))
theorem ok28 : Good1 Try.prog Φ g28 := goodXi tok mixed (l := [g14, g15, g71, g72, g73, g74, g75, g76, g77]) (by simp [ok14, ok15, ok71, ok72, ok73, ok74, ok75, ok76, ok77]) Try.func28 (by decide) (by decide) (by decide) (by decide) v28_eq (fun _ _ _ => rfl) (fun a n hp => by
  simp only [g28, toldX, show Φ 28 = mMrkA kWorld from rfl, mMrkA, con_ok, mrkPreA, cell_zero, cell_succ, D.asInt_int] at hp
  obtain ⟨hw, h0, hb⟩ := hp
  simp only [lenDs_cons, lenDs_nil, cell_tail, cntSl, Nat.zero_add, Nat.reduceAdd] at hw hb
  simp only [v28, wp_req', wp_ret', conj_cons, conj_nil, den_op, dens_cons, dens_nil, den_var, op_fn, op_asl, op_fld, op_mk, cell_zero, cell_succ, List.map_cons, List.map_nil, show Φ 14 = mMrkL kDeed from rfl, show Φ 15 = mMrkL kAlarm from rfl, show Φ 71 = mMrkA kConf from rfl, show Φ 72 = mMrkL kPart from rfl, show Φ 73 = mMrkL kSub from rfl, show Φ 74 = mMrkL kGroup from rfl, show Φ 75 = mMrkL kTimer from rfl, show Φ 76 = mMrkL kBatch from rfl, show Φ 77 = mMrkL kTask from rfl, mMrkL, mMrkA, mrkPre, mrkPreA, con_ok, con_zero, con_2000, D.asInt_int, D.asList_sl, D.row_sl, cntSl, mrkSl, lenDs_cons, lenDs_nil, cell_tail, List.tail_cons, Nat.zero_add, Nat.reduceAdd, Nat.sub_self, and_true, if_true, show (2000 : Nat) ≠ 0 by decide, if_false]
  repeat' (first | omega | exact hw.1 | exact hw.2.1 | exact hw.2.2.1 | exact hw.2.2.2.1 | exact hw.2.2.2.2.1 | exact hw.2.2.2.2.2.1 | exact hw.2.2.2.2.2.2.1 | exact hw.2.2.2.2.2.2.2.1 | exact hw.2.2.2.2.2.2.2.2.1 | exact hw.2.2.2.2.2.2.2.2.2.1 | exact hw.2.2.2.2.2.2.2.2.2.2.1 | exact hw.2.2.2.2.2.2.2.2.2.2.2.1 | exact hw.2.2.2.2.2.2.2.2.2.2.2.2.1 | exact hw.2.2.2.2.2.2.2.2.2.2.2.2.2.1 | exact hw.2.2.2.2.2.2.2.2.2.2.2.2.2.2.1 | exact hw.2.2.2.2.2.2.2.2.2.2.2.2.2.2.2.1 | exact hw.2.2.2.2.2.2.2.2.2.2.2.2.2.2.2.2.1 | exact hw.2.2.2.2.2.2.2.2.2.2.2.2.2.2.2.2.2.1 | exact hw.2.2.2.2.2.2.2.2.2.2.2.2.2.2.2.2.2.2.1 | refine mrkA_post ?_ ?_ rfl | (simp [cntSl, mrkSl, ← Int.add_assoc]; done) | apply And.intro))
theorem ok19 : Good1 Try.prog Φ g19 := good1 tok mixed (l := [g8, g42, g43, g44, g45, g46, g47, g48, g49]) (by simp [ok8, ok42, ok43, ok44, ok45, ok46, ok47, ok48, ok49]) Try.func19 (by decide) (by decide) v19_eq (args2 fun a b hw hp => by
  simp [g19, show Φ 19 = mSzA kWorld' from rfl, mSzA, szPre] at hw hp
  have := szSV_wp (Φ := Φ) (env := [a, b]) (B := fun _ _ => False) [.c 42 (.var 0), .c 43 (.op (.fld 8) [.var 0]), .c 44 (.op (.fld 9) [.var 0]), .c 45 (.op (.fld 10) [.var 0]), .c 46 (.op (.fld 12) [.var 0]), .c 47 (.op (.fld 14) [.var 0]), .c 48 (.op (.fld 15) [.var 0]), .c 45 (.op (.fld 16) [.var 0]), .c 49 (.op (.fld 17) [.var 0]), .c 8 (.op (.fld 18) [.var 0])] [szDs kConf' a.row, szD (.sl 135 kPart') (cell a.row 8), szD (.sl 138 kSub') (cell a.row 9), szD (.sl 67 kAlarm') (cell a.row 10), szD (.sl 141 kGroup') (cell a.row 12), szD (.sl 162 kTimer') (cell a.row 14), szD (.sl 144 kBatch') (cell a.row 15), szD (.sl 67 kAlarm') (cell a.row 16), szD (.sl 147 kTask') (cell a.row 17), szD (.sl 69 kDeed') (cell a.row 18)] (.var 1) b.asInt (by simp +contextual [stOk, hw, show Φ 8 = mSzL kDeed' from rfl, show Φ 42 = mSzA kConf' from rfl, show Φ 43 = mSzL kPart' from rfl, show Φ 44 = mSzL kSub' from rfl, show Φ 45 = mSzL kAlarm' from rfl, show Φ 46 = mSzL kGroup' from rfl, show Φ 47 = mSzL kTimer' from rfl, show Φ 48 = mSzL kBatch' from rfl, show Φ 49 = mSzL kTask' from rfl, mSzL, mSzA, szPre, szD]) rfl (by simp) hp.1 hp.2
  have e : szDs kWorld' a.row = sumN [szDs kConf' a.row, szD (.sl 135 kPart') (cell a.row 8), szD (.sl 138 kSub') (cell a.row 9), szD (.sl 67 kAlarm') (cell a.row 10), szD (.sl 141 kGroup') (cell a.row 12), szD (.sl 162 kTimer') (cell a.row 14), szD (.sl 144 kBatch') (cell a.row 15), szD (.sl 67 kAlarm') (cell a.row 16), szD (.sl 147 kTask') (cell a.row 17), szD (.sl 69 kDeed') (cell a.row 18)] := by simp [szDs_cons, szDs_nil, szD, sumN] <;> omega
  show v19.wp Φ (fun l => l = [.int (szM (szDs kWorld' a.row) b.asInt)]) [a, b] _
  rw [e]
  exact this)
theorem ok21 : Good1 Try.prog Φ g21 := good1 tok mixed (l := [g10, g50, g51, g52, g53, g54, g55, g56, g57]) (by simp [ok10, ok50, ok51, ok52, ok53, ok54, ok55, ok56, ok57]) Try.func21 (by decide) (by decide) v21_eq (args1 fun a hw hp => by
  simp [g21, show Φ 21 = mToA kWorld' from rfl, mToA, toPre, szDs_cons, szDs_nil, szD] at hp
  simp [v21, show Φ 21 = mToA kWorld' from rfl, show Φ 10 = mToL kDeed' from rfl, show Φ 50 = mToA kConf' from rfl, show Φ 51 = mToL kPart' from rfl, show Φ 52 = mToL kSub' from rfl, show Φ 53 = mToL kAlarm' from rfl, show Φ 54 = mToL kGroup' from rfl, show Φ 55 = mToL kTimer' from rfl, show Φ 56 = mToL kBatch' from rfl, show Φ 57 = mToL kTask' from rfl, mToA, mToL, toPre, toPreL, szDs_cons, szDs_nil, szD, g21, cnDs_cons, cnDs_nil, cnD] <;> omega)

end Go.Proofs.Ytllhihloidkghaa

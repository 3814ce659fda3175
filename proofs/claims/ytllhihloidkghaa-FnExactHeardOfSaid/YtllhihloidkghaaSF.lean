/-
  The helpers of the laws: measure, copy, compare.
-/
import Derived.Test.YtllhihloidkghaaSM
set_option linter.unusedVariables false
set_option linter.unusedSimpArgs false
namespace Go.Proofs.Ytllhihloidkghaa
open Go.Vx

theorem ok38 : Good1 Try.prog Φ g38 := good1 tok mixed (l := []) (by simp) Try.func38 (by decide) (by decide) v38_eq (args1 fun a hw hp => by
  simp [g38, show Φ 38 = mText from rfl, mText] at hp
  exact text_wp hp _)
theorem ok115 : Good1 Try.prog Φ g115 := good1 tok mixed (l := []) (by simp []) Try.func115 (by decide) (by decide) v115_eq (args2 fun a b hw hp => by
  simp [v115, show Φ 115 = mEqA kLabel from rfl, mEqA, mEqL, g115, eqDs_cons, eqDs_nil, eqD_str, eqD_int, eqD_bool, eqD_sl]
  simp +contextual <;> (intros; simp_all))
theorem ok111 : Good1 Try.prog Φ g111 := good1 tok mixed (l := []) (by simp []) Try.func111 (by decide) (by decide) v111_eq (args2 fun a b hw hp => by
  simp [g111, show Φ 111 = mSzA kLabel' from rfl, mSzA, szPre] at hw hp
  have := szSV_wp (Φ := Φ) (env := [a, b]) (B := fun _ _ => False) [.s (.op (.fld 0) [.var 0]), .s (.op (.fld 1) [.var 0])] [(cell a.row 0).asStr.size, (cell a.row 1).asStr.size] (.var 1) b.asInt (by simp +contextual [stOk, hw, mSzL, mSzA, szPre, szD]) rfl (by simp) hp.1 hp.2
  have e : szDs kLabel' a.row = sumN [(cell a.row 0).asStr.size, (cell a.row 1).asStr.size] := by simp [szDs_cons, szDs_nil, szD, sumN] <;> omega
  show v111.wp Φ (fun l => l = [.int (szM (szDs kLabel' a.row) b.asInt)]) [a, b] _
  rw [e]
  exact this)
theorem ok112 : Good1 Try.prog Φ g112 := good1 tok mixed (l := []) (by simp []) Try.func112 (by decide) (by decide) v112_eq (args1 fun a hw hp => by
  simp [g112, show Φ 112 = mToA kLabel' from rfl, mToA, toPre, szDs_cons, szDs_nil, szD] at hp
  simp [v112, show Φ 112 = mToA kLabel' from rfl, mToA, mToL, toPre, toPreL, szDs_cons, szDs_nil, szD, g112, cnDs_cons, cnDs_nil, cnD] <;> omega)
theorem ok84 : Good1 Try.prog Φ g84 := good1 tok mixed (l := [g115]) (by simpa using ok115) Try.func84 (by decide) (by decide) v84_eq (args2 fun a b hw hp => by
  simp [g84] at hw
  exact eqV_wp (Φ := Φ) (a := a) (b := b) (p := eqDs kLabel) (tests := [.op (.fn 115 1000) [mkE (.var 0) (.var 2), mkE (.var 1) (.var 2)]]) (t := .op (.fn 115 0) [mkE (.var 0) (.var 2), mkE (.var 1) (.var 2)]) hw.1.1
    (fun i h1 h2 => by simp only [conj_cons, conj_nil, den_op, dens_cons, dens_nil, op_fn, mkE_den, den_var, show Φ 115 = mEqA kLabel from rfl, mEqA, con_ok, con_zero, cell_zero, cell_succ, D.asInt_int, D.asBool_bool, rowAt_nat, cell_zero, cell_succ, D.row_sl]; exact ⟨⟨trivial, trivial⟩, trivial⟩) _)
theorem ok39 : Good1 Try.prog Φ g39 := good1e tok mixed (l := [g38]) (by simp [ok38]) Try.func39 (by decide) (by decide) v39_eq (args2 fun a b hw hp => by
  simp only [g39, told, show Φ 39 = mHldL kLabel from rfl, mHldL, con_ok, hldPre, cell_zero, cell_succ] at hp
  obtain ⟨hm, h0, hb⟩ := hp
  have hl : a.asList.length ≤ 140737488355328 := by
    simp only [g39, told, WFAs_cons, WFA_one, WFa_sl, lenMax] at hw
    exact hw.1.1
  refine held_wp (Φ := Φ) (c := cntDs kLabel) hl (fun i x hi hx => ?_) fun x hx => by simp [g39, told, RSh.cells, show Φ 39 = mHldL kLabel from rfl, mHldL, hx]
  have hr := allR_get hm hi
  have hs := sumR_take_le (p := cntDs kLabel) (xs := a.asList) (i := i + 1)
  rw [sumR_take _ hi] at hs
  generalize sumR (cntDs kLabel) (a.asList.take i) = S at hs hx hr ⊢
  generalize hR : rowN a.asList i = r at hs hr ⊢
  generalize sumR (cntDs kLabel) a.asList = T at hs hb
  simp [mkdDs_cons, mkdDs_nil, mkdD_int, mkdD_bool, mkdD_str, mkdD_sl, cntDs_cons, cntDs_nil, cntD_int, cntD_bool, cntD_str, cntD_sl, ← Int.add_assoc] at hr hs
  simp (disch := omega) [w64, show Φ 38 = mText from rfl, mText, mHldL, hldPre, rowAt_nat, hR, hx, hr, cntDs_cons, cntDs_nil, cntD_int, cntD_bool, cntD_str, cntD_sl, and_assoc]
  repeat' (first | omega | exact hi | rfl | apply And.intro | intro _))
theorem ok37 : Good1 Try.prog Φ g37 := goodXi tok mixed (l := [g38]) (by simp [ok38]) Try.func37 (by decide) (by decide) (by decide) (by decide) v37_eq (fun _ _ _ => rfl) (fun a n hp => by
  simp only [g37, toldX, show Φ 37 = mMrkL kLabel from rfl, mMrkL, con_ok, mrkPre, cell_zero, cell_succ, lenD_sl, D.asInt_int] at hp
  obtain ⟨⟨hl, hrs⟩, h0, hb⟩ := hp
  refine mark_wp (Φ := Φ) (f := mrkDs kLabel) (c := cntDs kLabel) hl (fun i d hi hdl hrow => ?_) fun d hd => mrk_post hd
  have hs := sumR_take_le (p := cntDs kLabel) (xs := a.asList) (i := i + 1)
  rw [sumR_take _ hi] at hs
  obtain ⟨hr, hw⟩ := hrs _ (rowN_mem hi)
  simp only [List.length_cons, List.length_nil] at hr
  generalize hS : sumR (cntDs kLabel) (a.asList.take i) = S at hs ⊢
  generalize rowN a.asList i = r at hr hw hs hrow ⊢
  generalize sumR (cntDs kLabel) a.asList = T at hs hb
  obtain ⟨r0, r, rfl⟩ := List.exists_cons_of_length_pos (l := r) (by omega)
  simp only [List.length_cons] at hr
  obtain ⟨r1, r, rfl⟩ := List.exists_cons_of_length_pos (l := r) (by omega)
  simp only [List.length_cons] at hr
  obtain rfl : r = [] := List.eq_nil_of_length_eq_zero (by simpa using hr)
  simp only [cntDs_cons, cntDs_nil, cntD_int, cntD_bool, cntD_str, cntD_sl, cell_zero, cell_succ, List.tail_cons, lenDs_cons, lenDs_nil] at hs hw
  simp (disch := omega) [w64, show Φ 38 = mText from rfl, mText, mMrkL, mrkPre, rowAt_nat, hrow, hdl, mrkDs_cons, mrkDs_nil, mrkD_int, mrkD_bool, mrkD_str, mrkD_sl, cntDs_cons, cntDs_nil, cntD_int, cntD_bool, cntD_str, cntD_sl, and_assoc]
  repeat' (first | omega | exact hi | rfl | exact hw.1 | exact hw.2.1 | apply And.intro))
theorem ok79 : Good1 Try.prog Φ g79 := good1 tok mixed (l := [g111]) (by simpa using ok111) Try.func79 (by decide) (by decide) v79_eq (args2 fun a b hw hp => by
  simp [g79, show Φ 79 = mSzL kLabel' from rfl, mSzL, szPre] at hw hp
  exact szV_wp (c := 111) (ks := kLabel') rfl hw.1.1 hp _)
theorem ok81 : Good1 Try.prog Φ g81 := good1 tok mixed (l := [g112]) (by simpa using ok112) Try.func81 (by decide) (by decide) v81_eq (args1 fun a hw hp => by
  simp [g81, show Φ 81 = mToL kLabel' from rfl, mToL, toPreL] at hw hp
  exact toV_wp (Φ := Φ) (a := a) (c := 112) (bytes := (TT 129).bytes) (tid := 129) (ks := kLabel') (ks' := kLabel) (by decide) rfl (fun _ => rfl) rfl hp _)
theorem ok35 : Good1 Try.prog Φ g35 := good1 tok mixed (l := [g84]) (by simp [ok84]) Try.func35 (by decide) (by decide) v35_eq (args2 fun a b hw hp => by
  simp [v35, show Φ 35 = mEqA kAlarm from rfl, show Φ 84 = mEqL kLabel from rfl, mEqA, mEqL, g35, eqDs_cons, eqDs_nil, eqD_str, eqD_int, eqD_bool, eqD_sl]
  simp +contextual <;> (intros; simp_all))
theorem ok78 : Good1 Try.prog Φ g78 := good1 tok mixed (l := [g79]) (by simp [ok79]) Try.func78 (by decide) (by decide) v78_eq (args2 fun a b hw hp => by
  simp [g78, show Φ 78 = mSzA kAlarm' from rfl, mSzA, szPre] at hw hp
  have := szSV_wp (Φ := Φ) (env := [a, b]) (B := fun _ _ => False) [.c 79 (.op (.fld 0) [.var 0]), .s (.op (.fld 3) [.var 0])] [szD (.sl 176 kLabel') (cell a.row 0), (cell a.row 3).asStr.size] (.var 1) b.asInt (by simp +contextual [stOk, hw, show Φ 79 = mSzL kLabel' from rfl, mSzL, mSzA, szPre, szD]) rfl (by simp) hp.1 hp.2
  have e : szDs kAlarm' a.row = sumN [szD (.sl 176 kLabel') (cell a.row 0), (cell a.row 3).asStr.size] := by simp [szDs_cons, szDs_nil, szD, sumN] <;> omega
  show v78.wp Φ (fun l => l = [.int (szM (szDs kAlarm' a.row) b.asInt)]) [a, b] _
  rw [e]
  exact this)
theorem ok80 : Good1 Try.prog Φ g80 := good1 tok mixed (l := [g81]) (by simp [ok81]) Try.func80 (by decide) (by decide) v80_eq (args1 fun a hw hp => by
  simp [g80, show Φ 80 = mToA kAlarm' from rfl, mToA, toPre, szDs_cons, szDs_nil, szD] at hp
  simp [v80, show Φ 80 = mToA kAlarm' from rfl, show Φ 81 = mToL kLabel' from rfl, mToA, mToL, toPre, toPreL, szDs_cons, szDs_nil, szD, g80, cnDs_cons, cnDs_nil, cnD] <;> omega)
theorem ok12 : Good1 Try.prog Φ g12 := good1 tok mixed (l := [g35]) (by simpa using ok35) Try.func12 (by decide) (by decide) v12_eq (args2 fun a b hw hp => by
  simp [g12] at hw
  exact eqV_wp (Φ := Φ) (a := a) (b := b) (p := eqDs kAlarm) (tests := [.op (.fn 35 1000) [mkE (.var 0) (.var 2), mkE (.var 1) (.var 2)]]) (t := .op (.fn 35 0) [mkE (.var 0) (.var 2), mkE (.var 1) (.var 2)]) hw.1.1
    (fun i h1 h2 => by simp only [conj_cons, conj_nil, den_op, dens_cons, dens_nil, op_fn, mkE_den, den_var, show Φ 35 = mEqA kAlarm from rfl, mEqA, con_ok, con_zero, cell_zero, cell_succ, D.asInt_int, D.asBool_bool, rowAt_nat, cell_zero, cell_succ, D.row_sl]; exact ⟨⟨trivial, trivial⟩, trivial⟩) _)
theorem ok16 : Good1 Try.prog Φ g16 := good1e tok mixed (l := [g38, g39]) (by simp [ok38, ok39]) Try.func16 (by decide) (by decide) v16_eq (args2 fun a b hw hp => by
  simp only [g16, told, show Φ 16 = mHldL kAlarm from rfl, mHldL, con_ok, hldPre, cell_zero, cell_succ] at hp
  obtain ⟨hm, h0, hb⟩ := hp
  have hl : a.asList.length ≤ 140737488355328 := by
    simp only [g16, told, WFAs_cons, WFA_one, WFa_sl, lenMax] at hw
    exact hw.1.1
  refine held_wp (Φ := Φ) (c := cntDs kAlarm) hl (fun i x hi hx => ?_) fun x hx => by simp [g16, told, RSh.cells, show Φ 16 = mHldL kAlarm from rfl, mHldL, hx]
  have hr := allR_get hm hi
  have hs := sumR_take_le (p := cntDs kAlarm) (xs := a.asList) (i := i + 1)
  rw [sumR_take _ hi] at hs
  generalize sumR (cntDs kAlarm) (a.asList.take i) = S at hs hx hr ⊢
  generalize hR : rowN a.asList i = r at hs hr ⊢
  generalize sumR (cntDs kAlarm) a.asList = T at hs hb
  simp [mkdDs_cons, mkdDs_nil, mkdD_int, mkdD_bool, mkdD_str, mkdD_sl, cntDs_cons, cntDs_nil, cntD_int, cntD_bool, cntD_str, cntD_sl, ← Int.add_assoc] at hr hs
  simp (disch := omega) [w64, show Φ 38 = mText from rfl, show Φ 39 = mHldL kLabel from rfl, mText, mHldL, hldPre, rowAt_nat, hR, hx, hr, cntDs_cons, cntDs_nil, cntD_int, cntD_bool, cntD_str, cntD_sl, and_assoc]
  repeat' (first | omega | exact hi | rfl | apply And.intro | intro _))
theorem ok15 : Good1 Try.prog Φ g15 := goodXi tok mixed (l := [g37, g38]) (by simp [ok37, ok38]) Try.func15 (by decide) (by decide) (by decide) (by decide) v15_eq (fun _ _ _ => rfl) (fun a n hp => by
  simp only [g15, toldX, show Φ 15 = mMrkL kAlarm from rfl, mMrkL, con_ok, mrkPre, cell_zero, cell_succ, lenD_sl, D.asInt_int] at hp
  obtain ⟨⟨hl, hrs⟩, h0, hb⟩ := hp
  refine mark_wp (Φ := Φ) (f := mrkDs kAlarm) (c := cntDs kAlarm) hl (fun i d hi hdl hrow => ?_) fun d hd => mrk_post hd
  have hs := sumR_take_le (p := cntDs kAlarm) (xs := a.asList) (i := i + 1)
  rw [sumR_take _ hi] at hs
  obtain ⟨hr, hw⟩ := hrs _ (rowN_mem hi)
  simp only [List.length_cons, List.length_nil] at hr
  generalize hS : sumR (cntDs kAlarm) (a.asList.take i) = S at hs ⊢
  generalize rowN a.asList i = r at hr hw hs hrow ⊢
  generalize sumR (cntDs kAlarm) a.asList = T at hs hb
  obtain ⟨r0, r, rfl⟩ := List.exists_cons_of_length_pos (l := r) (by omega)
  simp only [List.length_cons] at hr
  obtain ⟨r1, r, rfl⟩ := List.exists_cons_of_length_pos (l := r) (by omega)
  simp only [List.length_cons] at hr
  obtain ⟨r2, r, rfl⟩ := List.exists_cons_of_length_pos (l := r) (by omega)
  simp only [List.length_cons] at hr
  obtain ⟨r3, r, rfl⟩ := List.exists_cons_of_length_pos (l := r) (by omega)
  simp only [List.length_cons] at hr
  obtain rfl : r = [] := List.eq_nil_of_length_eq_zero (by simpa using hr)
  simp only [cntDs_cons, cntDs_nil, cntD_int, cntD_bool, cntD_str, cntD_sl, cell_zero, cell_succ, List.tail_cons, lenDs_cons, lenDs_nil] at hs hw
  simp (disch := omega) [w64, show Φ 37 = mMrkL kLabel from rfl, show Φ 38 = mText from rfl, mText, mMrkL, mrkPre, rowAt_nat, hrow, hdl, mrkDs_cons, mrkDs_nil, mrkD_int, mrkD_bool, mrkD_str, mrkD_sl, cntDs_cons, cntDs_nil, cntD_int, cntD_bool, cntD_str, cntD_sl, and_assoc]
  repeat' (first | omega | exact hi | rfl | exact hw.1 | exact hw.2.1 | exact hw.2.2.1 | exact hw.2.2.2.1 | apply And.intro))
theorem ok45 : Good1 Try.prog Φ g45 := good1 tok mixed (l := [g78]) (by simpa using ok78) Try.func45 (by decide) (by decide) v45_eq (args2 fun a b hw hp => by
  simp [g45, show Φ 45 = mSzL kAlarm' from rfl, mSzL, szPre] at hw hp
  exact szV_wp (c := 78) (ks := kAlarm') rfl hw.1.1 hp _)
theorem ok53 : Good1 Try.prog Φ g53 := good1 tok mixed (l := [g80]) (by simpa using ok80) Try.func53 (by decide) (by decide) v53_eq (args1 fun a hw hp => by
  simp [g53, show Φ 53 = mToL kAlarm' from rfl, mToL, toPreL] at hw hp
  exact toV_wp (Φ := Φ) (a := a) (c := 80) (bytes := (TT 74).bytes) (tid := 74) (ks := kAlarm') (ks' := kAlarm) (by decide) rfl (fun _ => rfl) rfl hp _)
theorem ok36 : Good1 Try.prog Φ g36 := good1 tok mixed (l := [g12, g35, g84]) (by simp [ok12, ok35, ok84]) Try.func36 (by decide) (by decide) v36_eq (args2 fun a b hw hp => by
  simp [v36, show Φ 36 = mEqA kDeed from rfl, show Φ 12 = mEqL kAlarm from rfl, show Φ 35 = mEqA kAlarm from rfl, show Φ 84 = mEqL kLabel from rfl, mEqA, mEqL, g36, eqDs_cons, eqDs_nil, eqD_str, eqD_int, eqD_bool, eqD_sl]
  simp +contextual <;> (intros; simp_all))
theorem ok29 : Good1 Try.prog Φ g29 := good1 tok mixed (l := [g45, g78, g79]) (by simp [ok45, ok78, ok79]) Try.func29 (by decide) (by decide) v29_eq (args2 fun a b hw hp => by
  simp [g29, show Φ 29 = mSzA kDeed' from rfl, mSzA, szPre] at hw hp
  have := szSV_wp (Φ := Φ) (env := [a, b]) (B := fun _ _ => False) [.c 78 (.op .mk [.op (.fld 2) [.var 0], .op (.fld 3) [.var 0], .op (.fld 4) [.var 0], .op (.fld 5) [.var 0]]), .c 79 (.op (.fld 6) [.var 0]), .c 45 (.op (.fld 10) [.var 0])] [szDs kAlarm' [cell a.row 2, cell a.row 3, cell a.row 4, cell a.row 5], szD (.sl 176 kLabel') (cell a.row 6), szD (.sl 67 kAlarm') (cell a.row 10)] (.var 1) b.asInt (by simp +contextual [stOk, hw, show Φ 45 = mSzL kAlarm' from rfl, show Φ 78 = mSzA kAlarm' from rfl, show Φ 79 = mSzL kLabel' from rfl, mSzL, mSzA, szPre, szD]) rfl (by simp) hp.1 hp.2
  have e : szDs kDeed' a.row = sumN [szDs kAlarm' [cell a.row 2, cell a.row 3, cell a.row 4, cell a.row 5], szD (.sl 176 kLabel') (cell a.row 6), szD (.sl 67 kAlarm') (cell a.row 10)] := by simp [szDs_cons, szDs_nil, szD, sumN] <;> omega
  show v29.wp Φ (fun l => l = [.int (szM (szDs kDeed' a.row) b.asInt)]) [a, b] _
  rw [e]
  exact this)
theorem ok32 : Good1 Try.prog Φ g32 := good1 tok mixed (l := [g53, g80, g81]) (by simp [ok53, ok80, ok81]) Try.func32 (by decide) (by decide) v32_eq (args1 fun a hw hp => by
  simp [g32, show Φ 32 = mToA kDeed' from rfl, mToA, toPre, szDs_cons, szDs_nil, szD] at hp
  simp [v32, show Φ 32 = mToA kDeed' from rfl, show Φ 53 = mToL kAlarm' from rfl, show Φ 80 = mToA kAlarm' from rfl, show Φ 81 = mToL kLabel' from rfl, mToA, mToL, toPre, toPreL, szDs_cons, szDs_nil, szD, g32, cnDs_cons, cnDs_nil, cnD] <;> omega)
theorem ok13 : Good1 Try.prog Φ g13 := good1 tok mixed (l := [g36]) (by simpa using ok36) Try.func13 (by decide) (by decide) v13_eq (args2 fun a b hw hp => by
  simp [g13] at hw
  exact eqV_wp (Φ := Φ) (a := a) (b := b) (p := eqDs kDeed) (tests := [.op (.fn 36 1000) [mkE (.var 0) (.var 2), mkE (.var 1) (.var 2)]]) (t := .op (.fn 36 0) [mkE (.var 0) (.var 2), mkE (.var 1) (.var 2)]) hw.1.1
    (fun i h1 h2 => by simp only [conj_cons, conj_nil, den_op, dens_cons, dens_nil, op_fn, mkE_den, den_var, show Φ 36 = mEqA kDeed from rfl, mEqA, con_ok, con_zero, cell_zero, cell_succ, D.asInt_int, D.asBool_bool, rowAt_nat, cell_zero, cell_succ, D.row_sl]; exact ⟨⟨trivial, trivial⟩, trivial⟩) _)
set_option maxHeartbeats 2000000 in
theorem ok14 : Good1 Try.prog Φ g14 := goodXi tok mixed (l := [g15, g37, g38]) (by simp [ok15, ok37, ok38]) Try.func14 (by decide) (by decide) (by decide) (by decide) v14_eq (fun _ _ _ => rfl) (fun a n hp => by
  simp only [g14, toldX, show Φ 14 = mMrkL kDeed from rfl, mMrkL, con_ok, mrkPre, cell_zero, cell_succ, lenD_sl, D.asInt_int] at hp
  obtain ⟨⟨hl, hrs⟩, h0, hb⟩ := hp
  refine mark_wp (Φ := Φ) (f := mrkDs kDeed) (c := cntDs kDeed) hl (fun i d hi hdl hrow => ?_) fun d hd => mrk_post hd
  have hs := sumR_take_le (p := cntDs kDeed) (xs := a.asList) (i := i + 1)
  rw [sumR_take _ hi] at hs
  obtain ⟨hr, hw⟩ := hrs _ (rowN_mem hi)
  simp only [List.length_cons, List.length_nil] at hr
  generalize hS : sumR (cntDs kDeed) (a.asList.take i) = S at hs ⊢
  generalize rowN a.asList i = r at hr hw hs hrow ⊢
  generalize sumR (cntDs kDeed) a.asList = T at hs hb
  obtain ⟨r0, r, rfl⟩ := List.exists_cons_of_length_pos (l := r) (by omega)
  simp only [List.length_cons] at hr
  obtain ⟨r1, r, rfl⟩ := List.exists_cons_of_length_pos (l := r) (by omega)
  simp only [List.length_cons] at hr
  obtain ⟨r2, r, rfl⟩ := List.exists_cons_of_length_pos (l := r) (by omega)
  simp only [List.length_cons] at hr
  obtain ⟨r3, r, rfl⟩ := List.exists_cons_of_length_pos (l := r) (by omega)
  simp only [List.length_cons] at hr
  obtain ⟨r4, r, rfl⟩ := List.exists_cons_of_length_pos (l := r) (by omega)
  simp only [List.length_cons] at hr
  obtain ⟨r5, r, rfl⟩ := List.exists_cons_of_length_pos (l := r) (by omega)
  simp only [List.length_cons] at hr
  obtain ⟨r6, r, rfl⟩ := List.exists_cons_of_length_pos (l := r) (by omega)
  simp only [List.length_cons] at hr
  obtain ⟨r7, r, rfl⟩ := List.exists_cons_of_length_pos (l := r) (by omega)
  simp only [List.length_cons] at hr
  obtain ⟨r8, r, rfl⟩ := List.exists_cons_of_length_pos (l := r) (by omega)
  simp only [List.length_cons] at hr
  obtain ⟨r9, r, rfl⟩ := List.exists_cons_of_length_pos (l := r) (by omega)
  simp only [List.length_cons] at hr
  obtain ⟨r10, r, rfl⟩ := List.exists_cons_of_length_pos (l := r) (by omega)
  simp only [List.length_cons] at hr
  obtain ⟨r11, r, rfl⟩ := List.exists_cons_of_length_pos (l := r) (by omega)
  simp only [List.length_cons] at hr
  obtain ⟨r12, r, rfl⟩ := List.exists_cons_of_length_pos (l := r) (by omega)
  simp only [List.length_cons] at hr
  obtain ⟨r13, r, rfl⟩ := List.exists_cons_of_length_pos (l := r) (by omega)
  simp only [List.length_cons] at hr
  obtain ⟨r14, r, rfl⟩ := List.exists_cons_of_length_pos (l := r) (by omega)
  simp only [List.length_cons] at hr
  obtain rfl : r = [] := List.eq_nil_of_length_eq_zero (by simpa using hr)
  simp only [cntDs_cons, cntDs_nil, cntD_int, cntD_bool, cntD_str, cntD_sl, cell_zero, cell_succ, List.tail_cons, lenDs_cons, lenDs_nil] at hs hw
  simp (disch := omega) [w64, show Φ 15 = mMrkL kAlarm from rfl, show Φ 37 = mMrkL kLabel from rfl, show Φ 38 = mText from rfl, mText, mMrkL, mrkPre, rowAt_nat, hrow, hdl, mrkDs_cons, mrkDs_nil, mrkD_int, mrkD_bool, mrkD_str, mrkD_sl, cntDs_cons, cntDs_nil, cntD_int, cntD_bool, cntD_str, cntD_sl, and_assoc]
  repeat' (first | omega | exact hi | rfl | exact hw.1 | exact hw.2.1 | exact hw.2.2.1 | exact hw.2.2.2.1 | exact hw.2.2.2.2.1 | exact hw.2.2.2.2.2.1 | exact hw.2.2.2.2.2.2.1 | exact hw.2.2.2.2.2.2.2.1 | exact hw.2.2.2.2.2.2.2.2.1 | exact hw.2.2.2.2.2.2.2.2.2.1 | exact hw.2.2.2.2.2.2.2.2.2.2.1 | exact hw.2.2.2.2.2.2.2.2.2.2.2.1 | exact hw.2.2.2.2.2.2.2.2.2.2.2.2.1 | exact hw.2.2.2.2.2.2.2.2.2.2.2.2.2.1 | exact hw.2.2.2.2.2.2.2.2.2.2.2.2.2.2.1 | apply And.intro))
theorem ok8 : Good1 Try.prog Φ g8 := good1 tok mixed (l := [g29]) (by simpa using ok29) Try.func8 (by decide) (by decide) v8_eq (args2 fun a b hw hp => by
  simp [g8, show Φ 8 = mSzL kDeed' from rfl, mSzL, szPre] at hw hp
  exact szV_wp (c := 29) (ks := kDeed') rfl hw.1.1 hp _)
theorem ok10 : Good1 Try.prog Φ g10 := good1 tok mixed (l := [g32]) (by simpa using ok32) Try.func10 (by decide) (by decide) v10_eq (args1 fun a hw hp => by
  simp [g10, show Φ 10 = mToL kDeed' from rfl, mToL, toPreL] at hw hp
  exact toV_wp (Φ := Φ) (a := a) (c := 32) (bytes := (TT 76).bytes) (tid := 76) (ks := kDeed') (ks' := kDeed) (by decide) rfl (fun _ => rfl) rfl hp _)

end Go.Proofs.Ytllhihloidkghaa

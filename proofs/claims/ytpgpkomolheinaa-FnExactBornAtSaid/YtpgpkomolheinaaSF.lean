/-
  The helpers of the laws: measure, copy, compare.
-/
import Derived.Test.YtpgpkomolheinaaSM
set_option linter.unusedVariables false
set_option linter.unusedSimpArgs false
namespace Go.Proofs.Ytpgpkomolheinaa
open Go.Vx

theorem ok69 : Good1 Try.prog Φ g69 := good1 tok mixed (l := []) (by simp) Try.func69 (by decide) (by decide) v69_eq (args1 fun a hw hp => by
  simp [g69, show Φ 69 = mText from rfl, mText] at hp
  exact text_wp hp _)
theorem ok68 : Good1 Try.prog Φ g68 := good1 tok mixed (l := []) (by simp []) Try.func68 (by decide) (by decide) v68_eq (args2 fun a b hw hp => by
  simp [v68, show Φ 68 = mEqA kLabel from rfl, mEqA, mEqL, g68, eqDs_cons, eqDs_nil, eqD_str, eqD_int, eqD_bool, eqD_sl]
  simp +contextual <;> (intros; simp_all))
theorem ok62 : Good1 Try.prog Φ g62 := good1 tok mixed (l := []) (by simp []) Try.func62 (by decide) (by decide) v62_eq (args2 fun a b hw hp => by
  simp [g62, show Φ 62 = mSzA kLabel' from rfl, mSzA, szPre] at hw hp
  have := szSV_wp (Φ := Φ) (env := [a, b]) (B := fun _ _ => False) [.s (.op (.fld 0) [.var 0]), .s (.op (.fld 1) [.var 0])] [(cell a.row 0).asStr.size, (cell a.row 1).asStr.size] (.var 1) b.asInt (by simp +contextual [stOk, hw, mSzL, mSzA, szPre, szD]) rfl (by simp) hp.1 hp.2
  have e : szDs kLabel' a.row = sumN [(cell a.row 0).asStr.size, (cell a.row 1).asStr.size] := by simp [szDs_cons, szDs_nil, szD, sumN] <;> omega
  show v62.wp Φ (fun l => l = [.int (szM (szDs kLabel' a.row) b.asInt)]) [a, b] _
  rw [e]
  exact this)
theorem ok65 : Good1 Try.prog Φ g65 := good1 tok mixed (l := []) (by simp []) Try.func65 (by decide) (by decide) v65_eq (args1 fun a hw hp => by
  simp [g65, show Φ 65 = mToA kLabel' from rfl, mToA, toPre, szDs_cons, szDs_nil, szD] at hp
  simp [v65, show Φ 65 = mToA kLabel' from rfl, mToA, mToL, toPre, toPreL, szDs_cons, szDs_nil, szD, g65, cnDs_cons, cnDs_nil, cnD] <;> omega)
theorem ok22 : Good1 Try.prog Φ g22 := good1 tok mixed (l := [g68]) (by simpa using ok68) Try.func22 (by decide) (by decide) v22_eq (args2 fun a b hw hp => by
  simp [g22] at hw
  exact eqV_wp (Φ := Φ) (a := a) (b := b) (p := eqDs kLabel) (tests := [.op (.fn 68 1000) [mkE (.var 0) (.var 2), mkE (.var 1) (.var 2)]]) (t := .op (.fn 68 0) [mkE (.var 0) (.var 2), mkE (.var 1) (.var 2)]) hw.1.1
    (fun i h1 h2 => by simp only [conj_cons, conj_nil, den_op, dens_cons, dens_nil, op_fn, mkE_den, den_var, show Φ 68 = mEqA kLabel from rfl, mEqA, con_ok, con_zero, cell_zero, cell_succ, D.asInt_int, D.asBool_bool, rowAt_nat, cell_zero, cell_succ, D.row_sl]; exact ⟨⟨trivial, trivial⟩, trivial⟩) _)
theorem ok70 : Good1 Try.prog Φ g70 := good1e tok mixed (l := [g69]) (by simp [ok69]) Try.func70 (by decide) (by decide) v70_eq (args2 fun a b hw hp => by
  simp only [g70, told, show Φ 70 = mHldL kLabel from rfl, mHldL, con_ok, hldPre, cell_zero, cell_succ] at hp
  obtain ⟨hm, h0, hb⟩ := hp
  have hl : a.asList.length ≤ 140737488355328 := by
    simp only [g70, told, WFAs_cons, WFA_one, WFa_sl, lenMax] at hw
    exact hw.1.1
  refine held_wp (Φ := Φ) (c := cntDs kLabel) hl (fun i x hi hx => ?_) fun x hx => by simp [g70, told, RSh.cells, show Φ 70 = mHldL kLabel from rfl, mHldL, hx]
  have hr := allR_get hm hi
  have hs := sumR_take_le (p := cntDs kLabel) (xs := a.asList) (i := i + 1)
  rw [sumR_take _ hi] at hs
  generalize sumR (cntDs kLabel) (a.asList.take i) = S at hs hx hr ⊢
  generalize hR : rowN a.asList i = r at hs hr ⊢
  generalize sumR (cntDs kLabel) a.asList = T at hs hb
  simp [mkdDs_cons, mkdDs_nil, mkdD_int, mkdD_bool, mkdD_str, mkdD_sl, cntDs_cons, cntDs_nil, cntD_int, cntD_bool, cntD_str, cntD_sl, ← Int.add_assoc] at hr hs
  simp (disch := omega) [w64, show Φ 69 = mText from rfl, mText, mHldL, hldPre, rowAt_nat, hR, hx, hr, cntDs_cons, cntDs_nil, cntD_int, cntD_bool, cntD_str, cntD_sl, and_assoc]
  repeat' (first | omega | exact hi | rfl | apply And.intro | intro _))
theorem ok24 : Good1 Try.prog Φ g24 := goodXi tok mixed (l := [g69]) (by simp [ok69]) Try.func24 (by decide) (by decide) (by decide) (by decide) v24_eq (fun _ _ _ => rfl) (fun a n hp => by
  simp only [g24, toldX, show Φ 24 = mMrkL kLabel from rfl, mMrkL, con_ok, mrkPre, cell_zero, cell_succ, lenD_sl, D.asInt_int] at hp
  obtain ⟨⟨hl, hrs⟩, h0, hb⟩ := hp
  refine mark_wp (Φ := Φ) (f := mrkDs kLabel) (c := cntDs kLabel) hl (fun i d hi hdl hrow => ?_) fun d hd => mrk_post hd
  have hs := sumR_take_le (p := cntDs kLabel) (xs := a.asList) (i := i + 1)
  rw [sumR_take _ hi] at hs
  obtain ⟨hr, hw⟩ := hrs _ (rowN_mem hi)
  simp only [List.length_cons, List.length_nil] at hr
  generalize hS : sumR (cntDs kLabel) (a.asList.take i) = S at hs ⊢
  generalize rowN a.asList i = r at hr hw hs hrow ⊢
  generalize sumR (cntDs kLabel) a.asList = T at hs hb
  obtain ⟨r0, r, rfl⟩ := List.exists_cons_of_length_pos (l := r) (by omega)
  simp only [List.length_cons] at hr
  obtain ⟨r1, r, rfl⟩ := List.exists_cons_of_length_pos (l := r) (by omega)
  simp only [List.length_cons] at hr
  obtain rfl : r = [] := List.eq_nil_of_length_eq_zero (by simpa using hr)
  simp only [cntDs_cons, cntDs_nil, cntD_int, cntD_bool, cntD_str, cntD_sl, cell_zero, cell_succ, List.tail_cons, lenDs_cons, lenDs_nil] at hs hw
  simp (disch := omega) [w64, show Φ 69 = mText from rfl, mText, mMrkL, mrkPre, rowAt_nat, hrow, hdl, mrkDs_cons, mrkDs_nil, mrkD_int, mrkD_bool, mrkD_str, mrkD_sl, cntDs_cons, cntDs_nil, cntD_int, cntD_bool, cntD_str, cntD_sl, and_assoc]
  repeat' (first | omega | exact hi | rfl | exact hw.1 | exact hw.2.1 | apply And.intro))
theorem ok18 : Good1 Try.prog Φ g18 := good1 tok mixed (l := [g62]) (by simpa using ok62) Try.func18 (by decide) (by decide) v18_eq (args2 fun a b hw hp => by
  simp [g18, show Φ 18 = mSzL kLabel' from rfl, mSzL, szPre] at hw hp
  exact szV_wp (c := 62) (ks := kLabel') rfl hw.1.1 hp _)
theorem ok20 : Good1 Try.prog Φ g20 := good1 tok mixed (l := [g65]) (by simpa using ok65) Try.func20 (by decide) (by decide) v20_eq (args1 fun a hw hp => by
  simp [g20, show Φ 20 = mToL kLabel' from rfl, mToL, toPreL] at hw hp
  exact toV_wp (Φ := Φ) (a := a) (c := 65) (bytes := (TT 80).bytes) (tid := 80) (ks := kLabel') (ks' := kLabel) (by decide) rfl (fun _ => rfl) rfl hp _)
theorem ok39 : Good1 Try.prog Φ g39 := good1 tok mixed (l := [g22]) (by simp [ok22]) Try.func39 (by decide) (by decide) v39_eq (args2 fun a b hw hp => by
  simp [v39, show Φ 39 = mEqA kAlarm from rfl, show Φ 22 = mEqL kLabel from rfl, mEqA, mEqL, g39, eqDs_cons, eqDs_nil, eqD_str, eqD_int, eqD_bool, eqD_sl]
  simp +contextual <;> (intros; simp_all))
theorem ok17 : Good1 Try.prog Φ g17 := good1 tok mixed (l := [g39]) (by simpa using ok39) Try.func17 (by decide) (by decide) v17_eq (args2 fun a b hw hp => by
  simp [g17] at hw
  exact eqV_wp (Φ := Φ) (a := a) (b := b) (p := eqDs kAlarm) (tests := [.op (.fn 39 1000) [mkE (.var 0) (.var 2), mkE (.var 1) (.var 2)]]) (t := .op (.fn 39 0) [mkE (.var 0) (.var 2), mkE (.var 1) (.var 2)]) hw.1.1
    (fun i h1 h2 => by simp only [conj_cons, conj_nil, den_op, dens_cons, dens_nil, op_fn, mkE_den, den_var, show Φ 39 = mEqA kAlarm from rfl, mEqA, con_ok, con_zero, cell_zero, cell_succ, D.asInt_int, D.asBool_bool, rowAt_nat, cell_zero, cell_succ, D.row_sl]; exact ⟨⟨trivial, trivial⟩, trivial⟩) _)
theorem ok78 : Good1 Try.prog Φ g78 := good1 tok mixed (l := [g17, g22]) (by simp [ok17, ok22]) Try.func78 (by decide) (by decide) v78_eq (args2 fun a b hw hp => by
  simp [v78, show Φ 78 = mEqA kBatch from rfl, show Φ 17 = mEqL kAlarm from rfl, show Φ 22 = mEqL kLabel from rfl, mEqA, mEqL, g78, eqDs_cons, eqDs_nil, eqD_str, eqD_int, eqD_bool, eqD_sl]
  simp +contextual <;> (intros; simp_all))
theorem ok41 : Good1 Try.prog Φ g41 := good1e tok mixed (l := [g70]) (by simp [ok70]) Try.func41 (by decide) (by decide) v41_eq (args2 fun a b hw hp => by
  simp only [g41, told, show Φ 41 = mHldA kAlarm from rfl, mHldA, con_ok, hldPreA, cell_zero, cell_succ] at hp
  obtain ⟨hm, h0, hb⟩ := hp
  simp [mkdSl, cntSl, ← Int.add_assoc] at hm hb
  simp (disch := omega) [v41, g41, told, RSh.cells, show Φ 41 = mHldA kAlarm from rfl, show Φ 70 = mHldL kLabel from rfl, mHldL, hldPre, mHldA, hldPreA, mkdSl, cntSl, hm, and_assoc]
  repeat' (first | omega | rfl | apply And.intro | intro _))
theorem ok40 : Good1 Try.prog Φ g40 := goodXi tok mixed (l := [g24]) (by simp [ok24]) Try.func40 (by decide) (by decide) (by decide) (by decide) v40_eq (fun _ _ _ => rfl) (fun a n hp => by
  simp only [g40, toldX, show Φ 40 = mMrkA kAlarm from rfl, mMrkA, con_ok, mrkPreA, cell_zero, cell_succ, D.asInt_int] at hp
  obtain ⟨hw, h0, hb⟩ := hp
  simp only [lenDs_cons, lenDs_nil, cell_tail, cntSl, Nat.zero_add, Nat.reduceAdd] at hw hb
  simp only [v40, wp_req', wp_ret', conj_cons, conj_nil, den_op, dens_cons, dens_nil, den_var, op_fn, op_asl, op_fld, op_mk, cell_zero, cell_succ, List.map_cons, List.map_nil, show Φ 24 = mMrkL kLabel from rfl, mMrkL, mMrkA, mrkPre, mrkPreA, con_ok, con_zero, con_2000, D.asInt_int, D.asList_sl, D.row_sl, cntSl, mrkSl, lenDs_cons, lenDs_nil, cell_tail, List.tail_cons, Nat.zero_add, Nat.reduceAdd, Nat.sub_self, and_true, if_true, show (2000 : Nat) ≠ 0 by decide, if_false]
  repeat' (first | omega | exact hw.1 | exact hw.2.1 | exact hw.2.2.1 | exact hw.2.2.2.1 | exact hw.2.2.2.2.1 | exact hw.2.2.2.2.2.1 | exact hw.2.2.2.2.2.2.1 | exact hw.2.2.2.2.2.2.2.1 | exact hw.2.2.2.2.2.2.2.2.1 | exact hw.2.2.2.2.2.2.2.2.2.1 | exact hw.2.2.2.2.2.2.2.2.2.2.1 | exact hw.2.2.2.2.2.2.2.2.2.2.2.1 | exact hw.2.2.2.2.2.2.2.2.2.2.2.2.1 | exact hw.2.2.2.2.2.2.2.2.2.2.2.2.2.1 | exact hw.2.2.2.2.2.2.2.2.2.2.2.2.2.2.1 | exact hw.2.2.2.2.2.2.2.2.2.2.2.2.2.2.2.1 | exact hw.2.2.2.2.2.2.2.2.2.2.2.2.2.2.2.2.1 | exact hw.2.2.2.2.2.2.2.2.2.2.2.2.2.2.2.2.2.1 | exact hw.2.2.2.2.2.2.2.2.2.2.2.2.2.2.2.2.2.2.1 | refine mrkA_post ?_ ?_ rfl | (simp [cntSl, mrkSl, ← Int.add_assoc]; done) | apply And.intro))
theorem ok59 : Good1 Try.prog Φ g59 := good1 tok mixed (l := [g18]) (by simp [ok18]) Try.func59 (by decide) (by decide) v59_eq (args2 fun a b hw hp => by
  simp [g59, show Φ 59 = mSzA kAlarm' from rfl, mSzA, szPre] at hw hp
  have := szSV_wp (Φ := Φ) (env := [a, b]) (B := fun _ _ => False) [.c 18 (.op (.fld 0) [.var 0]), .s (.op (.fld 3) [.var 0])] [szD (.sl 78 kLabel') (cell a.row 0), (cell a.row 3).asStr.size] (.var 1) b.asInt (by simp +contextual [stOk, hw, show Φ 18 = mSzL kLabel' from rfl, mSzL, mSzA, szPre, szD]) rfl (by simp) hp.1 hp.2
  have e : szDs kAlarm' a.row = sumN [szD (.sl 78 kLabel') (cell a.row 0), (cell a.row 3).asStr.size] := by simp [szDs_cons, szDs_nil, szD, sumN] <;> omega
  show v59.wp Φ (fun l => l = [.int (szM (szDs kAlarm' a.row) b.asInt)]) [a, b] _
  rw [e]
  exact this)
theorem ok13 : Good1 Try.prog Φ g13 := good1 tok mixed (l := [g59]) (by simpa using ok59) Try.func13 (by decide) (by decide) v13_eq (args2 fun a b hw hp => by
  simp [g13, show Φ 13 = mSzL kAlarm' from rfl, mSzL, szPre] at hw hp
  exact szV_wp (c := 59) (ks := kAlarm') rfl hw.1.1 hp _)
theorem ok76 : Good1 Try.prog Φ g76 := good1 tok mixed (l := [g13, g18]) (by simp [ok13, ok18]) Try.func76 (by decide) (by decide) v76_eq (args2 fun a b hw hp => by
  simp [g76, show Φ 76 = mSzA kBatch' from rfl, mSzA, szPre] at hw hp
  have := szSV_wp (Φ := Φ) (env := [a, b]) (B := fun _ _ => False) [.c 18 (.op (.fld 1) [.var 0]), .c 13 (.op (.fld 3) [.var 0])] [szD (.sl 78 kLabel') (cell a.row 1), szD (.sl 74 kAlarm') (cell a.row 3)] (.var 1) b.asInt (by simp +contextual [stOk, hw, show Φ 13 = mSzL kAlarm' from rfl, show Φ 18 = mSzL kLabel' from rfl, mSzL, mSzA, szPre, szD]) rfl (by simp) hp.1 hp.2
  have e : szDs kBatch' a.row = sumN [szD (.sl 78 kLabel') (cell a.row 1), szD (.sl 74 kAlarm') (cell a.row 3)] := by simp [szDs_cons, szDs_nil, szD, sumN] <;> omega
  show v76.wp Φ (fun l => l = [.int (szM (szDs kBatch' a.row) b.asInt)]) [a, b] _
  rw [e]
  exact this)
theorem ok61 : Good1 Try.prog Φ g61 := good1 tok mixed (l := [g20]) (by simp [ok20]) Try.func61 (by decide) (by decide) v61_eq (args1 fun a hw hp => by
  simp [g61, show Φ 61 = mToA kAlarm' from rfl, mToA, toPre, szDs_cons, szDs_nil, szD] at hp
  simp [v61, show Φ 61 = mToA kAlarm' from rfl, show Φ 20 = mToL kLabel' from rfl, mToA, mToL, toPre, toPreL, szDs_cons, szDs_nil, szD, g61, cnDs_cons, cnDs_nil, cnD] <;> omega)
theorem ok15 : Good1 Try.prog Φ g15 := good1 tok mixed (l := [g61]) (by simpa using ok61) Try.func15 (by decide) (by decide) v15_eq (args1 fun a hw hp => by
  simp [g15, show Φ 15 = mToL kAlarm' from rfl, mToL, toPreL] at hw hp
  exact toV_wp (Φ := Φ) (a := a) (c := 61) (bytes := (TT 53).bytes) (tid := 53) (ks := kAlarm') (ks' := kAlarm) (by decide) rfl (fun _ => rfl) rfl hp _)
theorem ok77 : Good1 Try.prog Φ g77 := good1 tok mixed (l := [g15, g20]) (by simp [ok15, ok20]) Try.func77 (by decide) (by decide) v77_eq (args1 fun a hw hp => by
  simp [g77, show Φ 77 = mToA kBatch' from rfl, mToA, toPre, szDs_cons, szDs_nil, szD] at hp
  simp [v77, show Φ 77 = mToA kBatch' from rfl, show Φ 15 = mToL kAlarm' from rfl, show Φ 20 = mToL kLabel' from rfl, mToA, mToL, toPre, toPreL, szDs_cons, szDs_nil, szD, g77, cnDs_cons, cnDs_nil, cnD] <;> omega)
theorem ok35 : Good1 Try.prog Φ g35 := good1 tok mixed (l := [g78]) (by simpa using ok78) Try.func35 (by decide) (by decide) v35_eq (args2 fun a b hw hp => by
  simp [g35] at hw
  exact eqV_wp (Φ := Φ) (a := a) (b := b) (p := eqDs kBatch) (tests := [.op (.fn 78 1000) [mkE (.var 0) (.var 2), mkE (.var 1) (.var 2)]]) (t := .op (.fn 78 0) [mkE (.var 0) (.var 2), mkE (.var 1) (.var 2)]) hw.1.1
    (fun i h1 h2 => by simp only [conj_cons, conj_nil, den_op, dens_cons, dens_nil, op_fn, mkE_den, den_var, show Φ 78 = mEqA kBatch from rfl, mEqA, con_ok, con_zero, cell_zero, cell_succ, D.asInt_int, D.asBool_bool, rowAt_nat, cell_zero, cell_succ, D.row_sl]; exact ⟨⟨trivial, trivial⟩, trivial⟩) _)
theorem ok25 : Good1 Try.prog Φ g25 := good1e tok mixed (l := [g69, g70]) (by simp [ok69, ok70]) Try.func25 (by decide) (by decide) v25_eq (args2 fun a b hw hp => by
  simp only [g25, told, show Φ 25 = mHldL kAlarm from rfl, mHldL, con_ok, hldPre, cell_zero, cell_succ] at hp
  obtain ⟨hm, h0, hb⟩ := hp
  have hl : a.asList.length ≤ 140737488355328 := by
    simp only [g25, told, WFAs_cons, WFA_one, WFa_sl, lenMax] at hw
    exact hw.1.1
  refine held_wp (Φ := Φ) (c := cntDs kAlarm) hl (fun i x hi hx => ?_) fun x hx => by simp [g25, told, RSh.cells, show Φ 25 = mHldL kAlarm from rfl, mHldL, hx]
  have hr := allR_get hm hi
  have hs := sumR_take_le (p := cntDs kAlarm) (xs := a.asList) (i := i + 1)
  rw [sumR_take _ hi] at hs
  generalize sumR (cntDs kAlarm) (a.asList.take i) = S at hs hx hr ⊢
  generalize hR : rowN a.asList i = r at hs hr ⊢
  generalize sumR (cntDs kAlarm) a.asList = T at hs hb
  simp [mkdDs_cons, mkdDs_nil, mkdD_int, mkdD_bool, mkdD_str, mkdD_sl, cntDs_cons, cntDs_nil, cntD_int, cntD_bool, cntD_str, cntD_sl, ← Int.add_assoc] at hr hs
  simp (disch := omega) [w64, show Φ 69 = mText from rfl, show Φ 70 = mHldL kLabel from rfl, mText, mHldL, hldPre, rowAt_nat, hR, hx, hr, cntDs_cons, cntDs_nil, cntD_int, cntD_bool, cntD_str, cntD_sl, and_assoc]
  repeat' (first | omega | exact hi | rfl | apply And.intro | intro _))
theorem ok44 : Good1 Try.prog Φ g44 := good1e tok mixed (l := [g25, g70]) (by simp [ok25, ok70]) Try.func44 (by decide) (by decide) v44_eq (args2 fun a b hw hp => by
  simp only [g44, told, show Φ 44 = mHldL kBatch from rfl, mHldL, con_ok, hldPre, cell_zero, cell_succ] at hp
  obtain ⟨hm, h0, hb⟩ := hp
  have hl : a.asList.length ≤ 140737488355328 := by
    simp only [g44, told, WFAs_cons, WFA_one, WFa_sl, lenMax] at hw
    exact hw.1.1
  refine held_wp (Φ := Φ) (c := cntDs kBatch) hl (fun i x hi hx => ?_) fun x hx => by simp [g44, told, RSh.cells, show Φ 44 = mHldL kBatch from rfl, mHldL, hx]
  have hr := allR_get hm hi
  have hs := sumR_take_le (p := cntDs kBatch) (xs := a.asList) (i := i + 1)
  rw [sumR_take _ hi] at hs
  generalize sumR (cntDs kBatch) (a.asList.take i) = S at hs hx hr ⊢
  generalize hR : rowN a.asList i = r at hs hr ⊢
  generalize sumR (cntDs kBatch) a.asList = T at hs hb
  simp [mkdDs_cons, mkdDs_nil, mkdD_int, mkdD_bool, mkdD_str, mkdD_sl, cntDs_cons, cntDs_nil, cntD_int, cntD_bool, cntD_str, cntD_sl, ← Int.add_assoc] at hr hs
  simp (disch := omega) [w64, show Φ 25 = mHldL kAlarm from rfl, show Φ 70 = mHldL kLabel from rfl, mText, mHldL, hldPre, rowAt_nat, hR, hx, hr, cntDs_cons, cntDs_nil, cntD_int, cntD_bool, cntD_str, cntD_sl, and_assoc]
  repeat' (first | omega | exact hi | rfl | apply And.intro | intro _))
theorem ok23 : Good1 Try.prog Φ g23 := goodXi tok mixed (l := [g24, g69]) (by simp [ok24, ok69]) Try.func23 (by decide) (by decide) (by decide) (by decide) v23_eq (fun _ _ _ => rfl) (fun a n hp => by
  simp only [g23, toldX, show Φ 23 = mMrkL kAlarm from rfl, mMrkL, con_ok, mrkPre, cell_zero, cell_succ, lenD_sl, D.asInt_int] at hp
  obtain ⟨⟨hl, hrs⟩, h0, hb⟩ := hp
  refine mark_wp (Φ := Φ) (f := mrkDs kAlarm) (c := cntDs kAlarm) hl (fun i d hi hdl hrow => ?_) fun d hd => mrk_post hd
  have hs := sumR_take_le (p := cntDs kAlarm) (xs := a.asList) (i := i + 1)
  rw [sumR_take _ hi] at hs
  obtain ⟨hr, hw⟩ := hrs _ (rowN_mem hi)
  simp only [List.length_cons, List.length_nil] at hr
  generalize hS : sumR (cntDs kAlarm) (a.asList.take i) = S at hs ⊢
  generalize rowN a.asList i = r at hr hw hs hrow ⊢
  generalize sumR (cntDs kAlarm) a.asList = T at hs hb
  obtain ⟨r0, r, rfl⟩ := List.exists_cons_of_length_pos (l := r) (by omega)
  simp only [List.length_cons] at hr
  obtain ⟨r1, r, rfl⟩ := List.exists_cons_of_length_pos (l := r) (by omega)
  simp only [List.length_cons] at hr
  obtain ⟨r2, r, rfl⟩ := List.exists_cons_of_length_pos (l := r) (by omega)
  simp only [List.length_cons] at hr
  obtain ⟨r3, r, rfl⟩ := List.exists_cons_of_length_pos (l := r) (by omega)
  simp only [List.length_cons] at hr
  obtain rfl : r = [] := List.eq_nil_of_length_eq_zero (by simpa using hr)
  simp only [cntDs_cons, cntDs_nil, cntD_int, cntD_bool, cntD_str, cntD_sl, cell_zero, cell_succ, List.tail_cons, lenDs_cons, lenDs_nil] at hs hw
  simp (disch := omega) [w64, show Φ 24 = mMrkL kLabel from rfl, show Φ 69 = mText from rfl, mText, mMrkL, mrkPre, rowAt_nat, hrow, hdl, mrkDs_cons, mrkDs_nil, mrkD_int, mrkD_bool, mrkD_str, mrkD_sl, cntDs_cons, cntDs_nil, cntD_int, cntD_bool, cntD_str, cntD_sl, and_assoc]
  repeat' (first | omega | exact hi | rfl | exact hw.1 | exact hw.2.1 | exact hw.2.2.1 | exact hw.2.2.2.1 | apply And.intro))
theorem ok36 : Good1 Try.prog Φ g36 := goodXi tok mixed (l := [g23, g24]) (by simp [ok23, ok24]) Try.func36 (by decide) (by decide) (by decide) (by decide) v36_eq (fun _ _ _ => rfl) (fun a n hp => by
  simp only [g36, toldX, show Φ 36 = mMrkL kBatch from rfl, mMrkL, con_ok, mrkPre, cell_zero, cell_succ, lenD_sl, D.asInt_int] at hp
  obtain ⟨⟨hl, hrs⟩, h0, hb⟩ := hp
  refine mark_wp (Φ := Φ) (f := mrkDs kBatch) (c := cntDs kBatch) hl (fun i d hi hdl hrow => ?_) fun d hd => mrk_post hd
  have hs := sumR_take_le (p := cntDs kBatch) (xs := a.asList) (i := i + 1)
  rw [sumR_take _ hi] at hs
  obtain ⟨hr, hw⟩ := hrs _ (rowN_mem hi)
  simp only [List.length_cons, List.length_nil] at hr
  generalize hS : sumR (cntDs kBatch) (a.asList.take i) = S at hs ⊢
  generalize rowN a.asList i = r at hr hw hs hrow ⊢
  generalize sumR (cntDs kBatch) a.asList = T at hs hb
  obtain ⟨r0, r, rfl⟩ := List.exists_cons_of_length_pos (l := r) (by omega)
  simp only [List.length_cons] at hr
  obtain ⟨r1, r, rfl⟩ := List.exists_cons_of_length_pos (l := r) (by omega)
  simp only [List.length_cons] at hr
  obtain ⟨r2, r, rfl⟩ := List.exists_cons_of_length_pos (l := r) (by omega)
  simp only [List.length_cons] at hr
  obtain ⟨r3, r, rfl⟩ := List.exists_cons_of_length_pos (l := r) (by omega)
  simp only [List.length_cons] at hr
  obtain rfl : r = [] := List.eq_nil_of_length_eq_zero (by simpa using hr)
  simp only [cntDs_cons, cntDs_nil, cntD_int, cntD_bool, cntD_str, cntD_sl, cell_zero, cell_succ, List.tail_cons, lenDs_cons, lenDs_nil] at hs hw
  simp (disch := omega) [w64, show Φ 23 = mMrkL kAlarm from rfl, show Φ 24 = mMrkL kLabel from rfl, mText, mMrkL, mrkPre, rowAt_nat, hrow, hdl, mrkDs_cons, mrkDs_nil, mrkD_int, mrkD_bool, mrkD_str, mrkD_sl, cntDs_cons, cntDs_nil, cntD_int, cntD_bool, cntD_str, cntD_sl, and_assoc]
  repeat' (first | omega | exact hi | rfl | exact hw.1 | exact hw.2.1 | exact hw.2.2.1 | exact hw.2.2.2.1 | apply And.intro))
theorem ok31 : Good1 Try.prog Φ g31 := good1 tok mixed (l := [g76]) (by simpa using ok76) Try.func31 (by decide) (by decide) v31_eq (args2 fun a b hw hp => by
  simp [g31, show Φ 31 = mSzL kBatch' from rfl, mSzL, szPre] at hw hp
  exact szV_wp (c := 76) (ks := kBatch') rfl hw.1.1 hp _)
theorem ok33 : Good1 Try.prog Φ g33 := good1 tok mixed (l := [g77]) (by simpa using ok77) Try.func33 (by decide) (by decide) v33_eq (args1 fun a hw hp => by
  simp [g33, show Φ 33 = mToL kBatch' from rfl, mToL, toPreL] at hw hp
  exact toV_wp (Φ := Φ) (a := a) (c := 77) (bytes := (TT 95).bytes) (tid := 95) (ks := kBatch') (ks' := kBatch) (by decide) rfl (fun _ => rfl) rfl hp _)
theorem ok75 : Good1 Try.prog Φ g75 := good1 tok mixed (l := [g17, g22, g39]) (by simp [ok17, ok22, ok39]) Try.func75 (by decide) (by decide) v75_eq (args2 fun a b hw hp => by
  simp [v75, show Φ 75 = mEqA kDeed from rfl, show Φ 17 = mEqL kAlarm from rfl, show Φ 22 = mEqL kLabel from rfl, show Φ 39 = mEqA kAlarm from rfl, mEqA, mEqL, g75, eqDs_cons, eqDs_nil, eqD_str, eqD_int, eqD_bool, eqD_sl]
  simp +contextual <;> (intros; simp_all))
theorem ok71 : Good1 Try.prog Φ g71 := good1 tok mixed (l := [g13, g18, g59]) (by simp [ok13, ok18, ok59]) Try.func71 (by decide) (by decide) v71_eq (args2 fun a b hw hp => by
  simp [g71, show Φ 71 = mSzA kDeed' from rfl, mSzA, szPre] at hw hp
  have := szSV_wp (Φ := Φ) (env := [a, b]) (B := fun _ _ => False) [.c 59 (.op .mk [.op (.fld 2) [.var 0], .op (.fld 3) [.var 0], .op (.fld 4) [.var 0], .op (.fld 5) [.var 0]]), .c 18 (.op (.fld 6) [.var 0]), .c 13 (.op (.fld 10) [.var 0])] [szDs kAlarm' [cell a.row 2, cell a.row 3, cell a.row 4, cell a.row 5], szD (.sl 78 kLabel') (cell a.row 6), szD (.sl 74 kAlarm') (cell a.row 10)] (.var 1) b.asInt (by simp +contextual [stOk, hw, show Φ 13 = mSzL kAlarm' from rfl, show Φ 18 = mSzL kLabel' from rfl, show Φ 59 = mSzA kAlarm' from rfl, mSzL, mSzA, szPre, szD]) rfl (by simp) hp.1 hp.2
  have e : szDs kDeed' a.row = sumN [szDs kAlarm' [cell a.row 2, cell a.row 3, cell a.row 4, cell a.row 5], szD (.sl 78 kLabel') (cell a.row 6), szD (.sl 74 kAlarm') (cell a.row 10)] := by simp [szDs_cons, szDs_nil, szD, sumN] <;> omega
  show v71.wp Φ (fun l => l = [.int (szM (szDs kDeed' a.row) b.asInt)]) [a, b] _
  rw [e]
  exact this)
theorem ok73 : Good1 Try.prog Φ g73 := good1 tok mixed (l := [g15, g20, g61]) (by simp [ok15, ok20, ok61]) Try.func73 (by decide) (by decide) v73_eq (args1 fun a hw hp => by
  simp [g73, show Φ 73 = mToA kDeed' from rfl, mToA, toPre, szDs_cons, szDs_nil, szD] at hp
  simp [v73, show Φ 73 = mToA kDeed' from rfl, show Φ 15 = mToL kAlarm' from rfl, show Φ 20 = mToL kLabel' from rfl, show Φ 61 = mToA kAlarm' from rfl, mToA, mToL, toPre, toPreL, szDs_cons, szDs_nil, szD, g73, cnDs_cons, cnDs_nil, cnD] <;> omega)
theorem ok30 : Good1 Try.prog Φ g30 := good1 tok mixed (l := [g75]) (by simpa using ok75) Try.func30 (by decide) (by decide) v30_eq (args2 fun a b hw hp => by
  simp [g30] at hw
  exact eqV_wp (Φ := Φ) (a := a) (b := b) (p := eqDs kDeed) (tests := [.op (.fn 75 1000) [mkE (.var 0) (.var 2), mkE (.var 1) (.var 2)]]) (t := .op (.fn 75 0) [mkE (.var 0) (.var 2), mkE (.var 1) (.var 2)]) hw.1.1
    (fun i h1 h2 => by simp only [conj_cons, conj_nil, den_op, dens_cons, dens_nil, op_fn, mkE_den, den_var, show Φ 75 = mEqA kDeed from rfl, mEqA, con_ok, con_zero, cell_zero, cell_succ, D.asInt_int, D.asBool_bool, rowAt_nat, cell_zero, cell_succ, D.row_sl]; exact ⟨⟨trivial, trivial⟩, trivial⟩) _)
theorem ok26 : Good1 Try.prog Φ g26 := good1 tok mixed (l := [g71]) (by simpa using ok71) Try.func26 (by decide) (by decide) v26_eq (args2 fun a b hw hp => by
  simp [g26, show Φ 26 = mSzL kDeed' from rfl, mSzL, szPre] at hw hp
  exact szV_wp (c := 71) (ks := kDeed') rfl hw.1.1 hp _)
theorem ok28 : Good1 Try.prog Φ g28 := good1 tok mixed (l := [g73]) (by simpa using ok73) Try.func28 (by decide) (by decide) v28_eq (args1 fun a hw hp => by
  simp [g28, show Φ 28 = mToL kDeed' from rfl, mToL, toPreL] at hw hp
  exact toV_wp (Φ := Φ) (a := a) (c := 73) (bytes := (TT 89).bytes) (tid := 89) (ks := kDeed') (ks' := kDeed) (by decide) rfl (fun _ => rfl) rfl hp _)

end Go.Proofs.Ytpgpkomolheinaa

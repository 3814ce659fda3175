/-
  The helpers of the laws: measure, copy, compare.
-/
import Derived.Test.YtmfbmdipchnmaaaDoorSM
set_option linter.unusedVariables false
set_option linter.unusedSimpArgs false
namespace Go.Proofs.YtmfbmdipchnmaaaDoor
open Go.Vx

theorem ok75 : Good1 Tryd.prog Φ g75 := good1 tok mixed (l := []) (by simp) Tryd.func75 (by decide) (by decide) v75_eq (args1 fun a hw hp => by
  simp [g75, show Φ 75 = mText from rfl, mText] at hp
  exact text_wp hp _)
theorem ok44 : Good1 Tryd.prog Φ g44 := good1 tok mixed (l := []) (by simp) Tryd.func44 (by decide) (by decide) v44_eq (args2 fun a b hw hp => by
  simp [g44] at hw
  exact eqV'_wp (Φ := Φ) (a := a) (b := b) (p := eqDs [.int .i64]) (tests := []) (t := .op (.bin .neq .i64) [.op (.fld 0) [mkE (.var 0) (.var 2)], .op (.fld 0) [mkE (.var 1) (.var 2)]]) hw.1.1
    (fun i h1 h2 => ⟨trivial, by simp [rowAt_nat, eqDs_cons, eqDs_nil, eqD_str, eqD_int, eqD_bool]⟩) _)
theorem ok34 : Good1 Tryd.prog Φ g34 := good1 tok mixed (l := []) (by simp) Tryd.func34 (by decide) (by decide) v34_eq (args2 fun a b hw hp => by
  simp [g34, show Φ 34 = mSzL [.int .i64] from rfl, mSzL, szPre] at hw hp
  exact szC_wp (fun _ => rfl) hw.1.1 hp _)
theorem ok39 : Good1 Tryd.prog Φ g39 := good1 tok mixed (l := []) (by simp) Tryd.func39 (by decide) (by decide) v39_eq (args1 fun a hw hp => by
  simp [g39, show Φ 39 = mToL [.int .i64] from rfl, mToL, toPreL] at hw hp
  exact toV'_wp (Φ := Φ) (a := a) (tests := []) (src := mkE (.var 0) (.var 1)) (bytes := (TT 3).bytes) (tid := 3) (ks := [.int .i64]) (ks' := [.int .i64]) (by decide) rfl (fun _ => rfl) (fun i x hi => ⟨trivial, fun j hj => by
    have hj0 : j = 0 := by simp at hj; omega
    subst hj0
    simp only [mkE_den, den_var, cell_zero, cell_succ, D.asInt_int, rowAt_nat, D.row_sl, cnDs_cons, cnD]⟩) hp _)
theorem ok67 : Good1 Tryd.prog Φ g67 := good1 tok mixed (l := []) (by simp []) Tryd.func67 (by decide) (by decide) v67_eq (args2 fun a b hw hp => by
  simp [v67, show Φ 67 = mEqA kLabel from rfl, mEqA, mEqL, g67, eqDs_cons, eqDs_nil, eqD_str, eqD_int, eqD_bool, eqD_sl]
  simp +contextual <;> (intros; simp_all))
theorem ok43 : Good1 Tryd.prog Φ g43 := good1 tok mixed (l := [g67]) (by simpa using ok67) Tryd.func43 (by decide) (by decide) v43_eq (args2 fun a b hw hp => by
  simp [g43] at hw
  exact eqV_wp (Φ := Φ) (a := a) (b := b) (p := eqDs kLabel) (tests := [.op (.fn 67 1000) [mkE (.var 0) (.var 2), mkE (.var 1) (.var 2)]]) (t := .op (.fn 67 0) [mkE (.var 0) (.var 2), mkE (.var 1) (.var 2)]) hw.1.1
    (fun i h1 h2 => by simp only [conj_cons, conj_nil, den_op, dens_cons, dens_nil, op_fn, mkE_den, den_var, show Φ 67 = mEqA kLabel from rfl, mEqA, con_ok, con_zero, cell_zero, cell_succ, D.asInt_int, D.asBool_bool, rowAt_nat, cell_zero, cell_succ, D.row_sl]; exact ⟨⟨trivial, trivial⟩, trivial⟩) _)
theorem ok19 : Good1 Tryd.prog Φ g19 := good1 tok mixed (l := [g43]) (by simp [ok43]) Tryd.func19 (by decide) (by decide) v19_eq (args2 fun a b hw hp => by
  simp [v19, show Φ 19 = mEqA kAlarm from rfl, show Φ 43 = mEqL kLabel from rfl, mEqA, mEqL, g19, eqDs_cons, eqDs_nil, eqD_str, eqD_int, eqD_bool, eqD_sl]
  simp +contextual <;> (intros; simp_all))
theorem ok31 : Good1 Tryd.prog Φ g31 := good1 tok mixed (l := [g19]) (by simpa using ok19) Tryd.func31 (by decide) (by decide) v31_eq (args2 fun a b hw hp => by
  simp [g31] at hw
  exact eqV_wp (Φ := Φ) (a := a) (b := b) (p := eqDs kAlarm) (tests := [.op (.fn 19 1000) [mkE (.var 0) (.var 2), mkE (.var 1) (.var 2)]]) (t := .op (.fn 19 0) [mkE (.var 0) (.var 2), mkE (.var 1) (.var 2)]) hw.1.1
    (fun i h1 h2 => by simp only [conj_cons, conj_nil, den_op, dens_cons, dens_nil, op_fn, mkE_den, den_var, show Φ 19 = mEqA kAlarm from rfl, mEqA, con_ok, con_zero, cell_zero, cell_succ, D.asInt_int, D.asBool_bool, rowAt_nat, cell_zero, cell_succ, D.row_sl]; exact ⟨⟨trivial, trivial⟩, trivial⟩) _)
theorem ok11 : Good1 Tryd.prog Φ g11 := good1 tok mixed (l := [g31]) (by simp [ok31]) Tryd.func11 (by decide) (by decide) v11_eq (args2 fun a b hw hp => by
  simp [v11, show Φ 11 = mEqA kSub from rfl, show Φ 31 = mEqL kAlarm from rfl, mEqA, mEqL, g11, eqDs_cons, eqDs_nil, eqD_str, eqD_int, eqD_bool, eqD_sl]
  simp +contextual <;> (intros; simp_all))
theorem ok63 : Good1 Tryd.prog Φ g63 := good1 tok mixed (l := []) (by simp []) Tryd.func63 (by decide) (by decide) v63_eq (args2 fun a b hw hp => by
  simp [g63, show Φ 63 = mSzA kLabel' from rfl, mSzA, szPre] at hw hp
  have := szSV_wp (Φ := Φ) (env := [a, b]) (B := fun _ _ => False) [.s (.op (.fld 0) [.var 0]), .s (.op (.fld 1) [.var 0])] [(cell a.row 0).asStr.size, (cell a.row 1).asStr.size] (.var 1) b.asInt (by simp +contextual [stOk, hw, mSzL, mSzA, szPre, szD]) rfl (by simp) hp.1 hp.2
  have e : szDs kLabel' a.row = sumN [(cell a.row 0).asStr.size, (cell a.row 1).asStr.size] := by simp [szDs_cons, szDs_nil, szD, sumN] <;> omega
  show v63.wp Φ (fun l => l = [.int (szM (szDs kLabel' a.row) b.asInt)]) [a, b] _
  rw [e]
  exact this)
theorem ok33 : Good1 Tryd.prog Φ g33 := good1 tok mixed (l := [g63]) (by simpa using ok63) Tryd.func33 (by decide) (by decide) v33_eq (args2 fun a b hw hp => by
  simp [g33, show Φ 33 = mSzL kLabel' from rfl, mSzL, szPre] at hw hp
  exact szV_wp (c := 63) (ks := kLabel') rfl hw.1.1 hp _)
theorem ok32 : Good1 Tryd.prog Φ g32 := good1 tok mixed (l := [g33]) (by simp [ok33]) Tryd.func32 (by decide) (by decide) v32_eq (args2 fun a b hw hp => by
  simp [g32, show Φ 32 = mSzA kAlarm' from rfl, mSzA, szPre] at hw hp
  have := szSV_wp (Φ := Φ) (env := [a, b]) (B := fun _ _ => False) [.c 33 (.op (.fld 0) [.var 0]), .s (.op (.fld 3) [.var 0])] [szD (.sl 97 kLabel') (cell a.row 0), (cell a.row 3).asStr.size] (.var 1) b.asInt (by simp +contextual [stOk, hw, show Φ 33 = mSzL kLabel' from rfl, mSzL, mSzA, szPre, szD]) rfl (by simp) hp.1 hp.2
  have e : szDs kAlarm' a.row = sumN [szD (.sl 97 kLabel') (cell a.row 0), (cell a.row 3).asStr.size] := by simp [szDs_cons, szDs_nil, szD, sumN] <;> omega
  show v32.wp Φ (fun l => l = [.int (szM (szDs kAlarm' a.row) b.asInt)]) [a, b] _
  rw [e]
  exact this)
theorem ok27 : Good1 Tryd.prog Φ g27 := good1 tok mixed (l := [g32]) (by simpa using ok32) Tryd.func27 (by decide) (by decide) v27_eq (args2 fun a b hw hp => by
  simp [g27, show Φ 27 = mSzL kAlarm' from rfl, mSzL, szPre] at hw hp
  exact szV_wp (c := 32) (ks := kAlarm') rfl hw.1.1 hp _)
theorem ok7 : Good1 Tryd.prog Φ g7 := good1 tok mixed (l := [g27]) (by simp [ok27]) Tryd.func7 (by decide) (by decide) v7_eq (args2 fun a b hw hp => by
  simp [g7, show Φ 7 = mSzA kSub' from rfl, mSzA, szPre] at hw hp
  have := szSV_wp (Φ := Φ) (env := [a, b]) (B := fun _ _ => False) [.c 27 (.op (.fld 0) [.var 0])] [szD (.sl 35 kAlarm') (cell a.row 0)] (.var 1) b.asInt (by simp +contextual [stOk, hw, show Φ 27 = mSzL kAlarm' from rfl, mSzL, mSzA, szPre, szD]) rfl (by simp) hp.1 hp.2
  have e : szDs kSub' a.row = sumN [szD (.sl 35 kAlarm') (cell a.row 0)] := by simp [szDs_cons, szDs_nil, szD, sumN] <;> omega
  show v7.wp Φ (fun l => l = [.int (szM (szDs kSub' a.row) b.asInt)]) [a, b] _
  rw [e]
  exact this)
theorem ok64 : Good1 Tryd.prog Φ g64 := good1 tok mixed (l := []) (by simp []) Tryd.func64 (by decide) (by decide) v64_eq (args1 fun a hw hp => by
  simp [g64, show Φ 64 = mToA kLabel' from rfl, mToA, toPre, szDs_cons, szDs_nil, szD] at hp
  simp [v64, show Φ 64 = mToA kLabel' from rfl, mToA, mToL, toPre, toPreL, szDs_cons, szDs_nil, szD, g64, cnDs_cons, cnDs_nil, cnD] <;> omega)
theorem ok38 : Good1 Tryd.prog Φ g38 := good1 tok mixed (l := [g64]) (by simpa using ok64) Tryd.func38 (by decide) (by decide) v38_eq (args1 fun a hw hp => by
  simp [g38, show Φ 38 = mToL kLabel' from rfl, mToL, toPreL] at hw hp
  exact toV_wp (Φ := Φ) (a := a) (c := 64) (bytes := (TT 99).bytes) (tid := 99) (ks := kLabel') (ks' := kLabel) (by decide) rfl (fun _ => rfl) rfl hp _)
theorem ok37 : Good1 Tryd.prog Φ g37 := good1 tok mixed (l := [g38]) (by simp [ok38]) Tryd.func37 (by decide) (by decide) v37_eq (args1 fun a hw hp => by
  simp [g37, show Φ 37 = mToA kAlarm' from rfl, mToA, toPre, szDs_cons, szDs_nil, szD] at hp
  simp [v37, show Φ 37 = mToA kAlarm' from rfl, show Φ 38 = mToL kLabel' from rfl, mToA, mToL, toPre, toPreL, szDs_cons, szDs_nil, szD, g37, cnDs_cons, cnDs_nil, cnD] <;> omega)
theorem ok29 : Good1 Tryd.prog Φ g29 := good1 tok mixed (l := [g37]) (by simpa using ok37) Tryd.func29 (by decide) (by decide) v29_eq (args1 fun a hw hp => by
  simp [g29, show Φ 29 = mToL kAlarm' from rfl, mToL, toPreL] at hw hp
  exact toV_wp (Φ := Φ) (a := a) (c := 37) (bytes := (TT 43).bytes) (tid := 43) (ks := kAlarm') (ks' := kAlarm) (by decide) rfl (fun _ => rfl) rfl hp _)
theorem ok9 : Good1 Tryd.prog Φ g9 := good1 tok mixed (l := [g29]) (by simp [ok29]) Tryd.func9 (by decide) (by decide) v9_eq (args1 fun a hw hp => by
  simp [g9, show Φ 9 = mToA kSub' from rfl, mToA, toPre, szDs_cons, szDs_nil, szD] at hp
  simp [v9, show Φ 9 = mToA kSub' from rfl, show Φ 29 = mToL kAlarm' from rfl, mToA, mToL, toPre, toPreL, szDs_cons, szDs_nil, szD, g9, cnDs_cons, cnDs_nil, cnD] <;> omega)
theorem ok57 : Good1 Tryd.prog Φ g57 := good1e tok mixed (l := [g75]) (by simp [ok75]) Tryd.func57 (by decide) (by decide) v57_eq (args2 fun a b hw hp => by
  simp only [g57, told, show Φ 57 = mHldL kLabel from rfl, mHldL, con_ok, hldPre, cell_zero, cell_succ] at hp
  obtain ⟨hm, h0, hb⟩ := hp
  have hl : a.asList.length ≤ 140737488355328 := by
    simp only [g57, told, WFAs_cons, WFA_one, WFa_sl, lenMax] at hw
    exact hw.1.1
  refine held_wp (Φ := Φ) (c := cntDs kLabel) hl (fun i x hi hx => ?_) fun x hx => by simp [g57, told, RSh.cells, show Φ 57 = mHldL kLabel from rfl, mHldL, hx]
  have hr := allR_get hm hi
  have hs := sumR_take_le (p := cntDs kLabel) (xs := a.asList) (i := i + 1)
  rw [sumR_take _ hi] at hs
  generalize sumR (cntDs kLabel) (a.asList.take i) = S at hs hx hr ⊢
  generalize hR : rowN a.asList i = r at hs hr ⊢
  generalize sumR (cntDs kLabel) a.asList = T at hs hb
  simp [mkdDs_cons, mkdDs_nil, mkdD_int, mkdD_bool, mkdD_str, mkdD_sl, cntDs_cons, cntDs_nil, cntD_int, cntD_bool, cntD_str, cntD_sl, ← Int.add_assoc] at hr hs
  simp (disch := omega) [w64, show Φ 75 = mText from rfl, mText, mHldL, hldPre, rowAt_nat, hR, hx, hr, cntDs_cons, cntDs_nil, cntD_int, cntD_bool, cntD_str, cntD_sl, and_assoc]
  repeat' (first | omega | exact hi | rfl | apply And.intro | intro _))
theorem ok56 : Good1 Tryd.prog Φ g56 := goodXi tok mixed (l := [g75]) (by simp [ok75]) Tryd.func56 (by decide) (by decide) (by decide) (by decide) v56_eq (fun _ _ _ => rfl) (fun a n hp => by
  simp only [g56, toldX, show Φ 56 = mMrkL kLabel from rfl, mMrkL, con_ok, mrkPre, cell_zero, cell_succ, lenD_sl, D.asInt_int] at hp
  obtain ⟨⟨hl, hrs⟩, h0, hb⟩ := hp
  refine mark_wp (Φ := Φ) (f := mrkDs kLabel) (c := cntDs kLabel) hl (fun i d hi hdl hrow => ?_) fun d hd => mrk_post hd
  have hs := sumR_take_le (p := cntDs kLabel) (xs := a.asList) (i := i + 1)
  rw [sumR_take _ hi] at hs
  obtain ⟨hr, hw⟩ := hrs _ (rowN_mem hi)
  simp only [List.length_cons, List.length_nil] at hr
  generalize hS : sumR (cntDs kLabel) (a.asList.take i) = S at hs ⊢
  generalize rowN a.asList i = r at hr hw hs hrow ⊢
  generalize sumR (cntDs kLabel) a.asList = T at hs hb
  obtain ⟨r0, r, rfl⟩ := List.exists_cons_of_length_pos (l := r) (by omega)
  simp only [List.length_cons] at hr
  obtain ⟨r1, r, rfl⟩ := List.exists_cons_of_length_pos (l := r) (by omega)
  simp only [List.length_cons] at hr
  obtain rfl : r = [] := List.eq_nil_of_length_eq_zero (by simpa using hr)
  simp only [cntDs_cons, cntDs_nil, cntD_int, cntD_bool, cntD_str, cntD_sl, cell_zero, cell_succ, List.tail_cons, lenDs_cons, lenDs_nil] at hs hw
  simp (disch := omega) [w64, show Φ 75 = mText from rfl, mText, mMrkL, mrkPre, rowAt_nat, hrow, hdl, mrkDs_cons, mrkDs_nil, mrkD_int, mrkD_bool, mrkD_str, mrkD_sl, cntDs_cons, cntDs_nil, cntD_int, cntD_bool, cntD_str, cntD_sl, and_assoc]
  repeat' (first | omega | exact hi | rfl | exact hw.1 | exact hw.2.1 | apply And.intro))
theorem ok21 : Good1 Tryd.prog Φ g21 := good1e tok mixed (l := [g57]) (by simp [ok57]) Tryd.func21 (by decide) (by decide) v21_eq (args2 fun a b hw hp => by
  simp only [g21, told, show Φ 21 = mHldA kAlarm from rfl, mHldA, con_ok, hldPreA, cell_zero, cell_succ] at hp
  obtain ⟨hm, h0, hb⟩ := hp
  simp [mkdSl, cntSl, ← Int.add_assoc] at hm hb
  simp (disch := omega) [v21, g21, told, RSh.cells, show Φ 21 = mHldA kAlarm from rfl, show Φ 57 = mHldL kLabel from rfl, mHldL, hldPre, mHldA, hldPreA, mkdSl, cntSl, hm, and_assoc]
  repeat' (first | omega | rfl | apply And.intro | intro _))
theorem ok20 : Good1 Tryd.prog Φ g20 := goodXi tok mixed (l := [g56]) (by simp [ok56]) Tryd.func20 (by decide) (by decide) (by decide) (by decide) v20_eq (fun _ _ _ => rfl) (fun a n hp => by
  simp only [g20, toldX, show Φ 20 = mMrkA kAlarm from rfl, mMrkA, con_ok, mrkPreA, cell_zero, cell_succ, D.asInt_int] at hp
  obtain ⟨hw, h0, hb⟩ := hp
  simp only [lenDs_cons, lenDs_nil, cell_tail, cntSl, Nat.zero_add, Nat.reduceAdd] at hw hb
  simp only [v20, wp_req', wp_ret', conj_cons, conj_nil, den_op, dens_cons, dens_nil, den_var, op_fn, op_asl, op_fld, op_mk, cell_zero, cell_succ, List.map_cons, List.map_nil, show Φ 56 = mMrkL kLabel from rfl, mMrkL, mMrkA, mrkPre, mrkPreA, con_ok, con_zero, con_2000, D.asInt_int, D.asList_sl, D.row_sl, cntSl, mrkSl, lenDs_cons, lenDs_nil, cell_tail, List.tail_cons, Nat.zero_add, Nat.reduceAdd, Nat.sub_self, and_true, if_true, show (2000 : Nat) ≠ 0 by decide, if_false]
  repeat' (first | omega | exact hw.1 | exact hw.2.1 | exact hw.2.2.1 | exact hw.2.2.2.1 | exact hw.2.2.2.2.1 | exact hw.2.2.2.2.2.1 | exact hw.2.2.2.2.2.2.1 | exact hw.2.2.2.2.2.2.2.1 | exact hw.2.2.2.2.2.2.2.2.1 | exact hw.2.2.2.2.2.2.2.2.2.1 | exact hw.2.2.2.2.2.2.2.2.2.2.1 | exact hw.2.2.2.2.2.2.2.2.2.2.2.1 | exact hw.2.2.2.2.2.2.2.2.2.2.2.2.1 | exact hw.2.2.2.2.2.2.2.2.2.2.2.2.2.1 | exact hw.2.2.2.2.2.2.2.2.2.2.2.2.2.2.1 | exact hw.2.2.2.2.2.2.2.2.2.2.2.2.2.2.2.1 | exact hw.2.2.2.2.2.2.2.2.2.2.2.2.2.2.2.2.1 | exact hw.2.2.2.2.2.2.2.2.2.2.2.2.2.2.2.2.2.1 | exact hw.2.2.2.2.2.2.2.2.2.2.2.2.2.2.2.2.2.2.1 | refine mrkA_post ?_ ?_ rfl | (simp [cntSl, mrkSl, ← Int.add_assoc]; done) | apply And.intro))
theorem ok16 : Good1 Tryd.prog Φ g16 := good1 tok mixed (l := [g19, g31, g43, g44]) (by simp [ok19, ok31, ok43, ok44]) Tryd.func16 (by decide) (by decide) v16_eq (args2 fun a b hw hp => by
  simp [v16, show Φ 16 = mEqA kTask from rfl, show Φ 19 = mEqA kAlarm from rfl, show Φ 31 = mEqL kAlarm from rfl, show Φ 43 = mEqL kLabel from rfl, show Φ 44 = mEqL [.int .i64] from rfl, mEqA, mEqL, g16, eqDs_cons, eqDs_nil, eqD_str, eqD_int, eqD_bool, eqD_sl]
  simp +contextual <;> (intros; simp_all))
theorem ok12 : Good1 Tryd.prog Φ g12 := good1 tok mixed (l := [g27, g32, g33, g34]) (by simp [ok27, ok32, ok33, ok34]) Tryd.func12 (by decide) (by decide) v12_eq (args2 fun a b hw hp => by
  simp [g12, show Φ 12 = mSzA kTask' from rfl, mSzA, szPre] at hw hp
  have := szSV_wp (Φ := Φ) (env := [a, b]) (B := fun _ _ => False) [.c 32 (.op .mk [.op (.fld 2) [.var 0], .op (.fld 3) [.var 0], .op (.fld 4) [.var 0], .op (.fld 5) [.var 0]]), .c 33 (.op (.fld 6) [.var 0]), .c 34 (.op (.fld 8) [.var 0]), .c 27 (.op (.fld 9) [.var 0])] [szDs kAlarm' [cell a.row 2, cell a.row 3, cell a.row 4, cell a.row 5], szD (.sl 97 kLabel') (cell a.row 6), szD (.sl 3 [.int .i64]) (cell a.row 8), szD (.sl 35 kAlarm') (cell a.row 9)] (.var 1) b.asInt (by simp +contextual [stOk, hw, show Φ 27 = mSzL kAlarm' from rfl, show Φ 32 = mSzA kAlarm' from rfl, show Φ 33 = mSzL kLabel' from rfl, show Φ 34 = mSzL [.int .i64] from rfl, mSzL, mSzA, szPre, szD]) rfl (by simp) hp.1 hp.2
  have e : szDs kTask' a.row = sumN [szDs kAlarm' [cell a.row 2, cell a.row 3, cell a.row 4, cell a.row 5], szD (.sl 97 kLabel') (cell a.row 6), szD (.sl 3 [.int .i64]) (cell a.row 8), szD (.sl 35 kAlarm') (cell a.row 9)] := by simp [szDs_cons, szDs_nil, szD, sumN] <;> omega
  show v12.wp Φ (fun l => l = [.int (szM (szDs kTask' a.row) b.asInt)]) [a, b] _
  rw [e]
  exact this)
theorem ok14 : Good1 Tryd.prog Φ g14 := good1 tok mixed (l := [g29, g37, g38, g39]) (by simp [ok29, ok37, ok38, ok39]) Tryd.func14 (by decide) (by decide) v14_eq (args1 fun a hw hp => by
  simp [g14, show Φ 14 = mToA kTask' from rfl, mToA, toPre, szDs_cons, szDs_nil, szD] at hp
  simp [v14, show Φ 14 = mToA kTask' from rfl, show Φ 29 = mToL kAlarm' from rfl, show Φ 37 = mToA kAlarm' from rfl, show Φ 38 = mToL kLabel' from rfl, show Φ 39 = mToL [.int .i64] from rfl, mToA, mToL, toPre, toPreL, szDs_cons, szDs_nil, szD, g14, cnDs_cons, cnDs_nil, cnD] <;> omega)
theorem ok26 : Good1 Tryd.prog Φ g26 := good1 tok mixed (l := [g19, g31, g43]) (by simp [ok19, ok31, ok43]) Tryd.func26 (by decide) (by decide) v26_eq (args2 fun a b hw hp => by
  simp [v26, show Φ 26 = mEqA kDeed from rfl, show Φ 19 = mEqA kAlarm from rfl, show Φ 31 = mEqL kAlarm from rfl, show Φ 43 = mEqL kLabel from rfl, mEqA, mEqL, g26, eqDs_cons, eqDs_nil, eqD_str, eqD_int, eqD_bool, eqD_sl]
  simp +contextual <;> (intros; simp_all))
theorem ok22 : Good1 Tryd.prog Φ g22 := good1 tok mixed (l := [g27, g32, g33]) (by simp [ok27, ok32, ok33]) Tryd.func22 (by decide) (by decide) v22_eq (args2 fun a b hw hp => by
  simp [g22, show Φ 22 = mSzA kDeed' from rfl, mSzA, szPre] at hw hp
  have := szSV_wp (Φ := Φ) (env := [a, b]) (B := fun _ _ => False) [.c 32 (.op .mk [.op (.fld 2) [.var 0], .op (.fld 3) [.var 0], .op (.fld 4) [.var 0], .op (.fld 5) [.var 0]]), .c 33 (.op (.fld 6) [.var 0]), .c 27 (.op (.fld 10) [.var 0])] [szDs kAlarm' [cell a.row 2, cell a.row 3, cell a.row 4, cell a.row 5], szD (.sl 97 kLabel') (cell a.row 6), szD (.sl 35 kAlarm') (cell a.row 10)] (.var 1) b.asInt (by simp +contextual [stOk, hw, show Φ 27 = mSzL kAlarm' from rfl, show Φ 32 = mSzA kAlarm' from rfl, show Φ 33 = mSzL kLabel' from rfl, mSzL, mSzA, szPre, szD]) rfl (by simp) hp.1 hp.2
  have e : szDs kDeed' a.row = sumN [szDs kAlarm' [cell a.row 2, cell a.row 3, cell a.row 4, cell a.row 5], szD (.sl 97 kLabel') (cell a.row 6), szD (.sl 35 kAlarm') (cell a.row 10)] := by simp [szDs_cons, szDs_nil, szD, sumN] <;> omega
  show v22.wp Φ (fun l => l = [.int (szM (szDs kDeed' a.row) b.asInt)]) [a, b] _
  rw [e]
  exact this)
theorem ok24 : Good1 Tryd.prog Φ g24 := good1 tok mixed (l := [g29, g37, g38]) (by simp [ok29, ok37, ok38]) Tryd.func24 (by decide) (by decide) v24_eq (args1 fun a hw hp => by
  simp [g24, show Φ 24 = mToA kDeed' from rfl, mToA, toPre, szDs_cons, szDs_nil, szD] at hp
  simp [v24, show Φ 24 = mToA kDeed' from rfl, show Φ 29 = mToL kAlarm' from rfl, show Φ 37 = mToA kAlarm' from rfl, show Φ 38 = mToL kLabel' from rfl, mToA, mToL, toPre, toPreL, szDs_cons, szDs_nil, szD, g24, cnDs_cons, cnDs_nil, cnD] <;> omega)

end Go.Proofs.YtmfbmdipchnmaaaDoor

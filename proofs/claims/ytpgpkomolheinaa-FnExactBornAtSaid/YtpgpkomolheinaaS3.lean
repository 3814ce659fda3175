/-
  The laws of Of, SentOf and BatchesOf.
-/
import Derived.Test.YtpgpkomolheinaaS2
set_option linter.unusedVariables false
set_option linter.unusedSimpArgs false
namespace Go.Proofs.Ytpgpkomolheinaa
open Go.Vx

theorem szM_ok {n : Nat} {l : Int} (h : 0 ≤ szM n l) : (n : Int) ≤ l ∧ szM n l = l - n := by
  rcases Int.lt_or_le l n with h' | h'
  · rw [szM_neg h'] at h; omega
  · exact ⟨h', szM_pos h'⟩

theorem lenAl {xs : List (List D)} (h : xs.length + sumR (szDs kAlarm') xs ≤ 1048576) : lenD (.sl 0 kAlarm) (.sl (xs.map (cnDs kAlarm'))) := lenD_cn (.sl 0 kAlarm') (.sl xs) (by simp only [szD, D.asList_sl]; omega)
theorem lenLb {xs : List (List D)} (h : xs.length + sumR (szDs kLabel') xs ≤ 1048576) : lenD (.sl 0 kLabel) (.sl (xs.map (cnDs kLabel'))) := lenD_cn (.sl 0 kLabel') (.sl xs) (by simp only [szD, D.asList_sl]; omega)
theorem szAl' (xs : List (List D)) : sumR (szDs kAlarm) (xs.map (cnDs kAlarm')) = sumR (szDs kAlarm') xs := sumR_map (p := szDs kAlarm) (szDs_cnDs kAlarm') xs
theorem szLb' (xs : List (List D)) : sumR (szDs kLabel) (xs.map (cnDs kLabel')) = sumR (szDs kLabel') xs := sumR_map (p := szDs kLabel) (szDs_cnDs kLabel') xs
theorem szBt' (xs : List (List D)) : sumR (szDs kBatch) (xs.map (cnDs kBatch')) = sumR (szDs kBatch') xs := sumR_map (p := szDs kBatch) (szDs_cnDs kBatch') xs
theorem cntAl (xs : List (List D)) : sumR (cntDs kAlarm) xs ≤ 20 * (xs.length + sumR (szDs kAlarm) xs) := cntR_le (by decide) xs
theorem cntLb (xs : List (List D)) : sumR (cntDs kLabel) xs ≤ 20 * (xs.length + sumR (szDs kLabel) xs) := cntR_le (by decide) xs
theorem cntBt (xs : List (List D)) : sumR (cntDs kBatch) xs ≤ 20 * (xs.length + sumR (szDs kBatch) xs) := cntR_le (by decide) xs
theorem cnt_cpAl (r : List D) : cntDs kAlarm (cpAl r) = cntDs kAlarm r := by simp [cpAl, cntDs_cons, cntDs_nil, cntD_int, cntD_str, cntD_sl]
theorem len_cpAl {r : List D} (h : lenDs kAlarm r) : (cpAl r).length = kAlarm.length ∧ lenDs kAlarm (cpAl r) := by
  refine ⟨rfl, ?_⟩
  simp only [cpAl, lenDs_cons, lenDs_nil, lenD_int, lenD_str, cell_zero, List.tail_cons, and_true]
  simp only [lenDs_cons] at h
  exact h.1
theorem cnt_ofG (s : List (List D)) (r : List D) : sumR (cntDs kAlarm) (ofG s r) ≤ cntDs kAlarm r := by
  unfold ofG
  cases eqR (eqDs kLabel) (cell r 0).asList s <;> simp [sumR, cnt_cpAl]
/-- What is of some labels has rows that are long enough. -/
theorem lenOf {s xs : List (List D)} (h : lenD (.sl 0 kAlarm) (.sl xs)) : lenD (.sl 0 kAlarm) (.sl (xs.flatMap (ofG s))) := by
  simp only [lenD_sl, D.asList_sl] at h ⊢
  refine ⟨Nat.le_trans (of_len s xs) h.1, fun r hr => ?_⟩
  obtain ⟨x, hx, hr⟩ := List.mem_flatMap.1 hr
  unfold ofG at hr
  cases hc : eqR (eqDs kLabel) (cell x 0).asList s with
  | true =>
    rw [hc] at hr
    simp only [cond_true, List.mem_singleton] at hr
    subst hr
    exact len_cpAl (h.2 x hx).2
  | false => rw [hc] at hr; simp at hr

theorem ok4 : Good1 Try.prog Φ g4 := good1 tok mixed (l := [g13, g15.x, g17, g18, g19.x, g20.x, g21.x, g22, g23, g24, g25])
    (by simp [ok13, Good1.x ok15, ok17, ok18, Good1.x ok19, Good1.x ok20, Good1.x ok21, ok22, ok23, ok24, ok25]) Try.func4 (by decide) (by decide) v4_eq (args2 fun a b hw hp => by
  simp [v4, g4, Φ, mLaw, mSzL, mToL, mEqL, mOf, mMrkL, mHldL, szPre, toPreL, mrkPre, hldPre, eqR_refl (eqDs_refl kAlarm), eqR_refl (eqDs_refl kLabel), scanR_sum (cntDs_mrk kAlarm), scanR_all (mkdDs_mrk kAlarm) (cntDs_mrk kAlarm)]
  intro h1
  obtain ⟨h2, h3⟩ := szM_ok h1
  rw [h3]
  refine ⟨by omega, fun h4 => ?_⟩
  obtain ⟨h5, h6⟩ := szM_ok h4
  have e1 := szAl' a.asList
  have e2 := szLb' b.asList
  have l1 := lenAl (xs := a.asList) (by omega)
  have l2 := lenLb (xs := b.asList) (by omega)
  have l3 := lenOf (s := b.asList.map (cnDs kLabel')) l1
  have c1 := cntAl (a.asList.map (cnDs kAlarm'))
  have c2 := cntLb (b.asList.map (cnDs kLabel'))
  have c3 := fm_sum (p := cntDs kAlarm) (q := cntDs kAlarm) (g := ofG (b.asList.map (cnDs kLabel'))) (cnt_ofG _) (a.asList.map (cnDs kAlarm'))
  rw [List.length_map] at c1 c2
  repeat' (first | omega | assumption | apply And.intro | intro _))

/-- What is of some labels in batches. -/
abbrev snt (s xs : List (List D)) : List (List D) := xs.flatMap fun b => (cell b 3).asList.flatMap (ofG s)
theorem lenBt {xs : List (List D)} (h : xs.length + sumR (szDs kBatch') xs ≤ 1048576) : lenD (.sl 0 kBatch) (.sl (xs.map (cnDs kBatch'))) := lenD_cn (.sl 0 kBatch') (.sl xs) (by simp only [szD, D.asList_sl]; omega)
theorem cnt_snt (s xs : List (List D)) : sumR (cntDs kAlarm) (snt s xs) ≤ sumR (cntDs kBatch) xs :=
  fm_sum (fun r => Nat.le_trans (fm_sum (cnt_ofG s) (cell r 3).asList) (by simp only [cntDs_cons, cntDs_nil, cntD_int, cntD_sl, cell_tail, cell_zero, Nat.zero_add, Nat.reduceAdd]; omega)) xs
theorem lenSnt {s xs : List (List D)} (h : lenD (.sl 0 kBatch) (.sl xs)) (hs : sumR (szDs kBatch) xs ≤ 1048576) : lenD (.sl 0 kAlarm) (.sl (snt s xs)) := by
  simp only [lenD_sl, D.asList_sl] at h
  refine ⟨Nat.le_trans (sent_len s xs) (by omega), fun r hr => ?_⟩
  obtain ⟨x, hx, hr⟩ := List.mem_flatMap.1 hr
  have h2 := (h.2 x hx).2
  simp only [lenDs_cons, cell_tail, Nat.zero_add, Nat.reduceAdd] at h2
  exact (lenOf (s := s) (xs := (cell x 3).asList) h2.2.2.2.1).2 r hr

theorem ok6 : Good1 Try.prog Φ g6 := good1 tok mixed (l := [g17, g18, g20.x, g22, g23, g24, g25, g31, g32.x, g33.x, g34.x, g35, g36])
    (by simp [ok31, Good1.x ok33, ok35, ok18, Good1.x ok32, Good1.x ok20, Good1.x ok34, ok22, ok17, ok23, ok36, ok24, ok25]) Try.func6 (by decide) (by decide) v6_eq (args2 fun a b hw hp => by
  simp [v6, g6, Φ, mLaw, mSzL, mToL, mEqL, mSentOf, mMrkL, mHldL, szPre, toPreL, mrkPre, hldPre, eqR_refl (eqDs_refl kAlarm), eqR_refl (eqDs_refl kBatch), eqR_refl (eqDs_refl kLabel), scanR_sum (cntDs_mrk kAlarm), scanR_all (mkdDs_mrk kAlarm) (cntDs_mrk kAlarm)]
  intro h1
  obtain ⟨h2, h3⟩ := szM_ok h1
  rw [h3]
  refine ⟨by omega, fun h4 => ?_⟩
  obtain ⟨h5, h6⟩ := szM_ok h4
  have e1 := szBt' a.asList
  have e2 := szLb' b.asList
  have l1 := lenBt (xs := a.asList) (by omega)
  have l2 := lenLb (xs := b.asList) (by omega)
  have l3 := lenSnt (s := b.asList.map (cnDs kLabel')) l1 (by omega)
  have c1 := cntBt (a.asList.map (cnDs kBatch'))
  have c2 := cntLb (b.asList.map (cnDs kLabel'))
  have c3 := cnt_snt (b.asList.map (cnDs kLabel')) (a.asList.map (cnDs kBatch'))
  unfold snt at l3 c3
  rw [List.length_map] at c1 c2
  repeat' (first | omega | assumption | apply And.intro | intro _))

theorem map_cpAl (xs : List (List D)) : sumR (cntDs kAlarm) (xs.flatMap fun r => [cpAl r]) = sumR (cntDs kAlarm) xs := by
  induction xs with
  | nil => rfl
  | cons x xs ih => simp only [List.flatMap_cons, sumR_append, sumR, ih, cnt_cpAl]; omega
theorem cnt_btG (n : Int) (r : List D) : sumR (cntDs kBatch) (btG n r) ≤ cntDs kBatch r := by
  unfold btG
  cases tt ((cell r 0).asInt = n) <;> simp [sumR, cpBt, cntDs_cons, cntDs_nil, cntD_int, cntD_sl, map_cpAl]
theorem lenBtG {n : Int} {xs : List (List D)} (h : lenD (.sl 0 kBatch) (.sl xs)) : lenD (.sl 0 kBatch) (.sl (xs.flatMap (btG n))) := by
  simp only [lenD_sl, D.asList_sl] at h
  refine ⟨Nat.le_trans (bt_len n xs) (by omega), fun r hr => ?_⟩
  obtain ⟨x, hx, hr⟩ := List.mem_flatMap.1 hr
  have h2 := (h.2 x hx).2
  simp only [lenDs_cons, cell_tail, Nat.zero_add, Nat.reduceAdd] at h2
  unfold btG at hr
  cases hc : tt ((cell x 0).asInt = n) with
  | false => rw [hc] at hr; simp at hr
  | true =>
    rw [hc] at hr
    simp only [cond_true, List.mem_singleton] at hr
    subst hr
    refine ⟨rfl, ?_⟩
    simp only [cpBt, lenDs_cons, lenDs_nil, lenD_int, cell_zero, List.tail_cons, and_true, true_and]
    refine ⟨h2.2.1, ?_⟩
    obtain ⟨q1, q2⟩ := h2.2.2.2.1
    refine ⟨by simp only [D.asList_sl, one_len]; exact q1, fun y hy => ?_⟩
    obtain ⟨z, hz, hy⟩ := List.mem_flatMap.1 hy
    simp only [List.mem_singleton] at hy
    subst hy
    exact len_cpAl (q2 z hz).2

theorem ok8 : Good1 Try.prog Φ g8 := good1 tok mixed (l := [g31, g33.x, g35, g36, g42.x, g43.x, g44])
    (by simp [ok31, Good1.x ok33, ok35, Good1.x ok42, Good1.x ok43, ok36, ok44]) Try.func8 (by decide) (by decide) v8_eq (args2 fun a b hw hp => by
  simp [v8, g8, Φ, mLaw, mSzL, mToL, mEqL, mBatchesOf, mMrkL, mHldL, szPre, toPreL, mrkPre, hldPre, eqR_refl (eqDs_refl kBatch), scanR_sum (cntDs_mrk kBatch), scanR_all (mkdDs_mrk kBatch) (cntDs_mrk kBatch)]
  intro h1
  obtain ⟨h2, h3⟩ := szM_ok h1
  have e1 := szBt' a.asList
  have l1 := lenBt (xs := a.asList) (by omega)
  have l3 := lenBtG (n := b.asInt) l1
  have c1 := cntBt (a.asList.map (cnDs kBatch'))
  have c3 := fm_sum (p := cntDs kBatch) (q := cntDs kBatch) (g := btG b.asInt) (cnt_btG _) (a.asList.map (cnDs kBatch'))
  rw [List.length_map] at c1
  repeat' (first | omega | assumption | apply And.intro | intro _))
end Go.Proofs.Ytpgpkomolheinaa

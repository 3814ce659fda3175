/-
  The laws of ToldOf and HeardOf.
-/
import Derived.Test.YtllhihloidkghaaS8
set_option linter.unusedVariables false
set_option linter.unusedSimpArgs false
namespace Go.Proofs.Ytllhihloidkghaa
open Go.Vx

theorem szM_ok {n : Nat} {l : Int} (h : 0 ≤ szM n l) : (n : Int) ≤ l ∧ szM n l = l - n := by
  rcases Int.lt_or_le l n with h' | h'
  · rw [szM_neg h'] at h; omega
  · exact ⟨h', szM_pos h'⟩
theorem lenDd {xs : List (List D)} (h : xs.length + sumR (szDs kDeed') xs ≤ 1048576) : lenD (.sl 0 kDeed) (.sl (xs.map (cnDs kDeed'))) := lenD_cn (.sl 0 kDeed') (.sl xs) (by simp only [szD, D.asList_sl]; omega)
theorem szDd' (xs : List (List D)) : sumR (szDs kDeed) (xs.map (cnDs kDeed')) = sumR (szDs kDeed') xs := sumR_map (p := szDs kDeed) (szDs_cnDs kDeed') xs
theorem cntDd (xs : List (List D)) : sumR (cntDs kDeed) xs ≤ 20 * (xs.length + sumR (szDs kDeed) xs) := cntR_le (by decide) xs
theorem cnt_cpAl (r : List D) : cntDs kAlarm (cpAl r) = cntDs kAlarm r := by simp [cpAl, cntDs_cons, cntDs_nil, cntD_int, cntD_str, cntD_sl]
theorem len_cpAl {r : List D} (h : lenDs kAlarm r) : (cpAl r).length = kAlarm.length ∧ lenDs kAlarm (cpAl r) := by
  refine ⟨rfl, ?_⟩
  simp only [cpAl, lenDs_cons, lenDs_nil, lenD_int, lenD_str, cell_zero, List.tail_cons, and_true]
  simp only [lenDs_cons] at h
  exact h.1
theorem cnt_cps (xs : List (List D)) : sumR (cntDs kAlarm) (xs.flatMap fun r => [cpAl r]) = sumR (cntDs kAlarm) xs := by
  induction xs with
  | nil => rfl
  | cons x xs ih => simp only [List.flatMap_cons, sumR_append, sumR, ih, cnt_cpAl]; omega
theorem cnt_deed (r : List D) : cntDs kAlarm [cell r 2, cell r 3, cell r 4, cell r 5] + sumR (cntDs kAlarm) (cell r 10).asList ≤ cntDs kDeed r := by
  simp only [cntDs_cons, cntDs_nil, cntD_int, cntD_str, cntD_sl, cell_tail, cell_zero, Nat.zero_add, Nat.reduceAdd]
  omega
theorem cnt_tell (r : List D) : sumR (cntDs kAlarm) (tellG r) ≤ cntDs kDeed r := by
  have := cnt_deed r
  unfold tellG
  cases decide ((cell r 0).asInt = 2)
  · simp [sumR]
  · simp only [cond_true, sumR, cnt_cpAl]; omega
theorem cnt_hear (i : Int) (r : List D) : sumR (cntDs kAlarm) (hearG i r) ≤ cntDs kDeed r := by
  have := cnt_deed r
  unfold hearG
  cases (decide ((cell r 0).asInt = 9) && decide ((cell r 7).asInt = i) && decide ((cell r 9).asInt = 5))
  · simp [sumR]
  · simp only [cond_true, cnt_cps]; omega
theorem cnt_told (l : List (List D)) : sumR (cntDs kAlarm) ((ordP l).flatMap fun r => tellG (atP l r)) ≤ sumR (cntDs kDeed) l :=
  Nat.le_trans (fm_sum (q := fun r => cntDs kDeed (atP l r)) (fun r => cnt_tell (atP l r)) (ordP l)) (ord_sum (cntDs kDeed) l)
theorem cnt_heard (i : Int) (l : List (List D)) : sumR (cntDs kAlarm) ((ordP l).flatMap fun r => hearG i (atP l r)) ≤ sumR (cntDs kDeed) l :=
  Nat.le_trans (fm_sum (q := fun r => cntDs kDeed (atP l r)) (fun r => cnt_hear i (atP l r)) (ordP l)) (ord_sum (cntDs kDeed) l)
theorem len_deed {r : List D} (h : lenDs kDeed r) : lenDs kAlarm [cell r 2, cell r 3, cell r 4, cell r 5] ∧ lenD (.sl 0 kAlarm) (.sl (cell r 10).asList) := by
  simp only [lenDs_cons, cell_tail, Nat.zero_add, Nat.reduceAdd] at h
  obtain ⟨_, _, h2, _, _, _, _, _, _, _, h10, _⟩ := h
  refine ⟨?_, h10⟩
  simp only [lenDs_cons, lenDs_nil, lenD_int, lenD_str, cell_zero, List.tail_cons, and_true]
  exact h2
theorem len_told {l : List (List D)} (h : lenD (.sl 0 kDeed) (.sl l)) : lenD (.sl 0 kAlarm) (.sl ((ordP l).flatMap fun r => tellG (atP l r))) := by
  simp only [lenD_sl, D.asList_sl] at h ⊢
  refine ⟨Nat.le_trans (told_len l _) (Nat.le_trans (ordP_len l) h.1), fun r hr => ?_⟩
  obtain ⟨x, hx, hr⟩ := List.mem_flatMap.1 hr
  obtain ⟨i, hi, rfl⟩ := List.getElem_of_mem hx
  rw [← rowN_lt hi] at hr
  obtain ⟨j, hj, _, ha⟩ := ord_at hi
  rw [ha] at hr
  unfold tellG at hr
  cases hc : decide ((cell (rowN l j) 0).asInt = 2) with
  | false => rw [hc] at hr; simp at hr
  | true =>
    rw [hc] at hr
    simp only [cond_true, List.mem_singleton] at hr
    subst hr
    exact len_cpAl (len_deed (h.2 _ (rowN_mem hj)).2).1
theorem len_heard {i : Int} {l : List (List D)} (h : lenD (.sl 0 kDeed) (.sl l)) (hs : sumR (szDs kDeed) l ≤ 1048576) : lenD (.sl 0 kAlarm) (.sl ((ordP l).flatMap fun r => hearG i (atP l r))) := by
  simp only [lenD_sl, D.asList_sl] at h ⊢
  refine ⟨?_, fun r hr => ?_⟩
  · have h1 := heard_len i l (ordP l).length
    rw [List.take_of_length_le (Nat.le_refl _)] at h1
    have h2 := ord_sum (szDs kDeed) l
    omega
  obtain ⟨x, hx, hr⟩ := List.mem_flatMap.1 hr
  obtain ⟨k, hk, rfl⟩ := List.getElem_of_mem hx
  rw [← rowN_lt hk] at hr
  obtain ⟨j, hj, _, ha⟩ := ord_at hk
  rw [ha] at hr
  have hl := (len_deed (h.2 _ (rowN_mem hj)).2).2
  simp only [lenD_sl, D.asList_sl] at hl
  unfold hearG at hr
  cases hc : (decide ((cell (rowN l j) 0).asInt = 9) && decide ((cell (rowN l j) 7).asInt = i) && decide ((cell (rowN l j) 9).asInt = 5)) with
  | false => rw [hc] at hr; simp at hr
  | true =>
    rw [hc] at hr
    simp only [cond_true, List.mem_flatMap, List.mem_singleton] at hr
    obtain ⟨y, hy, rfl⟩ := hr
    exact len_cpAl (hl.2 y hy).2

theorem ok3 : Good1 Try.prog Φ g3 := good1 tok mixed (l := [g8, g9.x, g10.x, g11.x, g12, g13, g14, g15, g16])
    (by simp [ok8, Good1.x ok9, Good1.x ok10, Good1.x ok11, ok12, ok13, ok14, ok15, ok16]) Try.func3 (by decide) (by decide) v3_eq (args1 fun a hw hp => by
  simp [v3, g3, Φ, mLaw, mSzL, mToL, mEqL, mTold, mMrkL, mHldL, szPre, toPreL, mrkPre, hldPre, eqR_refl (eqDs_refl kAlarm), eqR_refl (eqDs_refl kDeed), scanR_sum (cntDs_mrk kAlarm), scanR_all (mkdDs_mrk kAlarm) (cntDs_mrk kAlarm), -List.length_flatMap]
  intro h1
  obtain ⟨h2, h3⟩ := szM_ok h1
  have e1 := szDd' a.asList
  have l1 := lenDd (xs := a.asList) (by omega)
  have l3 := len_told l1
  have c1 := cntDd (a.asList.map (cnDs kDeed'))
  have c3 := cnt_told (a.asList.map (cnDs kDeed'))
  rw [List.length_map] at c1
  repeat' (first | omega | assumption | apply And.intro | intro _))
theorem ok4 : Good1 Try.prog Φ g4 := good1 tok mixed (l := [g8, g10.x, g12, g13, g14, g15, g16, g17.x, g18.x])
    (by simp [ok8, Good1.x ok17, Good1.x ok10, Good1.x ok18, ok12, ok13, ok14, ok15, ok16]) Try.func4 (by decide) (by decide) v4_eq (args2 fun a b hw hp => by
  simp [v4, g4, Φ, mLaw, mSzL, mToL, mEqL, mHeard, mMrkL, mHldL, szPre, toPreL, mrkPre, hldPre, eqR_refl (eqDs_refl kAlarm), eqR_refl (eqDs_refl kDeed), scanR_sum (cntDs_mrk kAlarm), scanR_all (mkdDs_mrk kAlarm) (cntDs_mrk kAlarm), -List.length_flatMap]
  intro h1
  obtain ⟨h2, h3⟩ := szM_ok h1
  have e1 := szDd' a.asList
  have l1 := lenDd (xs := a.asList) (by omega)
  have l3 := len_heard (i := b.asInt) l1 (by omega)
  have c1 := cntDd (a.asList.map (cnDs kDeed'))
  have c3 := cnt_heard b.asInt (a.asList.map (cnDs kDeed'))
  rw [List.length_map] at c1
  repeat' (first | omega | assumption | apply And.intro | intro _))
end Go.Proofs.Ytllhihloidkghaa

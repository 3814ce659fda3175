/-
  The law of LastSent.
-/
import Derived.Test.YtpgpkomolheinaaSL
namespace Go.Proofs.Ytpgpkomolheinaa
open Go.Vx

theorem last_facts {xs : List (List D)} (t : TypeId) (h : lenD (.sl 0 kAlarm) (.sl xs)) : lenD (.sl t kLabel) (.sl (cell (lastRow xs) 0).asList) ∧ sumR (cntDs kLabel) (cell (lastRow xs) 0).asList ≤ sumR (cntDs kAlarm) xs := by
  unfold lastRow
  by_cases e : xs = []
  · rw [if_pos e]
    simp [lenD_sl, sumR]
  · rw [if_neg e]
    have hl : 0 < xs.length := List.length_pos_iff.2 e
    have hi : xs.length - 1 < xs.length := by omega
    have h1 := sumR_rowN (p := cntDs kAlarm) hi
    simp only [lenD_sl, D.asList_sl] at h
    have h2 := (h.2 _ (rowN_mem hi)).2
    simp only [lenDs_cons] at h2
    have h3 : sumR (cntDs kLabel) (cell (rowN xs (xs.length - 1)) 0).asList ≤ cntDs kAlarm (rowN xs (xs.length - 1)) := by
      simp only [cntDs_cons, cntD_sl]
      omega
    exact ⟨h2.1, by omega⟩

theorem ok7 : Good1 Try.prog Φ g7 := good1 tok mixed (l := [g18, g20.x, g22, g24, g31, g33.x, g35, g36, g37.x, g38.x, g39, g40, g41])
    (by simp [ok18, Good1.x ok20, ok22, ok24, ok31, Good1.x ok33, ok35, ok36, Good1.x ok37, Good1.x ok38, ok39, ok40, ok41]) Try.func7 (by decide) (by decide) v7_eq (args2 fun a b hw hp => by
  simp [v7, g7, Φ, mLaw, mSzL, mToL, mEqL, mEqA, mSentOf, mLast, mMrkL, mMrkA, mHldA, szPre, toPreL, mrkPre, mrkPreA, hldPreA, eqDs_refl kAlarm, eqR_refl (eqDs_refl kBatch), eqR_refl (eqDs_refl kLabel), cntSl, mrkSl, mkdSl, scanR_sum (cntDs_mrk kLabel), scanR_all (mkdDs_mrk kLabel) (cntDs_mrk kLabel), lenDs_cons, lenDs_nil, lenD_int, lenD_str]
  intro h1
  obtain ⟨h2, h3⟩ := szM_ok h1
  rw [h3]
  refine ⟨by omega, fun h4 => ?_⟩
  obtain ⟨h5, h6⟩ := szM_ok h4
  have e1 := szBt' a.asList
  have e2 := szLb' b.asList
  have l1 := lenBt (xs := a.asList) (by omega)
  have l2 := lenLb (xs := b.asList) (by omega)
  have l3 := lenSnt (s := b.asList.map (cnDs kLabel')) l1 (by omega)
  have c1 := cntBt (a.asList.map (cnDs kBatch'))
  have c2 := cntLb (b.asList.map (cnDs kLabel'))
  have c3 := cnt_snt (b.asList.map (cnDs kLabel')) (a.asList.map (cnDs kBatch'))
  obtain ⟨l4, c4⟩ := last_facts 80 l3
  unfold snt at l4 c3 c4
  rw [List.length_map] at c1 c2
  generalize (lastRow _) = Y at l4 c4 ⊢
  generalize sumR (cntDs kAlarm) _ = n1 at c3 c4
  repeat' (first | omega | assumption | apply And.intro | intro _))
end Go.Proofs.Ytpgpkomolheinaa

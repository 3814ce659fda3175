/-
  The law of Agrees.
-/
import Derived.Test.YtllhihloidkghaaGreatS7
set_option linter.unusedVariables false
set_option linter.unusedSimpArgs false
namespace Go.Proofs.YtllhihloidkghaaGreat
open Go.Vx

theorem szSt (r : List D) : (cell r 8).asList.length + sumR (szDs kPart) (cell r 8).asList ≤ szDs kWorld r := by
  simp only [szDs_cons, szDs_nil, szD, cell_tail, Nat.zero_add, Nat.reduceAdd]
  omega

theorem szSb (r : List D) : (cell r 9).asList.length + (cell r 12).asList.length ≤ szDs kWorld r := by
  simp only [szDs_cons, szDs_nil, szD, cell_tail, Nat.zero_add, Nat.reduceAdd]
  omega

theorem ok9 : Good1 Tryz.prog Φ g9 := good1 tok mixed (l := [g36, g37, g38, g39, g40, g41]) (by simp [ok36, ok37, ok38, ok39, ok40, ok41]) Tryz.func9 (by decide) (by decide) v9_eq (args2 fun a b hw hp => by
  simp [g9, show Φ 9 = mAgrees from rfl, mAgrees] at hp
  have h1 := szSt a.row
  have e1 : tt (szDs kWorld a.row ≤ 1048576) = true := by rw [tt_ok]; exact hp
  have e2 : tt ((cell a.row 8).asList.length + sumR (szDs kPart) (cell a.row 8).asList ≤ 1048576) = true := by rw [tt_ok]; omega
  simp [v9, g9, show Φ 9 = mAgrees from rfl, show Φ 36 = mEqA kConf from rfl, show Φ 37 = mEqL kSub from rfl, show Φ 38 = mEqL kGroup from rfl, show Φ 39 = mEqL kAlarm from rfl, show Φ 40 = mAllA from rfl, show Φ 41 = mFeedOf from rfl,
    mEqA, mEqL, mAllA, mFeedOf, mAgrees, agreesB, e1, e2, hp, -List.length_flatMap]
  cases hc : (eqDs kConf a.row b.row && tt ((cell a.row 13).asInt = (cell b.row 10).asInt) && eqR (eqDs kSub) (cell a.row 9).asList (cell b.row 7).asList && eqR (eqDs kGroup) (cell a.row 12).asList (cell b.row 9).asList)
  · simp
  · simp only [cond_true, Bool.true_and]
    cases hd : eqR (eqDs kAlarm) (allSt (cell a.row 8).asList) (cell b.row 6).asList
    · simp
    · simp [feedW])

theorem ok6 : Good1 Tryz.prog Φ g6 := good1 tok mixed (l := [g21, g22, g23, g24, g25, g26]) (by simp [ok21, ok22, ok23, ok24, ok25, ok26]) Tryz.func6 (by decide) (by decide) v6_eq (args2 fun a b hw hp => by
  simp [g6, show Φ 6 = mAgrees from rfl, mAgrees] at hp
  clear hw
  have h2 := szSb a.row
  have h1 := szSt a.row
  have e1 : tt (szDs kWorld a.row ≤ 1048576) = true := by rw [tt_ok]; exact hp
  have e2 : tt ((cell a.row 8).asList.length + sumR (szDs kPart) (cell a.row 8).asList ≤ 1048576) = true := by rw [tt_ok]; omega
  have k1 : Φ 21 = mEqA kConf := rfl
  have k2 : Φ 22 = mEqL kAlarm := rfl
  have k3 : Φ 23 = mAllA := rfl
  have k4 : Φ 24 = mFeedOf := rfl
  have k5 : Φ 25 = mEqA kSub := rfl
  have k6 : Φ 26 = mEqA kGroup := rfl
  unfold v6
  rw [wp_req']
  refine ⟨?_, ?_⟩
  · cases hA : eqDs kConf a.row b.row
    · simp [k1, k2, k3, k4, mEqA, mEqL, mAllA, mFeedOf, e1, e2, hp, -List.length_flatMap, hA]
    · by_cases hB : (cell a.row 13).asInt = (cell b.row 10).asInt
      · by_cases hC : ((cell a.row 9).asList.length : Int) = (cell b.row 7).asList.length
        · by_cases hD : ((cell a.row 12).asList.length : Int) = (cell b.row 9).asList.length
          · cases hE : eqR (eqDs kAlarm) (allSt (cell a.row 8).asList) (cell b.row 6).asList
            · simp [k1, k2, k3, k4, mEqA, mEqL, mAllA, mFeedOf, e1, e2, hp, -List.length_flatMap, hA, hB, hC, hD, hE]
            · simp [k1, k2, k3, k4, mEqA, mEqL, mAllA, mFeedOf, e1, e2, hp, -List.length_flatMap, hA, hB, hC, hD, hE]
          · simp [k1, k2, k3, k4, mEqA, mEqL, mAllA, mFeedOf, e1, e2, hp, -List.length_flatMap, hA, hB, hC, hD]
        · simp [k1, k2, k3, k4, mEqA, mEqL, mAllA, mFeedOf, e1, e2, hp, -List.length_flatMap, hA, hB, hC]
      · simp [k1, k2, k3, k4, mEqA, mEqL, mAllA, mFeedOf, e1, e2, hp, -List.length_flatMap, hA, hB]
  have hout : (g6.rets.length = 1) := rfl
  by_cases hall : (eqDs kConf a.row b.row = true ∧ (cell a.row 13).asInt = (cell b.row 10).asInt) ∧ (((cell a.row 9).asList.length : Int) = (cell b.row 7).asList.length ∧ ((cell a.row 12).asList.length : Int) = (cell b.row 9).asList.length) ∧ eqR (eqDs kAlarm) (allSt (cell a.row 8).asList) (cell b.row 6).asList = true ∧ eqR (eqDs kAlarm) (feedW a.row) (cell b.row 8).asList = true
  · obtain ⟨⟨hA, hB⟩, ⟨hC, hD⟩, hE, hF⟩ := hall
    have hF' : eqR (eqDs kAlarm) (joinA a.row ++ (cell a.row 10).asList.flatMap fun r => [cpAl r]) (cell b.row 8).asList = true := hF
    rw [wp_ite']
    refine ⟨fun h => ?_, fun _ => ?_⟩
    · simp [k1, k2, k3, k4, mEqA, mEqL, mAllA, mFeedOf, e1, e2, hp, -List.length_flatMap, hA, hB, hC, hD, hE, hF'] at h
    · have hC' : (cell a.row 9).asList.length = (cell b.row 7).asList.length := by omega
      have hD' : (cell a.row 12).asList.length = (cell b.row 9).asList.length := by omega
      have hag : agreesB a.row b.row = (eqR (eqDs kSub) (cell a.row 9).asList (cell b.row 7).asList && eqR (eqDs kGroup) (cell a.row 12).asList (cell b.row 9).asList) := by
        simp [agreesB, hA, hB, hE, hF]
      refine loop1_wp (Φ := Φ) (N := (cell a.row 9).asList.length) rfl (fun _ => by simp) (by omega) (fun i => ∀ j, j < i → eqDs kSub (rowN (cell a.row 9).asList j) (rowN (cell b.row 7).asList j) = true) (fun j hj => by omega) (fun i hi hI => ?_) fun hI p => ?_
      · simp [rowAt_nat, hi, k5, mEqA, g6, show Φ 6 = mAgrees from rfl, mAgrees, hag]
        refine ⟨by omega, fun hf hs => ?_, fun ht j hj => ?_⟩
        · have := (eqR_iff.1 hs).2 i hi
          rw [hf] at this; cases this
        · rcases Nat.lt_or_ge j i with q | q
          · exact hI j q
          · have : j = i := by omega
            subst this; exact ht
      · refine loop1_wp (Φ := Φ) (N := (cell a.row 12).asList.length) rfl (fun _ => by simp) (by omega) (fun i => ∀ j, j < i → eqDs kGroup (rowN (cell a.row 12).asList j) (rowN (cell b.row 9).asList j) = true) (fun j hj => by omega) (fun i hi hJ => ?_) fun hJ p => ?_
        · simp [rowAt_nat, hi, k6, mEqA, g6, show Φ 6 = mAgrees from rfl, mAgrees, hag]
          refine ⟨by omega, fun hf hs => ?_, fun ht j hj => ?_⟩
          · rw [Bool.eq_false_iff]
            intro hg
            have := (eqR_iff.1 hg).2 i hi
            rw [hf] at this; cases this
          · rcases Nat.lt_or_ge j i with q | q
            · exact hJ j q
            · have : j = i := by omega
              subst this; exact ht
        · simp [g6, show Φ 6 = mAgrees from rfl, mAgrees, hag]
          exact ⟨eqR_iff.2 ⟨hC', hI⟩, eqR_iff.2 ⟨hD', hJ⟩⟩
  · rw [wp_ite']
    refine ⟨fun _ => ?_, fun h => ?_⟩
    · have hf : agreesB a.row b.row = false := by
        rw [Bool.eq_false_iff]
        intro hag
        apply hall
        simp only [agreesB, Bool.and_eq_true, tt_ok] at hag
        obtain ⟨⟨⟨⟨⟨q1, q2⟩, q3⟩, q4⟩, q5⟩, q6⟩ := hag
        exact ⟨⟨q1, q2⟩, ⟨by rw [(eqR_iff.1 q3).1], by rw [(eqR_iff.1 q4).1]⟩, q5, q6⟩
      simp [g6, show Φ 6 = mAgrees from rfl, mAgrees, hf]
    · exfalso
      apply hall
      cases hA : eqDs kConf a.row b.row
      · simp [k1, k2, k3, k4, mEqA, mEqL, mAllA, mFeedOf, e1, e2, hp, -List.length_flatMap, hA] at h
      · by_cases hB : (cell a.row 13).asInt = (cell b.row 10).asInt
        · by_cases hC : ((cell a.row 9).asList.length : Int) = (cell b.row 7).asList.length
          · by_cases hD : ((cell a.row 12).asList.length : Int) = (cell b.row 9).asList.length
            · cases hE : eqR (eqDs kAlarm) (allSt (cell a.row 8).asList) (cell b.row 6).asList
              · simp [k1, k2, k3, k4, mEqA, mEqL, mAllA, mFeedOf, e1, e2, hp, -List.length_flatMap, hA, hB, hC, hD, hE] at h
              · simp [k1, k2, k3, k4, mEqA, mEqL, mAllA, mFeedOf, e1, e2, hp, -List.length_flatMap, hA, hB, hC, hD, hE] at h
                exact ⟨⟨rfl, hB⟩, ⟨hC, hD⟩, rfl, h⟩
            · simp [k1, k2, k3, k4, mEqA, mEqL, mAllA, mFeedOf, e1, e2, hp, -List.length_flatMap, hA, hB, hC, hD] at h
          · simp [k1, k2, k3, k4, mEqA, mEqL, mAllA, mFeedOf, e1, e2, hp, -List.length_flatMap, hA, hB, hC] at h
        · simp [k1, k2, k3, k4, mEqA, mEqL, mAllA, mFeedOf, e1, e2, hp, -List.length_flatMap, hA, hB] at h)
end Go.Proofs.YtllhihloidkghaaGreat

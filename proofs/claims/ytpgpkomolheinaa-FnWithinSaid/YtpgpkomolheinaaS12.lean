/-
  The law on some of others.
-/
import Derived.Test.YtpgpkomolheinaaSK
import Derived.Test.YtpgpkomolheinaaS11
set_option linter.unusedVariables false
set_option linter.unusedSimpArgs false
namespace Go.Proofs.Ytpgpkomolheinaa
open Go.Vx

noncomputable abbrev facts : List Fact := [fDL, fDO, fDW, fLbl, fList, fAl, fLab, fPlain, fStr, fInt, fOnce, fBelow, fByte, fNew]
theorem drawn : ∃ Ψ, Kept Φ facts Ψ := by
  obtain ⟨Ψ1, h1⟩ := (Kept.nil Φ).add fNew rfl sNew
  obtain ⟨Ψ2, h2⟩ := h1.add fByte rfl sByte
  obtain ⟨Ψ3, h3⟩ := h2.add fBelow rfl (sBelow (h2.at' 0 rfl))
  obtain ⟨Ψ4, h4⟩ := h3.add fOnce rfl (sOnce (h3.at' 0 rfl))
  obtain ⟨Ψ5, h5⟩ := h4.add fInt rfl (sInt (h4.at' 1 rfl))
  obtain ⟨Ψ6, h6⟩ := h5.add fStr rfl (sStr (h5.at' 2 rfl))
  obtain ⟨Ψ7, h7⟩ := h6.add fPlain rfl (sPlain (h6.at' 0 rfl))
  obtain ⟨Ψ8, h8⟩ := h7.add fLab rfl (sLab (h7.at' 1 rfl) (h7.at' 3 rfl))
  obtain ⟨Ψ9, h9⟩ := h8.add fAl rfl (sAl (h8.at' 5 rfl) (h8.at' 0 rfl) (h8.at' 1 rfl) (h8.at' 3 rfl))
  obtain ⟨Ψ10, h10⟩ := h9.add fList rfl (sList (h9.at' 6 rfl) (h9.at' 0 rfl))
  obtain ⟨Ψ11, h11⟩ := h10.add fLbl rfl (sLbl (h10.at' 7 rfl) (h10.at' 6 rfl) (h10.at' 2 rfl))
  obtain ⟨Ψ12, h12⟩ := h11.add fDW rfl (sDW (h11.at' 10 rfl) (h11.at' 1 rfl) (h11.at' 7 rfl) (h11.base _ rfl))
  obtain ⟨Ψ13, h13⟩ := h12.add fDO rfl (sDO (h12.at' 11 rfl) (h12.at' 2 rfl) (h12.at' 1 rfl))
  exact h13.add fDL rfl (sDL (h13.at' 12 rfl) (h13.at' 3 rfl))

section
variable {Ψ : Fns} (K : Kept Φ facts Ψ)
set_option maxRecDepth 100000 in
set_option maxHeartbeats 2000000 in
include K in
theorem wp_law : ∀ ds : List D, ds.length = 1 → WFAs g9.args ds → v9.wp Ψ (fun l => l = [.bool true]) ds fun _ _ => False := args1 fun a hw => by
  have h45 : Ψ 45 = mBig := K.base _ rfl
  have h16 : Ψ 16 = mWithin := K.base _ rfl
  have h14 : Ψ 14 = mWithin := K.base _ rfl
  have h21 : Ψ 21 = mOf := K.base _ rfl
  have h19 : Ψ 19 = mOf := K.base _ rfl
  have h49 : Ψ 49 = mLastOf := K.base _ rfl
  have h51 : Ψ 51 = mLastOf := K.base _ rfl
  have h50 : Ψ 50 = mEqL kAlarm := K.base _ rfl
  have h52 : Ψ 52 = mAt := K.base _ rfl
  have h53 : Ψ 53 = mEqA kAlarm := K.base _ rfl
  have h54 : Ψ 54 = mSetLt := K.base _ rfl
  by_cases hb : 1048576 < (a.asList.length : Int)
  · simp [v9, h45, mBig, hb]
  have hq : qCode [a] := by show a.asList.length ≤ 1048576; omega
  obtain ⟨c1, -, ⟨a1, a2⟩, b1, b2⟩ := (K.at' 2 rfl).2 [a] rfl hw hq
  obtain ⟨c2, -, ⟨l1, l2⟩, s1⟩ := (K.at' 1 rfl).2 [a] rfl hw hq
  obtain ⟨c3, -, m1, m2⟩ := (K.at' 0 rfl).2 [a] rfl hw hq
  simp [g46, g47, g48] at c1 a1 a2 b1 b2 c2 l1 l2 s1 c3 m1 m2
  generalize hA : (Ψ 46 0 [a]) = dA at *
  generalize hB : (Ψ 46 1 [a]) = dB at *
  generalize hL : (Ψ 47 0 [a]) = dL at *
  generalize hS : (Ψ 47 1 [a]) = dS at *
  generalize hM : (Ψ 48 0 [a]) = dM at *
  have w1 : within (eqDs kAlarm) dB.asList dB.asList = true := within_of (Sub.refl (eqDs_refl kAlarm) _)
  have w2 : within (eqDs kAlarm) (dL.asList.flatMap (ofG dS.asList)) dL.asList = true := within_of (of_sub _ _)
  have e1 : dL.asList.length + sumR (szDs kAlarm) dL.asList ≤ 1048576 := by omega
  have e2 : dM.asList.length + sumR (szDs kAlarm) dM.asList ≤ 1048576 := by omega
  simp [v9, h45, h16, h14, h21, h19, h49, h51, h50, h52, h53, h54, mBig, mWithin, mOf, mLastOf, mEqL, mEqA, mAt, mSetLt, hb, hA, hB, hL, hS, hM, c1, c2, c3, e1, e2, w1, w2, eqR_refl (eqDs_refl kAlarm)]
  have hwl : IntKind.i64.wrap ((dA.asList.length : Int) + 1) = dA.asList.length + 1 := w64 (by omega) (by omega)
  have h49' : Ψ 49 0 [dM] = .sl (lastO dM.asList) := by rw [h49]; simp [mLastOf]
  have f1 : ∀ {i : Nat}, i + 1 < (lastO dM.asList).length → setLt (cell (rowN (lastO dM.asList) i) 0).asList (cell (rowN (lastO dM.asList) (i + 1)) 0).asList = true := fun h => lastO_less _ h
  have f2 : ∀ {i : Nat}, i < (lastO dM.asList).length → ∃ ys, dM.asList.flatMap (ofG (cell (rowN (lastO dM.asList) i) 0).asList) = ys ++ [rowN (lastO dM.asList) i] := fun h => lastO_of _ h
  have f3 : (dM.asList.length = 0) ↔ ((lastO dM.asList).length = 0) := lastO_nil _
  have f4 : (lastO dM.asList).length ≤ dM.asList.length := by rw [lastO_len]; exact pickN_len _ _ _
  generalize lastO dM.asList = X at h49' f1 f2 f3 f4
  have hr0 : ∀ xs : List (List D), Vx.rowAt xs 0 = rowN xs 0 := fun _ => rfl
  refine ⟨by rw [hwl]; omega, ?_⟩
  refine wp_loop' (fun v => ∃ i : Nat, v = [.int i] ∧ i ≤ X.length) (fun v => X.length - (cell v 0).asInt.toNat) ⟨0, rfl, by omega⟩ ?_
  simp only [allN_succ, allN_zero, kinds_cons, kinds_nil]
  rintro d1 - ⟨i, hv, hi⟩
  simp only [List.cons.injEq, and_true] at hv
  subst hv
  by_cases hlt : i < X.length
  · obtain ⟨ys, hys⟩ := f2 hlt
    have hyl : ys.length + 1 ≤ dM.asList.length := by
      have := of_len (cell (rowN X i) 0).asList dM.asList
      rw [hys] at this
      simpa using this
    have hwy : IntKind.i64.wrap (ys.length : Int) = ys.length := w64 (by omega) (by omega)
    have hry : rowN (ys ++ [rowN X i]) ys.length = rowN X i := by simp [rowN]
    have hwi : IntKind.i64.wrap ((i : Int) + 1) = ((i + 1 : Nat) : Int) := w64 (by omega) (by omega)
    cases i with
    | zero =>
      simp [h21, h49', h53, h54, mOf, mEqA, mSetLt, hM, e2, hlt, hr0, rowAt_nat, hys, hwy, hry, eqDs_refl kAlarm, -List.length_flatMap]
      refine ⟨⟨by omega, by omega⟩, by omega, fun _ => ?_⟩
      rw [w64 (n := 1) (by omega) (by omega)]
      exact ⟨⟨1, rfl, by omega⟩, by omega⟩
    | succ j =>
      have hls := f1 hlt
      have hwj : IntKind.i64.wrap (j : Int) = j := w64 (by omega) (by omega)
      have hr1 : Vx.rowAt X ((j : Int) + 1) = rowN X (j + 1) := rowAt_nat X (j + 1)
      have hp1 : (0 : Int) ≤ (j : Int) + 1 := by omega
      have hp2 : ((j : Int) + 1 < X.length) := by omega
      have hp3 : (0 : Int) < (j : Int) + 1 := by omega
      have hp4 : ((j : Int) + 1).toNat = j + 1 := by omega
      simp [hr1, hp1, hp2, hp3, hp4, h21, h49', h53, h54, mOf, mEqA, mSetLt, hM, e2, hlt, rowAt_nat, hys, hwy, hry, eqDs_refl kAlarm, hls, hwj, -List.length_flatMap]
      refine ⟨⟨by omega, by omega, by omega, by omega⟩, by omega, fun _ => ?_⟩
      rw [w64 (n := (j : Int) + 1 + 1) (by omega) (by omega)]
      exact ⟨⟨j + 1 + 1, by omega, by omega⟩, by omega⟩
  · have hie : i = X.length := by omega
    subst hie
    have h52v : ∃ n : Nat, Ψ 52 0 [a, .int 2] = .int n := by
      have hp := K.base 52 rfl
      simp [g9] at hw
      rw [h52]
      by_cases h2 : (2 : Int) < a.asList.length
      · have hr := hw.2 _ (rowN_mem (i := 2) (by omega))
        simp [inR, IntKind.min, IntKind.max, IntKind.bits, IntKind.signed] at hr
        refine ⟨(cell (rowN a.asList 2) 0).asInt.toNat, ?_⟩
        simp [mAt, h2]
        rw [w64 (by omega) (by omega)]
        omega
      · have h3 : ¬ (2 : Int) < a.asList.length := h2
        simp [mAt, h3]
        rw [w64 (n := (a.asList.length : Int) * 7) (by omega) (by omega), w64 (n := 62) (by omega) (by omega), w64 (by omega) (by omega)]
        have := Int.tmod_nonneg 256 (a := 62 + (a.asList.length : Int) * 7) (by omega)
        exact ⟨((62 + (a.asList.length : Int) * 7).tmod 256).toNat, by omega⟩
    obtain ⟨n, hn⟩ := h52v
    have hk : ((n : Int)).tmod ((dA.asList.length : Int) + 1) = ((n % (dA.asList.length + 1) : Nat) : Int) := by
      rw [show ((dA.asList.length : Int) + 1) = ((dA.asList.length + 1 : Nat) : Int) by omega, ← Int.ofNat_tmod]
    have hk2 : n % (dA.asList.length + 1) ≤ dA.asList.length := by have := Nat.mod_lt n (show 0 < dA.asList.length + 1 by omega); omega
    have hz : ((dM.asList.length : Int) = 0) = ((X.length : Int) = 0) := by
      apply propext
      omega
    generalize n % (dA.asList.length + 1) = k at hk hk2
    cases his : within (eqDs kAlarm) dA.asList dB.asList with
    | false =>
      simp [h16, h49', mWithin, hA, hB, hM, hn, hwl, hk, hk2, his]
      simpa [List.length_eq_zero_iff] using f3
    | true =>
      have hs := sub_of his
      have t1 := within_of (hs.take' k)
      have t2 := within_of (Sub.drop' (k := k) hs)
      have t3 := hs.len
      simp [h16, h49', mWithin, hA, hB, hM, hn, hwl, hk, hk2, his, t1, t2, t3]
      refine ⟨?_, by simpa [List.length_eq_zero_iff] using f3⟩
      have : (dA.asList.drop k).take (dA.asList.length - k) = dA.asList.drop k := List.take_of_length_le (by simp)
      rw [this]
      exact t2
end

set_option maxRecDepth 100000 in
theorem ok9 : FunR Try.prog 9 g9.args g9.rets mLaw := by
  obtain ⟨Ψ, K⟩ := drawn
  have hb := putΦ_but Ψ 9 mLaw
  have hs : putΦ Ψ 9 mLaw 9 = mLaw := putΦ_same _ _ _
  have hl : ∀ t ∈ [g14, g16, g19, g21, g45, g46, g47, g48, g49, g50, g51, g52, g53, g54], Good1 Try.prog Ψ t := by
    simp only [List.mem_cons, List.not_mem_nil, or_false, forall_eq_or_imp, forall_eq]
    exact ⟨ok14.tr (K.base _ rfl), ok16.tr (K.base _ rfl), ok19.tr (K.base _ rfl), ok21.tr (K.base _ rfl), ok45.tr (K.base _ rfl), gof (t := g46) (K.at' 2 rfl).1, gof (t := g47) (K.at' 1 rfl).1, gof (t := g48) (K.at' 0 rfl).1,
      ok49.tr (K.base _ rfl), ok50.tr (K.base _ rfl), ok51.tr (K.base _ rfl), ok52.tr (K.base _ rfl), ok53.tr (K.base _ rfl), ok54.tr (K.base _ rfl)⟩
  have hg : Good1 Try.prog (putΦ Ψ 9 mLaw) g9 := good1 tok mixed (hb.goods hl (by decide)) Try.func9 (by decide) (by decide) v9_eq (fun ds hd hw _ => by
    rw [hb.wp (by kernel_rfl)]
    refine VC.wp_mono (fun l h => ?_) _ _ _ (wp_law K ds hd hw)
    subst h
    show _ = retDs (fun c => putΦ Ψ 9 mLaw 9 c ds) 0 _
    rw [hs]
    simp [g9, mLaw])
  have := hg.r rfl
  rw [show (putΦ Ψ 9 mLaw) g9.f = mLaw from hs] at this
  exact this
end Go.Proofs.Ytpgpkomolheinaa


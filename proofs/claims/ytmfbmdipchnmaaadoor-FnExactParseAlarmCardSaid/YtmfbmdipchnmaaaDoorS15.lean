/-
  The law of ParseAlarm.
-/
import Derived.Test.YtmfbmdipchnmaaaDoorS14
set_option linter.unusedVariables false
set_option linter.unusedSimpArgs false
namespace Go.Proofs.YtmfbmdipchnmaaaDoor
open Go.Vx

theorem norm_sum : ∀ L : List (List D), sumR (cntDs kLabel) (L.map norm) = 2 * L.length
  | [] => rfl
  | x :: L => by
    simp only [List.map_cons, sumR, norm_sum L, List.length_cons]
    have : cntDs kLabel (norm x) = 2 := by simp [cntDs_cons, cntDs_nil, cntD_str]
    omega
theorem pa_facts (t : TypeId) (s : ByteArray) : lenD (.sl t kLabel) (.sl (cell (bif tt (IOk s) then iRow s else [.sl [], .int 0, .int 0, .str ⟨#[]⟩]) 0).asList) ∧
    sumR (cntDs kLabel) (cell (bif tt (IOk s) then iRow s else [.sl [], .int 0, .int 0, .str ⟨#[]⟩]) 0).asList ≤ 8 := by
  by_cases h : IOk s
  · rw [tt_true h, cond_true]
    obtain ⟨h1, h2⟩ := iok_row h
    have h4 := h1.1.1.1
    have e : (cell (iRow s) 0).asList = (cell (iRow s) 0).asList.map norm := by
      have := congrArg (fun r => (cell r 0).asList) h2
      exact this
    rw [e, norm_sum]
    refine ⟨?_, by omega⟩
    simp only [lenD_sl, D.asList_sl]
    refine ⟨by rw [List.length_map]; omega, fun r hr => ?_⟩
    obtain ⟨x, -, rfl⟩ := List.mem_map.1 hr
    exact ⟨rfl, by simp [lenDs_cons, lenDs_nil, lenD_str]⟩
  · rw [tt_false h, cond_false]
    simp [lenD_sl, sumR]

theorem ok5 : Good1 Tryd.prog Φ g5 := good1 tok mixed (l := [g17.x, g18.x, g19, g20, g21]) (by simp [Good1.x ok17, Good1.x ok18, ok19, ok20, ok21]) Tryd.func5 (by decide) (by decide) v5_eq (args1 fun a hw hp => by
  have hΦ : Φ 17 = mPA IOk iRow := by funext c ds; exact pa_agree c ds
  obtain ⟨f1, f2⟩ := pa_facts 99 a.asStr
  simp [v5, g5, hΦ, show Φ 18 = mPA IOk iRow from rfl, show Φ 5 = mLaw from rfl, show Φ 19 = mEqA kAlarm from rfl, show Φ 20 = mMrkA kAlarm from rfl, show Φ 21 = mHldA kAlarm from rfl, mPA, mLaw, mEqA, mMrkA, mHldA, mrkPreA, hldPreA, con, eqDs_refl kAlarm, cntSl, mrkSl, mkdSl, scanR_sum (cntDs_mrk kLabel), scanR_all (mkdDs_mrk kLabel) (cntDs_mrk kLabel), lenDs_cons, lenDs_nil, lenD_int, lenD_str]
  generalize (cell (bif tt (IOk a.asStr) then iRow a.asStr else [D.sl [], D.int 0, D.int 0, D.str ⟨#[]⟩]) 0).asList = Y at f1 f2 ⊢
  repeat' (first | omega | assumption | apply And.intro | intro _))
end Go.Proofs.YtmfbmdipchnmaaaDoor

/-
  The law on what is said, as a function.
-/
import Derived.Test.YthibophjhdoooaaGreatDoorD11
set_option linter.unusedVariables false
set_option linter.unusedSimpArgs false
namespace Go.Proofs.YthibophjhdoooaaGreatDoor
open Go.Vx

theorem ok4 : Good1 Tryz.prog Φ g4 := good1 tok mixed (l := []) (by simp) Tryz.func4 (by decide) (by decide) v4_eq (args1 fun a hw hp => by
  simp [v4, g4, show Φ 4 = mBig from rfl, mBig])
set_option maxRecDepth 100000 in
theorem ok3 : FunR Tryz.prog 3 g3.args g3.rets mLaw := by
  obtain ⟨Ψ, K⟩ := drawn
  have fD : fWD.2 (Ψ 5) := K.at' 29 rfl
  have fT : fWT.2 (Ψ 6) := K.at' 20 rfl
  have fB : fWB.2 (Ψ 7) := K.at' 0 rfl
  have fL : fWL.2 (Ψ 8) := K.at' 19 rfl
  have fS : fWS.2 (Ψ 9) := K.at' 14 rfl
  have hb := putΦ_but Ψ 3 mLaw
  have hs : putΦ Ψ 3 mLaw 3 = mLaw := putΦ_same _ _ _
  have hl : ∀ t ∈ [g4, g5, g6, g7, g8, g9, g10, g11, g12, g13, g14, g15, g16, g17, g18, g19], Good1 Tryz.prog Ψ t := by
    simp only [List.mem_cons, List.not_mem_nil, or_false, forall_eq_or_imp, forall_eq]
    exact ⟨ok4.tr (K.base _ rfl), gof (t := g5) fD.1, gof (t := g6) fT.1, gof (t := g7) fB.1, gof (t := g8) fL.1, gof (t := g9) fS.1,
      ok10.tr (K.base _ rfl), ok11.tr (K.base _ rfl), ok12.tr (K.base _ rfl), ok13.tr (K.base _ rfl), ok14.tr (K.base _ rfl), ok15.tr (K.base _ rfl), ok16.tr (K.base _ rfl), ok17.tr (K.base _ rfl), ok18.tr (K.base _ rfl), ok19.tr (K.base _ rfl)⟩
  have hg : Good1 Tryz.prog (putΦ Ψ 3 mLaw) g3 := good1 tok mixed (hb.goods hl (by decide)) Tryz.func3 (by decide) (by decide) v3_eq (fun ds hd hw _ => by
    rw [hb.wp (by kernel_rfl)]
    refine VC.wp_mono (fun l h => ?_) _ _ _ (wp_law K fD fT fB fL fS ds hd hw)
    subst h
    show _ = retDs (fun c => putΦ Ψ 3 mLaw 3 c ds) 0 _
    rw [hs]
    simp [g3, mLaw])
  have := hg.r rfl
  rw [show (putΦ Ψ 3 mLaw) g3.f = mLaw from hs] at this
  exact this
end Go.Proofs.YthibophjhdoooaaGreatDoor


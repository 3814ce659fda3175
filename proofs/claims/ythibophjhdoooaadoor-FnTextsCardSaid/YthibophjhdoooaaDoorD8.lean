/-
  The law on texts, as a function.
-/
import Derived.Test.YthibophjhdoooaaDoorD7
import Derived.Test.YthibophjhdoooaaDoorB4
set_option linter.unusedVariables false
set_option linter.unusedSimpArgs false
namespace Go.Proofs.YthibophjhdoooaaDoor
open Go.Vx

set_option maxRecDepth 100000
theorem drawn : ∃ Ψ, Kept Φ facts Ψ := by
  obtain ⟨Ψ1, h1⟩ := (Kept.nil Φ).add fNew rfl sNew
  obtain ⟨Ψ2, h2⟩ := h1.add fByte rfl sByte
  obtain ⟨Ψ3, h3⟩ := h2.add fBelow rfl (sBelow (h2.at' 0 rfl))
  obtain ⟨Ψ4, h4⟩ := h3.add fOnce rfl (sOnce (h3.at' 0 rfl))
  obtain ⟨Ψ5, h5⟩ := h4.add fInt rfl (sInt (h4.at' 1 rfl))
  obtain ⟨Ψ6, h6⟩ := h5.add fStr rfl (sStr (h5.at' 2 rfl))
  obtain ⟨Ψ7, h7⟩ := h6.add fPlain rfl (sPlain (h6.at' 0 rfl))
  obtain ⟨Ψ8, h8⟩ := h7.add fLab rfl (sLab (h7.at' 1 rfl) (h7.at' 3 rfl))
  obtain ⟨Ψ9, h9⟩ := h8.add fAl rfl (sAl (h8.at' 5 rfl) (h8.at' 0 rfl) (h8.at' 1 rfl) (h8.at' 3 rfl))
  obtain ⟨Ψ10, h10⟩ := h9.add fOdd rfl (sOdd (h9.at' 4 rfl))
  obtain ⟨Ψ11, h11⟩ := h10.add fRaw rfl (sRaw (h10.at' 6 rfl) (h10.at' 0 rfl) (h10.at' 5 rfl))
  obtain ⟨Ψ12, h12⟩ := h11.add fNames rfl (sNames (h11.at' 5 rfl))
  obtain ⟨Ψ13, h13⟩ := h12.add fAnyN rfl (sAnyN (h12.at' 8 rfl) (h12.at' 0 rfl) (h12.at' 6 rfl))
  obtain ⟨Ψ14, h14⟩ := h13.add fAnyP rfl (sAnyP (h13.at' 9 rfl) (h13.at' 6 rfl) (h13.at' 7 rfl))
  obtain ⟨Ψ15, h15⟩ := h14.add fLabs rfl (sLabs (h14.at' 6 rfl) (h14.at' 11 rfl) (h14.at' 1 rfl) (h14.at' 0 rfl))
  obtain ⟨Ψ16, h16⟩ := h15.add fAnyA rfl (sAnyA (h15.at' 6 rfl) (h15.at' 12 rfl) (h15.at' 0 rfl) (h15.at' 10 rfl) (h15.at' 4 rfl) (h15.at' 1 rfl))
  obtain ⟨Ψ17, h17⟩ := h16.add fBend rfl (sBend (h16.at' 13 rfl) (h16.at' 11 rfl))
  obtain ⟨Ψ18, h18⟩ := h17.add fDA rfl (sDA (h17.at' 16 rfl) (h17.at' 1 rfl))
  exact h18.add fDP rfl (sDP (h18.at' 17 rfl) (h18.at' 14 rfl) (h18.at' 12 rfl) (h18.at' 9 rfl) (h18.at' 1 rfl) (h18.base _ rfl))

theorem ok33 : Good1 Tryd.prog Φ g33 := good1 tok mixed (l := []) (by simp) Tryd.func33 (by decide) (by decide) v33_eq (args2 fun a b hw hp => by
  simp [g33] at hw
  exact eqV_wp (Φ := Φ) (a := a) (b := b) (p := eqDs kLabel) (tests := []) (t := .op .and [.op (.sbin .eql) [.op (.fld 0) [.op .row [.var 0, .var 2]], .op (.fld 0) [.op .row [.var 1, .var 2]]], .op (.sbin .eql) [.op (.fld 1) [.op .row [.var 0, .var 2]], .op (.fld 1) [.op .row [.var 1, .var 2]]]]) hw.1.1
    (fun i h1 h2 => by simp [rowAt_nat, eqDs_cons, eqDs_nil, eqD_str]) _)
theorem ok11 : Good1 Tryd.prog Φ g11 := good1 tok mixed (l := [g33]) (by simp [ok33]) Tryd.func11 (by decide) (by decide) v11_eq (args2 fun a b hw hp => by
  simp [v11, show Φ 11 = mEqA kAlarm from rfl, show Φ 33 = mEqL kLabel from rfl, mEqA, mEqL, g11, eqDs_cons, eqDs_nil, eqD_str, eqD_int, eqD_bool, eqD_sl]
  rw [Bool.eq_iff_iff]
  simp [and_assoc, and_comm, and_left_comm])
theorem ok4 : Good1 Tryd.prog Φ g4 := good1 tok mixed (l := []) (by simp) Tryd.func4 (by decide) (by decide) v4_eq (args1 fun a hw hp => by
  simp [v4, g4, show Φ 4 = mBig from rfl, mBig])
theorem ok3 : FunR Tryd.prog 3 g3.args g3.rets mLaw := by
  obtain ⟨Ψ, K⟩ := drawn
  have fA : fDA.2 (Ψ 5) := K.at' 1 rfl
  have fP : fDP.2 (Ψ 8) := K.at' 0 rfl
  have hb := putΦ_but Ψ 3 mLaw
  have hs : putΦ Ψ 3 mLaw 3 = mLaw := putΦ_same _ _ _
  have hl : ∀ t ∈ [g4, g5, g6, g7, g8, g9, g10, g11], Good1 Tryd.prog Ψ t := by
    simp only [List.mem_cons, List.not_mem_nil, or_false, forall_eq_or_imp, forall_eq]
    exact ⟨ok4.tr (K.base _ rfl), gof (t := g5) fA.1, ok6.tr (K.base _ rfl), ok7.tr (K.base _ rfl), gof (t := g8) fP.1, ok9.tr (K.base _ rfl), ok10.tr (K.base _ rfl), ok11.tr (K.base _ rfl)⟩
  have hg : Good1 Tryd.prog (putΦ Ψ 3 mLaw) g3 := good1 tok mixed (hb.goods hl (by decide)) Tryd.func3 (by decide) (by decide) v3_eq (fun ds hd hw _ => by
    rw [hb.wp (by kernel_rfl)]
    refine VC.wp_mono (fun l h => ?_) _ _ _ (wp_law K ds hd hw)
    subst h
    show _ = retDs (fun c => putΦ Ψ 3 mLaw 3 c ds) 0 _
    rw [hs]
    simp [g3, mLaw])
  have := hg.r rfl
  rw [show (putΦ Ψ 3 mLaw) g3.f = mLaw from hs] at this
  exact this
end Go.Proofs.YthibophjhdoooaaDoor


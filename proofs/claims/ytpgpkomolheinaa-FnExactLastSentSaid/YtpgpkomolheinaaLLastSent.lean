/-
  FnExactLastSent: for every input it returns true, and its arguments read as they did. No condition.
-/
import Derived.Test.YtpgpkomolheinaaS7
import Derived.Test.YtpgpkomolheinaaVxc
import Derived.Test.YtpgpkomolheinaaRows
namespace Go.Proofs.Ytpgpkomolheinaa
open Go.Vx Go.ChangeShapes Go.WideShapes Go.ChangeAt Go.RowKit

theorem own_fnExactLastSent : ownKnob Try.prog.godebug = none := by kernel_rfl
theorem laid_fnExactLastSent : laidOutB Try.prog = true := by kernel_rfl

set_option maxRecDepth 100000 in
theorem lifted_fnExactLastSent (os : Os) (started : os.Started) (H : Type) (enc : TypeId × Value → H) :
    ReturnsInHanded {} Try.checked os 7 .any (Rows.fnExactLastSentSpec.pre6 enc Try.prog Try.f7 Rows.fnExactLastSentRow.domain false) (Rows.fnExactLastSentSpec.post enc Try.prog Try.f7 false true false false) := by
  refine returns_sized (C := Try.checked) own_fnExactLastSent started (by kernel_rfl) Try.func7
    (ChangeSpec.witness6 (enc := enc) (C := Try.checked) false ⟨#[], #[.slice none 0 0, .slice none 0 0], []⟩ 8 (by kernel_rfl) (by kernel_rfl) (by kernel_rfl) (by kernel_rfl)) ?_
  intro W base args ds gs before hval hW hw
  exact law_post (P := Try.prog) (ok7.r rfl) (fun xs _ => ⟨by simp [g7, Φ, mLaw], by simp [g7, Φ, mLaw]⟩) laid_fnExactLastSent (by rw [Try.params7]; decide +kernel) (by rw [Try.params7]; kernel_rfl) (tb := 4) rfl Try.underlying4
    (fun ds h => by rw [Try.params7] at h; match ds, h with | [d0, d1], _ => rfl) rfl hval hW hw (glob_none (by kernel_rfl) (by kernel_rfl) W)

theorem fnExactLastSent_holds : Rows.FnExactLastSentSaid :=
  OpenClaim.holds_of_wide 7 Try.f7 rfl rfl rfl rfl rfl rfl rfl ⟨rfl, rfl, rfl, rfl, rfl⟩ rfl rfl rfl rfl rfl (by kernel_rfl) Try.func7 (by kernel_rfl)
    (of_decide_eq_true (by kernel_rfl)) (by unfold Func.isWrapper; first | (rw [if_pos (by decide +kernel)]; kernel_rfl) | (rw [if_neg (by decide +kernel)]; exact ⟨rfl, rfl⟩))
    (fun os started H enc _ => lifted_fnExactLastSent os started H enc)
end Go.Proofs.Ytpgpkomolheinaa

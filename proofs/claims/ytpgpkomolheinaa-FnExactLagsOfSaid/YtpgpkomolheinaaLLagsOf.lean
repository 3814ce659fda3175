/-
  FnExactLagsOf: for every input it returns true, and its arguments read as they did. No condition.
-/
import Derived.Test.YtpgpkomolheinaaS9
import Derived.Test.YtpgpkomolheinaaVxd
import Derived.Test.YtpgpkomolheinaaRows
set_option linter.unusedVariables false
set_option linter.unusedSimpArgs false
namespace Go.Proofs.Ytpgpkomolheinaa
open Go.Vx Go.ChangeShapes Go.WideShapes Go.ChangeAt Go.RowKit

theorem own_fnExactLagsOf : ownKnob Try.prog.godebug = none := by kernel_rfl
theorem laid_fnExactLagsOf : laidOutB Try.prog = true := by kernel_rfl

set_option maxRecDepth 100000 in
theorem lifted_fnExactLagsOf (os : Os) (started : os.Started) (H : Type) (enc : TypeId × Value → H) :
    ReturnsInHanded {} Try.checked os 10 .any (Rows.fnExactLagsOfSpec.pre6 enc Try.prog Try.f10 Rows.fnExactLagsOfRow.domain false) (Rows.fnExactLagsOfSpec.post enc Try.prog Try.f10 false true false false) := by
  refine returns_sized (C := Try.checked) own_fnExactLagsOf started (by kernel_rfl) Try.func10
    (ChangeSpec.witness6 (enc := enc) (C := Try.checked) false ⟨#[], #[.slice none 0 0, .int .i64 0], []⟩ 8 (by kernel_rfl) (by kernel_rfl) (by kernel_rfl) (by kernel_rfl)) ?_
  intro W base args ds gs before hval hW hw
  exact law_post (P := Try.prog) (ok10.r rfl) (fun xs _ => ⟨by simp [g10, Φ, mLaw], by simp [g10, Φ, mLaw]⟩) laid_fnExactLagsOf (by rw [Try.params10]; decide +kernel) (by rw [Try.params10]; kernel_rfl) (tb := 4) rfl Try.underlying4
    (fun ds h => by rw [Try.params10] at h; match ds, h with | [d0, d1], _ => rfl) rfl hval hW hw (glob_none (by kernel_rfl) (by kernel_rfl) W)

theorem fnExactLagsOf_holds : Rows.FnExactLagsOfSaid :=
  OpenClaim.holds_of_wide 10 Try.f10 rfl rfl rfl rfl rfl rfl rfl ⟨rfl, rfl, rfl, rfl, rfl⟩ rfl rfl rfl rfl rfl (by kernel_rfl) Try.func10 (by kernel_rfl)
    (of_decide_eq_true (by kernel_rfl)) (by unfold Func.isWrapper; first | (rw [if_pos (by decide +kernel)]; kernel_rfl) | (rw [if_neg (by decide +kernel)]; exact ⟨rfl, rfl⟩))
    (fun os started H enc _ => lifted_fnExactLagsOf os started H enc)
end Go.Proofs.Ytpgpkomolheinaa

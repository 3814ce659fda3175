/-
  FnExactHeardOf: for every input it returns true, and its arguments read as they did. No condition.
-/
import Derived.Test.YtllhihloidkghaaS9
import Derived.Test.YtllhihloidkghaaVxd
import Derived.Test.YtllhihloidkghaaRows
set_option linter.unusedVariables false
set_option linter.unusedSimpArgs false
namespace Go.Proofs.Ytllhihloidkghaa
open Go.Vx Go.ChangeShapes Go.WideShapes Go.ChangeAt Go.RowKit

theorem own_fnExactHeardOf : ownKnob Try.prog.godebug = none := by kernel_rfl
theorem laid_fnExactHeardOf : laidOutB Try.prog = true := by kernel_rfl

set_option maxRecDepth 100000 in
theorem lifted_fnExactHeardOf (os : Os) (started : os.Started) (H : Type) (enc : TypeId × Value → H) :
    ReturnsInHanded {} Try.checked os 4 .any (Rows.fnExactHeardOfSpec.pre6 enc Try.prog Try.f4 Rows.fnExactHeardOfRow.domain false) (Rows.fnExactHeardOfSpec.post enc Try.prog Try.f4 false true false false) := by
  refine returns_sized (C := Try.checked) own_fnExactHeardOf started (by kernel_rfl) Try.func4
    (ChangeSpec.witness6 (enc := enc) (C := Try.checked) false ⟨#[], #[.slice none 0 0, .int .i64 0], []⟩ 8 (by kernel_rfl) (by kernel_rfl) (by kernel_rfl) (by kernel_rfl)) ?_
  intro W base args ds gs before hval hW hw
  exact law_post (P := Try.prog) (ok4.r rfl) (fun xs _ => ⟨by simp [g4, Φ, mLaw], by simp [g4, Φ, mLaw]⟩) laid_fnExactHeardOf (by rw [Try.params4]; decide +kernel) (by rw [Try.params4]; kernel_rfl) (tb := 4) rfl Try.underlying4
    (fun ds h => by rw [Try.params4] at h; match ds, h with | [d0, d1], _ => rfl) rfl hval hW hw (glob_none (by kernel_rfl) (by kernel_rfl) W)

theorem fnExactHeardOf_holds : Rows.FnExactHeardOfSaid :=
  OpenClaim.holds_of_wide 4 Try.f4 rfl rfl rfl rfl rfl rfl rfl ⟨rfl, rfl, rfl, rfl, rfl⟩ rfl rfl rfl rfl rfl (by kernel_rfl) Try.func4 (by kernel_rfl)
    (of_decide_eq_true (by kernel_rfl)) (by unfold Func.isWrapper; first | (rw [if_pos (by decide +kernel)]; kernel_rfl) | (rw [if_neg (by decide +kernel)]; exact ⟨rfl, rfl⟩))
    (fun os started H enc _ => lifted_fnExactHeardOf os started H enc)
end Go.Proofs.Ytllhihloidkghaa

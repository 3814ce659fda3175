/-
  FnExactToldOf: for every input it returns true, and its arguments read as they did. No condition.
-/
import Derived.Test.YtllhihloidkghaaS9
import Derived.Test.YtllhihloidkghaaVxd
import Derived.Test.YtllhihloidkghaaRows
set_option linter.unusedVariables false
set_option linter.unusedSimpArgs false
namespace Go.Proofs.Ytllhihloidkghaa
open Go.Vx Go.ChangeShapes Go.WideShapes Go.ChangeAt Go.RowKit

theorem own_fnExactToldOf : ownKnob Try.prog.godebug = none := by kernel_rfl
theorem laid_fnExactToldOf : laidOutB Try.prog = true := by kernel_rfl

set_option maxRecDepth 100000 in
theorem lifted_fnExactToldOf (os : Os) (started : os.Started) (H : Type) (enc : TypeId × Value → H) :
    ReturnsInHanded {} Try.checked os 3 .any (Rows.fnExactToldOfSpec.pre6 enc Try.prog Try.f3 Rows.fnExactToldOfRow.domain false) (Rows.fnExactToldOfSpec.post enc Try.prog Try.f3 false true false false) := by
  refine returns_sized (C := Try.checked) own_fnExactToldOf started (by kernel_rfl) Try.func3
    (ChangeSpec.witness6 (enc := enc) (C := Try.checked) false ⟨#[], #[.slice none 0 0], []⟩ 8 (by kernel_rfl) (by kernel_rfl) (by kernel_rfl) (by kernel_rfl)) ?_
  intro W base args ds gs before hval hW hw
  exact law_post (P := Try.prog) (ok3.r rfl) (fun xs _ => ⟨by simp [g3, Φ, mLaw], by simp [g3, Φ, mLaw]⟩) laid_fnExactToldOf (by rw [Try.params3]; decide +kernel) (by rw [Try.params3]; kernel_rfl) (tb := 4) rfl Try.underlying4
    (fun ds h => by rw [Try.params3] at h; match ds, h with | [d0], _ => rfl) rfl hval hW hw (glob_none (by kernel_rfl) (by kernel_rfl) W)

theorem fnExactToldOf_holds : Rows.FnExactToldOfSaid :=
  OpenClaim.holds_of_wide 3 Try.f3 rfl rfl rfl rfl rfl rfl rfl ⟨rfl, rfl, rfl, rfl, rfl⟩ rfl rfl rfl rfl rfl (by kernel_rfl) Try.func3 (by kernel_rfl)
    (of_decide_eq_true (by kernel_rfl)) (by unfold Func.isWrapper; first | (rw [if_pos (by decide +kernel)]; kernel_rfl) | (rw [if_neg (by decide +kernel)]; exact ⟨rfl, rfl⟩))
    (fun os started H enc _ => lifted_fnExactToldOf os started H enc)
end Go.Proofs.Ytllhihloidkghaa

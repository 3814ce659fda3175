/-
  FnExactAgrees: for every input it returns true, and its arguments read as they did. No condition.
-/
import Derived.Test.YtllhihloidkghaaGreatS9
import Derived.Test.YtllhihloidkghaaGreatVxd
import Derived.Test.YtllhihloidkghaaGreatRows
set_option linter.unusedVariables false
set_option linter.unusedSimpArgs false
namespace Go.Proofs.YtllhihloidkghaaGreat
open Go.Vx Go.ChangeShapes Go.WideShapes Go.ChangeAt Go.RowKit

theorem own_fnExactAgrees : ownKnob Tryz.prog.godebug = none := by kernel_rfl
theorem laid_fnExactAgrees : laidOutB Tryz.prog = true := by kernel_rfl

set_option maxRecDepth 100000 in
theorem lifted_fnExactAgrees (os : Os) (started : os.Started) (H : Type) (enc : TypeId × Value → H) :
    ReturnsInHanded {} Tryz.checked os 3 .any (Rows.fnExactAgreesSpec.pre6 enc Tryz.prog Tryz.f3 Rows.fnExactAgreesRow.domain false) (Rows.fnExactAgreesSpec.post enc Tryz.prog Tryz.f3 false true false false) := by
  refine returns_sized (C := Tryz.checked) own_fnExactAgrees started (by kernel_rfl) Tryz.func3
    (ChangeSpec.witness6 (enc := enc) (C := Tryz.checked) false ⟨#[], #[.agg #[.int .i64 0, .int .i64 0, .int .i64 0, .int .i64 0, .int .i64 0, .slice none 0 0, .int .i64 0, .int .i64 0, .slice none 0 0, .slice none 0 0, .slice none 0 0, .int .i64 0, .slice none 0 0, .int .i64 0, .slice none 0 0, .slice none 0 0, .slice none 0 0, .slice none 0 0, .slice none 0 0], .agg #[.int .i64 0, .int .i64 0, .int .i64 0, .int .i64 0, .int .i64 0, .slice none 0 0, .slice none 0 0, .slice none 0 0, .slice none 0 0, .slice none 0 0, .int .i64 0]], []⟩ 8 (by kernel_rfl) (by kernel_rfl) (by kernel_rfl) (by kernel_rfl)) ?_
  intro W base args ds gs before hval hW hw
  exact law_post (P := Tryz.prog) (ok3.r rfl) (fun xs _ => ⟨by simp [g3, Φ, mLaw], by simp [g3, Φ, mLaw]⟩) laid_fnExactAgrees (by rw [Tryz.params3]; decide +kernel) (by rw [Tryz.params3]; kernel_rfl) (tb := 4) rfl Tryz.underlying4
    (fun ds h => by rw [Tryz.params3] at h; match ds, h with | [d0, d1], _ => rfl) rfl hval hW hw (glob_none (by kernel_rfl) (by kernel_rfl) W)

theorem fnExactAgrees_holds : Rows.FnExactAgreesSaid :=
  OpenClaim.holds_of_wide 3 Tryz.f3 rfl rfl rfl rfl rfl rfl rfl ⟨rfl, rfl, rfl, rfl, rfl⟩ rfl rfl rfl rfl rfl (by kernel_rfl) Tryz.func3 (by kernel_rfl)
    (of_decide_eq_true (by kernel_rfl)) (by unfold Func.isWrapper; first | (rw [if_pos (by decide +kernel)]; kernel_rfl) | (rw [if_neg (by decide +kernel)]; exact ⟨rfl, rfl⟩))
    (fun os started H enc _ => lifted_fnExactAgrees os started H enc)
end Go.Proofs.YtllhihloidkghaaGreat

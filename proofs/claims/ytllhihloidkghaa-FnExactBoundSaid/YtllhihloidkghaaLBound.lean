/-
  FnExactBound: for every input it returns true, and its arguments read as they did. No condition.
-/
import Derived.Test.YtllhihloidkghaaS2
import Derived.Test.YtllhihloidkghaaVxc
import Derived.Test.YtllhihloidkghaaRows
namespace Go.Proofs.Ytllhihloidkghaa
open Go.Vx Go.ChangeShapes Go.WideShapes Go.ChangeAt Go.RowKit

theorem own_fnExactBound : ownKnob Try.prog.godebug = none := by kernel_rfl
theorem laid_fnExactBound : laidOutB Try.prog = true := by kernel_rfl

set_option maxRecDepth 100000 in
theorem lifted_fnExactBound (os : Os) (started : os.Started) (H : Type) (enc : TypeId × Value → H) :
    ReturnsInHanded {} Try.checked os 5 .any (Rows.fnExactBoundSpec.pre6 enc Try.prog Try.f5 Rows.fnExactBoundRow.domain false) (Rows.fnExactBoundSpec.post enc Try.prog Try.f5 false true false false) := by
  refine returns_sized (C := Try.checked) own_fnExactBound started (by kernel_rfl) Try.func5
    (ChangeSpec.witness6 (enc := enc) (C := Try.checked) false ⟨#[], #[.agg #[.int .i64 0, .int .i64 0, .int .i64 0, .int .i64 0, .int .i64 0, .slice none 0 0, .int .i64 0, .int .i64 0, .slice none 0 0, .slice none 0 0, .slice none 0 0, .int .i64 0, .slice none 0 0, .int .i64 0, .slice none 0 0, .slice none 0 0, .slice none 0 0, .slice none 0 0, .slice none 0 0]], []⟩ 8 (by kernel_rfl) (by kernel_rfl) (by kernel_rfl) (by kernel_rfl)) ?_
  intro W base args ds gs before hval hW hw
  exact law_post (P := Try.prog) ok5.1 (fun xs _ => ⟨by simp [g5, Φ, mLaw], by simp [g5, Φ, mLaw]⟩) laid_fnExactBound (by rw [Try.params5]; decide +kernel) (by rw [Try.params5]; kernel_rfl) (tb := 4) rfl Try.underlying4
    (fun ds h => by rw [Try.params5] at h; match ds, h with | [d0], _ => rfl) rfl hval hW hw

theorem fnExactBound_holds : Rows.FnExactBoundSaid :=
  OpenClaim.holds_of_wide 5 Try.f5 rfl rfl rfl rfl rfl rfl rfl ⟨rfl, rfl, rfl, rfl, rfl⟩ rfl rfl rfl rfl rfl (by kernel_rfl) Try.func5 (by kernel_rfl)
    (of_decide_eq_true (by kernel_rfl)) (by unfold Func.isWrapper; first | (rw [if_pos (by decide +kernel)]; kernel_rfl) | (rw [if_neg (by decide +kernel)]; exact ⟨rfl, rfl⟩))
    (fun os started H enc _ => lifted_fnExactBound os started H enc)
end Go.Proofs.Ytllhihloidkghaa

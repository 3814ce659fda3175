/-
  FnExactFeedOf: for every input it returns true, and its arguments read as they did. No condition.
-/
import Derived.Test.YtllhihloidkghaaS2
import Derived.Test.YtllhihloidkghaaVxc
import Derived.Test.YtllhihloidkghaaRows
namespace Go.Proofs.Ytllhihloidkghaa
open Go.Vx Go.ChangeShapes Go.WideShapes Go.ChangeAt Go.RowKit

theorem own_fnExactFeedOf : ownKnob Try.prog.godebug = none := by kernel_rfl
theorem laid_fnExactFeedOf : laidOutB Try.prog = true := by kernel_rfl

set_option maxRecDepth 100000 in
theorem lifted_fnExactFeedOf (os : Os) (started : os.Started) (H : Type) (enc : TypeId × Value → H) :
    ReturnsInHanded {} Try.checked os 7 .any (Rows.fnExactFeedOfSpec.pre6 enc Try.prog Try.f7 Rows.fnExactFeedOfRow.domain false) (Rows.fnExactFeedOfSpec.post enc Try.prog Try.f7 false true false false) := by
  refine returns_sized (C := Try.checked) own_fnExactFeedOf started (by kernel_rfl) Try.func7
    (ChangeSpec.witness6 (enc := enc) (C := Try.checked) false ⟨#[], #[.agg #[.int .i64 0, .int .i64 0, .int .i64 0, .int .i64 0, .int .i64 0, .slice none 0 0, .int .i64 0, .int .i64 0, .slice none 0 0, .slice none 0 0, .slice none 0 0, .int .i64 0, .slice none 0 0, .int .i64 0, .slice none 0 0, .slice none 0 0, .slice none 0 0, .slice none 0 0, .slice none 0 0]], []⟩ 8 (by kernel_rfl) (by kernel_rfl) (by kernel_rfl) (by kernel_rfl)) ?_
  intro W base args ds gs before hval hW hw
  exact law_post (P := Try.prog) (ok7.r rfl) (fun xs _ => ⟨by simp [g7, Φ, mLaw], by simp [g7, Φ, mLaw]⟩) laid_fnExactFeedOf (by rw [Try.params7]; decide +kernel) (by rw [Try.params7]; kernel_rfl) (tb := 4) rfl Try.underlying4
    (fun ds h => by rw [Try.params7] at h; match ds, h with | [d0], _ => rfl) rfl hval hW hw (glob_none (by kernel_rfl) (by kernel_rfl) W)

theorem fnExactFeedOf_holds : Rows.FnExactFeedOfSaid :=
  OpenClaim.holds_of_wide 7 Try.f7 rfl rfl rfl rfl rfl rfl rfl ⟨rfl, rfl, rfl, rfl, rfl⟩ rfl rfl rfl rfl rfl (by kernel_rfl) Try.func7 (by kernel_rfl)
    (of_decide_eq_true (by kernel_rfl)) (by unfold Func.isWrapper; first | (rw [if_pos (by decide +kernel)]; kernel_rfl) | (rw [if_neg (by decide +kernel)]; exact ⟨rfl, rfl⟩))
    (fun os started H enc _ => lifted_fnExactFeedOf os started H enc)
end Go.Proofs.Ytllhihloidkghaa

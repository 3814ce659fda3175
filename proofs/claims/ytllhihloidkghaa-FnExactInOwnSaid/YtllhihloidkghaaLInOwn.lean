/-
  FnExactInOwn: for every input it returns true, and its arguments read as they did. No condition.
-/
import Derived.Test.YtllhihloidkghaaS4
import Derived.Test.YtllhihloidkghaaVxc
import Derived.Test.YtllhihloidkghaaRows
namespace Go.Proofs.Ytllhihloidkghaa
open Go.Vx Go.ChangeShapes Go.WideShapes Go.ChangeAt Go.RowKit

theorem own_fnExactInOwn : ownKnob Try.prog.godebug = none := by kernel_rfl
theorem laid_fnExactInOwn : laidOutB Try.prog = true := by kernel_rfl

set_option maxRecDepth 100000 in
theorem lifted_fnExactInOwn (os : Os) (started : os.Started) (H : Type) (enc : TypeId × Value → H) :
    ReturnsInHanded {} Try.checked os 6 .any (Rows.fnExactInOwnSpec.pre6 enc Try.prog Try.f6 Rows.fnExactInOwnRow.domain false) (Rows.fnExactInOwnSpec.post enc Try.prog Try.f6 false true false false) := by
  refine returns_sized (C := Try.checked) own_fnExactInOwn started (by kernel_rfl) Try.func6
    (ChangeSpec.witness6 (enc := enc) (C := Try.checked) false ⟨#[], #[.agg #[.int .i64 0, .int .i64 0, .int .i64 0, .int .i64 0, .int .i64 0, .slice none 0 0, .int .i64 0, .int .i64 0, .slice none 0 0, .slice none 0 0, .slice none 0 0, .int .i64 0, .slice none 0 0, .int .i64 0, .slice none 0 0, .slice none 0 0, .slice none 0 0, .slice none 0 0, .slice none 0 0]], []⟩ 8 (by kernel_rfl) (by kernel_rfl) (by kernel_rfl) (by kernel_rfl)) ?_
  intro W base args ds gs before hval hW hw
  exact law_post (P := Try.prog) ok6.1 (fun xs _ => ⟨by simp [g6, Φ, mLaw], by simp [g6, Φ, mLaw]⟩) laid_fnExactInOwn (by rw [Try.params6]; decide +kernel) (by rw [Try.params6]; kernel_rfl) (tb := 4) rfl Try.underlying4
    (fun ds h => by rw [Try.params6] at h; match ds, h with | [d0], _ => rfl) rfl hval hW hw

theorem fnExactInOwn_holds : Rows.FnExactInOwnSaid :=
  OpenClaim.holds_of_wide 6 Try.f6 rfl rfl rfl rfl rfl rfl rfl ⟨rfl, rfl, rfl, rfl, rfl⟩ rfl rfl rfl rfl rfl (by kernel_rfl) Try.func6 (by kernel_rfl)
    (of_decide_eq_true (by kernel_rfl)) (by unfold Func.isWrapper; first | (rw [if_pos (by decide +kernel)]; kernel_rfl) | (rw [if_neg (by decide +kernel)]; exact ⟨rfl, rfl⟩))
    (fun os started H enc _ => lifted_fnExactInOwn os started H enc)
end Go.Proofs.Ytllhihloidkghaa

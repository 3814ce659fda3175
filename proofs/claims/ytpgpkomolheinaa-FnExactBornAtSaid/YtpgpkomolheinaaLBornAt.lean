/-
  FnExactBornAt: for every input it returns true, and its arguments read as they did. No condition.
-/
import Derived.Test.YtpgpkomolheinaaS9
import Derived.Test.YtpgpkomolheinaaVxd
import Derived.Test.YtpgpkomolheinaaRows
set_option linter.unusedVariables false
set_option linter.unusedSimpArgs false
namespace Go.Proofs.Ytpgpkomolheinaa
open Go.Vx Go.ChangeShapes Go.WideShapes Go.ChangeAt Go.RowKit

theorem own_fnExactBornAt : ownKnob Try.prog.godebug = none := by kernel_rfl
theorem laid_fnExactBornAt : laidOutB Try.prog = true := by kernel_rfl

set_option maxRecDepth 100000 in
theorem lifted_fnExactBornAt (os : Os) (started : os.Started) (H : Type) (enc : TypeId × Value → H) :
    ReturnsInHanded {} Try.checked os 11 .any (Rows.fnExactBornAtSpec.pre6 enc Try.prog Try.f11 Rows.fnExactBornAtRow.domain false) (Rows.fnExactBornAtSpec.post enc Try.prog Try.f11 false true false false) := by
  refine returns_sized (C := Try.checked) own_fnExactBornAt started (by kernel_rfl) Try.func11
    (ChangeSpec.witness6 (enc := enc) (C := Try.checked) false ⟨#[], #[.slice none 0 0, .int .i64 0], []⟩ 8 (by kernel_rfl) (by kernel_rfl) (by kernel_rfl) (by kernel_rfl)) ?_
  intro W base args ds gs before hval hW hw
  exact law_post (P := Try.prog) (ok11.r rfl) (fun xs _ => ⟨by simp [g11, Φ, mLaw], by simp [g11, Φ, mLaw]⟩) laid_fnExactBornAt (by rw [Try.params11]; decide +kernel) (by rw [Try.params11]; kernel_rfl) (tb := 4) rfl Try.underlying4
    (fun ds h => by rw [Try.params11] at h; match ds, h with | [d0, d1], _ => rfl) rfl hval hW hw (glob_none (by kernel_rfl) (by kernel_rfl) W)

theorem fnExactBornAt_holds : Rows.FnExactBornAtSaid :=
  OpenClaim.holds_of_wide 11 Try.f11 rfl rfl rfl rfl rfl rfl rfl ⟨rfl, rfl, rfl, rfl, rfl⟩ rfl rfl rfl rfl rfl (by kernel_rfl) Try.func11 (by kernel_rfl)
    (of_decide_eq_true (by kernel_rfl)) (by unfold Func.isWrapper; first | (rw [if_pos (by decide +kernel)]; kernel_rfl) | (rw [if_neg (by decide +kernel)]; exact ⟨rfl, rfl⟩))
    (fun os started H enc _ => lifted_fnExactBornAt os started H enc)
end Go.Proofs.Ytpgpkomolheinaa

/-
  FnExactLastOf: for every input it returns true, and its arguments read as they did. No condition.
-/
import Derived.Test.YtpgpkomolheinaaS6
import Derived.Test.YtpgpkomolheinaaVxd
import Derived.Test.YtpgpkomolheinaaRows
set_option linter.unusedVariables false
set_option linter.unusedSimpArgs false
namespace Go.Proofs.Ytpgpkomolheinaa
open Go.Vx Go.ChangeShapes Go.WideShapes Go.ChangeAt Go.RowKit

theorem own_fnExactLastOf : ownKnob Try.prog.godebug = none := by kernel_rfl
theorem laid_fnExactLastOf : laidOutB Try.prog = true := by kernel_rfl

set_option maxRecDepth 100000 in
theorem lifted_fnExactLastOf (os : Os) (started : os.Started) (H : Type) (enc : TypeId × Value → H) :
    ReturnsInHanded {} Try.checked os 12 .any (Rows.fnExactLastOfSpec.pre6 enc Try.prog Try.f12 Rows.fnExactLastOfRow.domain false) (Rows.fnExactLastOfSpec.post enc Try.prog Try.f12 false true false false) := by
  refine returns_sized (C := Try.checked) own_fnExactLastOf started (by kernel_rfl) Try.func12
    (ChangeSpec.witness6 (enc := enc) (C := Try.checked) false ⟨#[], #[.slice none 0 0], []⟩ 8 (by kernel_rfl) (by kernel_rfl) (by kernel_rfl) (by kernel_rfl)) ?_
  intro W base args ds gs before hval hW hw
  exact law_post (P := Try.prog) (ok12.r rfl) (fun xs _ => ⟨by simp [g12, Φ, mLaw], by simp [g12, Φ, mLaw]⟩) laid_fnExactLastOf (by rw [Try.params12]; decide +kernel) (by rw [Try.params12]; kernel_rfl) (tb := 4) rfl Try.underlying4
    (fun ds h => by rw [Try.params12] at h; match ds, h with | [d0], _ => rfl) rfl hval hW hw (glob_none (by kernel_rfl) (by kernel_rfl) W)

theorem fnExactLastOf_holds : Rows.FnExactLastOfSaid :=
  OpenClaim.holds_of_wide 12 Try.f12 rfl rfl rfl rfl rfl rfl rfl ⟨rfl, rfl, rfl, rfl, rfl⟩ rfl rfl rfl rfl rfl (by kernel_rfl) Try.func12 (by kernel_rfl)
    (of_decide_eq_true (by kernel_rfl)) (by unfold Func.isWrapper; first | (rw [if_pos (by decide +kernel)]; kernel_rfl) | (rw [if_neg (by decide +kernel)]; exact ⟨rfl, rfl⟩))
    (fun os started H enc _ => lifted_fnExactLastOf os started H enc)
end Go.Proofs.Ytpgpkomolheinaa

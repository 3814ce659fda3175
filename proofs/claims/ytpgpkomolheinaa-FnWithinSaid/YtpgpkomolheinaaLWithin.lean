/-
  FnWithin: for every input it returns true, and its arguments read as they did. No condition.
-/
import Derived.Test.YtpgpkomolheinaaS12
import Derived.Test.YtpgpkomolheinaaVxd
import Derived.Test.YtpgpkomolheinaaRows
set_option linter.unusedVariables false
set_option linter.unusedSimpArgs false
namespace Go.Proofs.Ytpgpkomolheinaa
open Go.Vx Go.ChangeShapes Go.WideShapes Go.ChangeAt Go.RowKit

theorem own_fnWithin : ownKnob Try.prog.godebug = none := by kernel_rfl
theorem laid_fnWithin : laidOutB Try.prog = true := by kernel_rfl

set_option maxRecDepth 100000 in
theorem lifted_fnWithin (os : Os) (started : os.Started) (H : Type) (enc : TypeId × Value → H) :
    ReturnsInHanded {} Try.checked os 9 .any (Rows.fnWithinSpec.pre6 enc Try.prog Try.f9 Rows.fnWithinRow.domain false) (Rows.fnWithinSpec.post enc Try.prog Try.f9 false true false false) := by
  refine returns_sized (C := Try.checked) own_fnWithin started (by kernel_rfl) Try.func9
    (ChangeSpec.witness6 (enc := enc) (C := Try.checked) false ⟨#[], #[.slice none 0 0], []⟩ 8 (by kernel_rfl) (by kernel_rfl) (by kernel_rfl) (by kernel_rfl)) ?_
  intro W base args ds gs before hval hW hw
  exact law_post (P := Try.prog) ok9 (fun xs _ => ⟨by simp [mLaw], by simp [mLaw]⟩) laid_fnWithin (by rw [Try.params9]; decide +kernel) (by rw [Try.params9]; kernel_rfl) (tb := 4) rfl Try.underlying4
    (fun ds h => by rw [Try.params9] at h; match ds, h with | [d0], _ => rfl) rfl hval hW hw (glob_none (by kernel_rfl) (by kernel_rfl) W)

theorem fnWithin_holds : Rows.FnWithinSaid :=
  OpenClaim.holds_of_wide 9 Try.f9 rfl rfl rfl rfl rfl rfl rfl ⟨rfl, rfl, rfl, rfl, rfl⟩ rfl rfl rfl rfl rfl (by kernel_rfl) Try.func9 (by kernel_rfl)
    (of_decide_eq_true (by kernel_rfl)) (by unfold Func.isWrapper; first | (rw [if_pos (by decide +kernel)]; kernel_rfl) | (rw [if_neg (by decide +kernel)]; exact ⟨rfl, rfl⟩))
    (fun os started H enc _ => lifted_fnWithin os started H enc)
end Go.Proofs.Ytpgpkomolheinaa


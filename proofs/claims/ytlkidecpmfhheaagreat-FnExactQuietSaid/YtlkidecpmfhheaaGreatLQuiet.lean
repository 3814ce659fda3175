import Derived.Test.YtlkidecpmfhheaaGreatY19
import Derived.Test.YtlkidecpmfhheaaGreatVxf
import Derived.Test.YtlkidecpmfhheaaGreatJLQuiet
import Derived.Test.YtlkidecpmfhheaaGreatRows
set_option linter.all false
namespace Go.Proofs.YtlkidecpmfhheaaGreat
open Go.Vx Go.ChangeShapes Go.WideShapes Go.ChangeAt Go.RowKit
theorem own_fnExactQuiet : ownKnob Tryz.prog.godebug = none := by kernel_rfl
theorem laid_fnExactQuiet : laidOutB Tryz.prog = true := by kernel_rfl
theorem glob_fnExactQuiet {W : World} (hsh : W.ShapedOpen Tryz.prog) : glob Tryz.prog W :=
 glob_max (by kernel_rfl) fun g hg => by
   obtain rfl : g = 0 := Option.some.inj ((show Tryz.prog.globalNamed "internal/bytealg.MaxLen" = some 0 by kernel_rfl).symm.trans hg) |>.symm
   exact cell_of_shapedOpen_int (P := Tryz.prog) (g := 0) (t := 3) (zero := #[.int .i64 0]) hsh (of_decide_eq_true (by kernel_rfl)) (by kernel_rfl) rfl (by kernel_rfl) (by kernel_rfl) Tryz.underlying3
set_option maxRecDepth 100000 in
theorem lifted_fnExactQuiet (os : Os) (started : os.Started) (H : Type) (enc : TypeId × Value → H) :
   ReturnsInHanded {} Tryz.checked os 3 .any (Rows.fnExactQuietSpec.pre6 enc Tryz.prog Tryz.f3 Rows.fnExactQuietRow.domain false) (Rows.fnExactQuietSpec.post enc Tryz.prog Tryz.f3 false true false false) := by
 refine returns_shaped (C := Tryz.checked) own_fnExactQuiet started (by kernel_rfl) Tryz.func3
   (ChangeSpec.witness6 (enc := enc) (C := Tryz.checked) false ⟨#[], #[.agg #[.int .i64 0, .int .i64 0, .int .i64 0, .int .i64 0, .int .i64 0, .slice none 0 0, .int .i64 0, .int .i64 0, .slice none 0 0, .slice none 0 0, .slice none 0 0, .int .i64 0, .slice none 0 0, .int .i64 0, .slice none 0 0, .slice none 0 0, .slice none 0 0, .slice none 0 0, .slice none 0 0]], []⟩ 8 (by kernel_rfl) (by kernel_rfl) (by kernel_rfl) (by kernel_rfl)) ?_
 intro W base args ds gs before hval hW hw hsh
 exact law_post (P := Tryz.prog) (ok3.r rfl) (fun xs _ => ⟨by simp [g3, Φ3, mLaw], by simp [g3, Φ3, mLaw]⟩) laid_fnExactQuiet (by rw [Tryz.params3]; decide +kernel) (by rw [Tryz.params3]; kernel_rfl) (tb := 4) rfl Tryz.underlying4
   (fun ds h => by rw [Tryz.params3] at h; match ds, h with | [d0], _ => rfl) rfl hval hW hw (glob_fnExactQuiet hsh)
theorem fnExactQuiet_holds : Rows.FnExactQuietSaid :=
 OpenClaim.holds_of_wide 3 Tryz.f3 rfl rfl rfl rfl rfl rfl rfl ⟨rfl, rfl, rfl, rfl, rfl⟩ rfl rfl rfl rfl rfl (by as_aux_lemma => kernel_rfl) Tryz.func3 joined_fnExactQuiet
   (by as_aux_lemma => exact of_decide_eq_true (by kernel_rfl)) (by as_aux_lemma => unfold Func.isWrapper; first | (rw [if_pos (by decide +kernel)]; kernel_rfl) | (rw [if_neg (by decide +kernel)]; exact ⟨rfl, rfl⟩))
   (fun os started H enc _ => lifted_fnExactQuiet os started H enc)
end Go.Proofs.YtlkidecpmfhheaaGreat

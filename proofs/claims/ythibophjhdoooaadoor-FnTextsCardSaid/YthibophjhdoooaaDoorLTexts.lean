/-
  FnTexts: for every input it returns true, and its arguments read as they did. The listed variables start as the program's text lays them (the card ties them).
-/
import Derived.Test.YthibophjhdoooaaDoorD8
import Derived.Test.YthibophjhdoooaaDoorVxf
import Derived.Test.YthibophjhdoooaaDoorRows
import Derived.Test.YthibophjhdoooaaDoorCards
import Derived.Test.YthibophjhdoooaaDoorTie
import Derived.ProofKit
import Derived.OpenShut
import Derived.LaidMore
import Derived.Lay
import Derived.SevenTiedAt
import Derived.Stop.Joined
set_option linter.unusedVariables false
set_option linter.unusedSimpArgs false
namespace Go.Proofs.YthibophjhdoooaaDoor
open Go.Vx Go.ChangeShapes Go.WideShapes Go.ChangeAt Go.RowKit

theorem own_fnTexts : ownKnob Tryd.prog.godebug = none := by kernel_rfl
theorem laid_fnTexts : laidOutB Tryd.prog = true := by kernel_rfl

theorem glob_fnTexts {W : World} (hL : laidMetH Tryd.prog Rows.fnTextsRow.laid W) (hsh : W.ShapedOpen Tryd.prog) : glob Tryd.prog W :=
  glob_laid hL (by kernel_rfl) (by simp [Rows.fnTextsRow, Rows.laid_internal_strconv_uint64pow10, Lib.tabData, pow10s, List.range_succ]) (g0 := 1) (t0 := 102) (e0 := 96) (n0 := 20) (by kernel_rfl) (by kernel_rfl) Tryd.underlying102 Tryd.underlying96 (by kernel_rfl) (by kernel_rfl) fun g hg => by
    obtain rfl : g = 0 := Option.some.inj ((show Tryd.prog.globalNamed "internal/bytealg.MaxLen" = some 0 by kernel_rfl).symm.trans hg) |>.symm
    exact cell_of_shapedOpen_int (P := Tryd.prog) (g := 0) (t := 3) (zero := #[.int .i64 0]) hsh (of_decide_eq_true (by kernel_rfl)) (by kernel_rfl) rfl (by kernel_rfl) (by kernel_rfl) Tryd.underlying3

set_option maxRecDepth 100000 in
theorem lifted_fnTexts (os : Os) (started : os.Started) (H : Type) (enc : TypeId × Value → H) :
    ReturnsInHanded {} Tryd.checked os 3 .any (fun w args => (Rows.fnTextsSpec.pre enc Tryd.prog Tryd.f3 Rows.fnTextsRow.domain false w args ∧ laidMetH Tryd.prog Rows.fnTextsRow.laid w) ∧ sizedMet enc Tryd.prog Tryd.f3 (OpenSpec.ofChange Rows.fnTextsSpec) false w args)
      (Rows.fnTextsSpec.post enc Tryd.prog Tryd.f3 false true false false) := by
  refine returns_laid (C := Tryd.checked) own_fnTexts started (by kernel_rfl) Tryd.func3
    (ChangeSpec.witness_shaped (enc := enc) (C := Tryd.checked) (os := os) (X := fun w _ => laidMetH Tryd.prog Rows.fnTextsRow.laid w) false (World.laidAll Tryd.prog os Rows.fnTextsRow.laid) #[.slice none 0 0] 8 (World.laidAll_os _ _ _)
      (World.shaped_of_ZipB (by kernel_rfl) (by kernel_rfl)) (by kernel_rfl) (by kernel_rfl) (by kernel_rfl)
      (by rw [MakeChecks.laidMetH_plain _ _ _ (by kernel_rfl)]; exact laidMet_laidAll _ (by kernel_rfl) (by kernel_rfl))) ?_
  intro W base args ds gs before hval hW hw hL hsh
  exact law_post (P := Tryd.prog) ok3 (fun xs _ => ⟨by simp [mLaw], by simp [mLaw]⟩) laid_fnTexts (by rw [Tryd.params3]; decide +kernel) (by rw [Tryd.params3]; kernel_rfl) (tb := 4) rfl Tryd.underlying4
    (fun ds h => by rw [Tryd.params3] at h; match ds, h with | [d0], _ => rfl) rfl hval hW hw (glob_fnTexts hL hsh)

theorem fnTexts_said : Rows.FnTextsSaid :=
  OpenClaim.holds_of_wide 3 Tryd.f3 rfl rfl rfl rfl rfl rfl rfl ⟨rfl, rfl, rfl, rfl, rfl⟩ rfl rfl rfl rfl rfl (by kernel_rfl) Tryd.func3 (by kernel_rfl)
    (of_decide_eq_true (by kernel_rfl)) (by unfold Func.isWrapper; first | (rw [if_pos (by decide +kernel)]; kernel_rfl) | (rw [if_neg (by decide +kernel)]; exact ⟨rfl, rfl⟩))
    (fun os started H enc _ => lifted_fnTexts os started H enc)

theorem fnTexts_holds : Rows.FnTextsCardSaid :=
  Claim7.holds_tied_plain_at .later [] [.data, .data, .data] true Rows.fnTextsCard.stood.harness false
    fnTexts_said (fun _ h => by cases h) (by kernel_rfl) (fun _ h => by cases h) fnTexts_row_tie rfl ⟨rfl, rfl⟩ (by kernel_rfl) rfl
    (fun f fn hf hfn => by
      obtain rfl : f = 3 := Option.some.inj ((show Tryd.prog.funcNamed Rows.fnTextsRow.func = some 3 by kernel_rfl).symm.trans hf) |>.symm
      obtain rfl : fn = Tryd.f3 := (Option.some.inj (Tryd.func3.symm.trans hfn)).symm
      exact ⟨by kernel_rfl, fun j t ht => by
        rw [Tryd.params3] at ht
        have hm : t ∈ [22] := by simpa using Array.mem_of_getElem? ht
        have hall : ([22].all fun u => !Tryd.prog.wantsStandIn u) = true := by kernel_rfl
        exact (show Tryd.prog.wantsStandIn t = false by simpa using List.all_eq_true.1 hall t hm)⟩)
    (by kernel_rfl)
end Go.Proofs.YthibophjhdoooaaDoor


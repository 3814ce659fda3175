/-
  FnSaid: for every input it returns true, and its arguments read as they did. The listed variables start as the program's text lays them (the card ties them).
-/
import Derived.Test.YthibophjhdoooaaGreatDoorD12
import Derived.Test.YthibophjhdoooaaGreatDoorVxf
import Derived.Test.YthibophjhdoooaaGreatDoorRows
import Derived.Test.YthibophjhdoooaaGreatDoorCards
import Derived.Test.YthibophjhdoooaaGreatDoorTie
import Derived.ProofKit
import Derived.OpenShut
import Derived.LaidMore
import Derived.Lay
import Derived.SevenTiedAt
import Derived.Stop.Joined
set_option linter.unusedVariables false
set_option linter.unusedSimpArgs false
namespace Go.Proofs.YthibophjhdoooaaGreatDoor
open Go.Vx Go.ChangeShapes Go.WideShapes Go.ChangeAt Go.RowKit

theorem own_fnSaid : ownKnob Tryz.prog.godebug = none := by kernel_rfl
theorem laid_fnSaid : laidOutB Tryz.prog = true := by kernel_rfl

theorem glob_fnSaid {W : World} (hL : laidMetH Tryz.prog Rows.fnSaidRow.laid W) (hsh : W.ShapedOpen Tryz.prog) : glob Tryz.prog W :=
  glob_laid hL (by kernel_rfl) (by simp [Rows.fnSaidRow, Rows.laid_internal_strconv_uint64pow10, Lib.tabData, pow10s, List.range_succ]) (g0 := 1) (t0 := 127) (e0 := 120) (n0 := 20) (by kernel_rfl) (by kernel_rfl) Tryz.underlying127 Tryz.underlying120 (by kernel_rfl) (by kernel_rfl) fun g hg => by
    obtain rfl : g = 0 := Option.some.inj ((show Tryz.prog.globalNamed "internal/bytealg.MaxLen" = some 0 by kernel_rfl).symm.trans hg) |>.symm
    exact cell_of_shapedOpen_int (P := Tryz.prog) (g := 0) (t := 3) (zero := #[.int .i64 0]) hsh (of_decide_eq_true (by kernel_rfl)) (by kernel_rfl) rfl (by kernel_rfl) (by kernel_rfl) Tryz.underlying3

set_option maxRecDepth 100000 in
theorem lifted_fnSaid (os : Os) (started : os.Started) (H : Type) (enc : TypeId × Value → H) :
    ReturnsInHanded {} Tryz.checked os 3 .any (fun w args => (Rows.fnSaidSpec.pre enc Tryz.prog Tryz.f3 Rows.fnSaidRow.domain false w args ∧ laidMetH Tryz.prog Rows.fnSaidRow.laid w) ∧ sizedMet enc Tryz.prog Tryz.f3 (OpenSpec.ofChange Rows.fnSaidSpec) false w args)
      (Rows.fnSaidSpec.post enc Tryz.prog Tryz.f3 false true false false) := by
  refine returns_laid (C := Tryz.checked) own_fnSaid started (by kernel_rfl) Tryz.func3
    (ChangeSpec.witness_shaped (enc := enc) (C := Tryz.checked) (os := os) (X := fun w _ => laidMetH Tryz.prog Rows.fnSaidRow.laid w) false (World.laidAll Tryz.prog os Rows.fnSaidRow.laid) #[.slice none 0 0] 8 (World.laidAll_os _ _ _)
      (World.shaped_of_ZipB (by kernel_rfl) (by kernel_rfl)) (by kernel_rfl) (by kernel_rfl) (by kernel_rfl)
      (by rw [MakeChecks.laidMetH_plain _ _ _ (by kernel_rfl)]; exact laidMet_laidAll _ (by kernel_rfl) (by kernel_rfl))) ?_
  intro W base args ds gs before hval hW hw hL hsh
  exact law_post (P := Tryz.prog) ok3 (fun xs _ => ⟨by simp [mLaw], by simp [mLaw]⟩) laid_fnSaid (by rw [Tryz.params3]; decide +kernel) (by rw [Tryz.params3]; kernel_rfl) (tb := 4) rfl Tryz.underlying4
    (fun ds h => by rw [Tryz.params3] at h; match ds, h with | [d0], _ => rfl) rfl hval hW hw (glob_fnSaid hL hsh)

theorem fnSaid_said : Rows.FnSaidSaid :=
  OpenClaim.holds_of_wide 3 Tryz.f3 rfl rfl rfl rfl rfl rfl rfl ⟨rfl, rfl, rfl, rfl, rfl⟩ rfl rfl rfl rfl rfl (by kernel_rfl) Tryz.func3 (by kernel_rfl)
    (of_decide_eq_true (by kernel_rfl)) (by unfold Func.isWrapper; first | (rw [if_pos (by decide +kernel)]; kernel_rfl) | (rw [if_neg (by decide +kernel)]; exact ⟨rfl, rfl⟩))
    (fun os started H enc _ => lifted_fnSaid os started H enc)

theorem fnSaid_holds : Rows.FnSaidCardSaid :=
  Claim7.holds_tied_plain_at .later [] [.data, .data, .data, .data, .pinned] true Rows.fnSaidCard.stood.harness false
    fnSaid_said (fun _ h => by cases h) (by kernel_rfl) (fun _ h => by cases h) fnSaid_row_tie rfl ⟨rfl, rfl⟩ (by kernel_rfl) rfl
    (fun f fn hf hfn => by
      obtain rfl : f = 3 := Option.some.inj ((show Tryz.prog.funcNamed Rows.fnSaidRow.func = some 3 by kernel_rfl).symm.trans hf) |>.symm
      obtain rfl : fn = Tryz.f3 := (Option.some.inj (Tryz.func3.symm.trans hfn)).symm
      exact ⟨by kernel_rfl, fun j t ht => by
        rw [Tryz.params3] at ht
        have hm : t ∈ [22] := by simpa using Array.mem_of_getElem? ht
        have hall : ([22].all fun u => !Tryz.prog.wantsStandIn u) = true := by kernel_rfl
        exact (show Tryz.prog.wantsStandIn t = false by simpa using List.all_eq_true.1 hall t hm)⟩)
    (by kernel_rfl)
end Go.Proofs.YthibophjhdoooaaGreatDoor


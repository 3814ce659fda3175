/-
  FnExactParseAlarm: for every input it returns true, and its arguments read as they did. The listed variables start as the program's text lays them (the card ties them).
-/
import Derived.Test.YtmfbmdipchnmaaaDoorS15
import Derived.Test.YtmfbmdipchnmaaaDoorVxd
import Derived.Test.YtmfbmdipchnmaaaDoorRows
import Derived.Test.YtmfbmdipchnmaaaDoorCards
import Derived.Test.YtmfbmdipchnmaaaDoorTie
import Derived.ProofKit
import Derived.OpenShut
import Derived.LaidMore
import Derived.Lay
import Derived.SevenTiedAt
import Derived.Stop.Joined
set_option linter.unusedVariables false
set_option linter.unusedSimpArgs false
namespace Go.Proofs.YtmfbmdipchnmaaaDoor
open Go.Vx Go.ChangeShapes Go.WideShapes Go.ChangeAt Go.RowKit

theorem own_fnExactParseAlarm : ownKnob Tryd.prog.godebug = none := by kernel_rfl
theorem laid_fnExactParseAlarm : laidOutB Tryd.prog = true := by kernel_rfl

theorem glob_fnExactParseAlarm {W : World} (hL : laidMetH Tryd.prog Rows.fnExactParseAlarmRow.laid W) (hsh : W.ShapedOpen Tryd.prog) : glob Tryd.prog W :=
  glob_laid hL (by kernel_rfl) (by simp [Rows.fnExactParseAlarmRow, Rows.laid_internal_strconv_uint64pow10, Lib.tabData, pow10s, List.range_succ]) (g0 := 3) (t0 := 144) (e0 := 131) (n0 := 20) (by kernel_rfl) (by kernel_rfl) Tryd.underlying144 Tryd.underlying131 (by kernel_rfl) (by kernel_rfl) fun g hg => by
    obtain rfl : g = 0 := Option.some.inj ((show Tryd.prog.globalNamed "internal/bytealg.MaxLen" = some 0 by kernel_rfl).symm.trans hg) |>.symm
    exact cell_of_shapedOpen_int (P := Tryd.prog) (g := 0) (t := 3) (zero := #[.int .i64 0]) hsh (of_decide_eq_true (by kernel_rfl)) (by kernel_rfl) rfl (by kernel_rfl) (by kernel_rfl) Tryd.underlying3

set_option maxRecDepth 100000 in
theorem lifted_fnExactParseAlarm (os : Os) (started : os.Started) (H : Type) (enc : TypeId × Value → H) :
    ReturnsInHanded {} Tryd.checked os 5 .any (fun w args => (Rows.fnExactParseAlarmSpec.pre enc Tryd.prog Tryd.f5 Rows.fnExactParseAlarmRow.domain false w args ∧ laidMetH Tryd.prog Rows.fnExactParseAlarmRow.laid w) ∧ sizedMet enc Tryd.prog Tryd.f5 (OpenSpec.ofChange Rows.fnExactParseAlarmSpec) false w args)
      (Rows.fnExactParseAlarmSpec.post enc Tryd.prog Tryd.f5 false true false false) := by
  refine returns_laid (C := Tryd.checked) own_fnExactParseAlarm started (by kernel_rfl) Tryd.func5
    (ChangeSpec.witness_shaped (enc := enc) (C := Tryd.checked) (os := os) (X := fun w _ => laidMetH Tryd.prog Rows.fnExactParseAlarmRow.laid w) false (World.laidAll Tryd.prog os Rows.fnExactParseAlarmRow.laid) #[.string ⟨#[]⟩] 8 (World.laidAll_os _ _ _)
      (World.shaped_of_ZipB (by kernel_rfl) (by kernel_rfl)) (by kernel_rfl) (by kernel_rfl) (by kernel_rfl)
      (by rw [MakeChecks.laidMetH_plain _ _ _ (by kernel_rfl)]; exact laidMet_laidAll _ (by kernel_rfl) (by kernel_rfl))) ?_
  intro W base args ds gs before hval hW hw hL hsh
  exact law_post (P := Tryd.prog) (ok5.r rfl) (fun xs _ => ⟨by simp [g5, Φ, mLaw], by simp [g5, Φ, mLaw]⟩) laid_fnExactParseAlarm (by rw [Tryd.params5]; decide +kernel) (by rw [Tryd.params5]; kernel_rfl) (tb := 4) rfl Tryd.underlying4
    (fun ds h => by rw [Tryd.params5] at h; match ds, h with | [d0], _ => rfl) rfl hval hW hw (glob_fnExactParseAlarm hL hsh)

theorem fnExactParseAlarm_said : Rows.FnExactParseAlarmSaid :=
  OpenClaim.holds_of_wide 5 Tryd.f5 rfl rfl rfl rfl rfl rfl rfl ⟨rfl, rfl, rfl, rfl, rfl⟩ rfl rfl rfl rfl rfl (by kernel_rfl) Tryd.func5 (by kernel_rfl)
    (of_decide_eq_true (by kernel_rfl)) (by unfold Func.isWrapper; first | (rw [if_pos (by decide +kernel)]; kernel_rfl) | (rw [if_neg (by decide +kernel)]; exact ⟨rfl, rfl⟩))
    (fun os started H enc _ => lifted_fnExactParseAlarm os started H enc)

theorem fnExactParseAlarm_holds : Rows.FnExactParseAlarmCardSaid :=
  Claim7.holds_tied_plain_at .later [] [.data, .data, .data] true Rows.fnExactParseAlarmCard.stood.harness false
    fnExactParseAlarm_said (fun _ h => by cases h) (by kernel_rfl) (fun _ h => by cases h) fnExactParseAlarm_row_tie rfl ⟨rfl, rfl⟩ (by kernel_rfl) rfl
    (fun f fn hf hfn => by
      obtain rfl : f = 5 := Option.some.inj ((show Tryd.prog.funcNamed Rows.fnExactParseAlarmRow.func = some 5 by kernel_rfl).symm.trans hf) |>.symm
      obtain rfl : fn = Tryd.f5 := (Option.some.inj (Tryd.func5.symm.trans hfn)).symm
      exact ⟨by kernel_rfl, fun j t ht => by
        rw [Tryd.params5] at ht
        have hm : t ∈ [9] := by simpa using Array.mem_of_getElem? ht
        have hall : ([9].all fun u => !Tryd.prog.wantsStandIn u) = true := by kernel_rfl
        exact (show Tryd.prog.wantsStandIn t = false by simpa using List.all_eq_true.1 hall t hm)⟩)
    (by kernel_rfl)
end Go.Proofs.YtmfbmdipchnmaaaDoor

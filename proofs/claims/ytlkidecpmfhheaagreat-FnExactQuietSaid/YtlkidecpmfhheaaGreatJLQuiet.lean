import Derived.Test.YtlkidecpmfhheaaGreatRows
import Derived.ProofKit
set_option linter.all false
namespace Go.Proofs.YtlkidecpmfhheaaGreat
open Go.ChangeShapes Go.WideShapes Go.ChangeAt Go.RowKit
theorem and_tt {a b : Bool} (h : a = true) (h' : b = true) : (a && b) = true := by rw [h, h']; rfl
theorem jf0 : (Rows.fnExactQuietRow.wf (OpenSpec.ofChange Rows.fnExactQuietSpec)) = true := by kernel_rfl
theorem jf1 : (laidOutB Tryz.checked.prog) = true := by kernel_rfl
theorem jf2 : (mapsRowed Tryz.checked.prog) = true := by kernel_rfl
theorem jf3 : (Tryz.f3.params.all (Tryz.checked.prog.readableRec ·)) = true := by kernel_rfl
theorem jf4 : (namedTie Tryz.checked.prog Rows.fnExactQuietRow.named Rows.fnExactQuietSpec.vars) = true := by kernel_rfl
theorem jf5 : ((Rows.fnExactQuietRow.stops == [])) = true := by kernel_rfl
theorem jf6 : ((Tryz.checked.prog.stops == [])) = true := by kernel_rfl
theorem jf7 : ((Rows.fnExactQuietRow.knobs == [])) = true := by kernel_rfl
theorem jf8 : ((Tryz.checked.prog.stopKnobs == [])) = true := by kernel_rfl
theorem jf9 : ((Rows.fnExactQuietRow.inPlace == Tryz.checked.prog.inPlace 3)) = true := by kernel_rfl
theorem jf10 : ((Rows.fnExactQuietRow.unfollowed == Tryz.checked.prog.unfollowed 3)) = true := by kernel_rfl
theorem jf11 : ((Rows.fnExactQuietRow.recurses == Tryz.checked.prog.recurses 3)) = true := by kernel_rfl
theorem jf12 : ((Rows.fnExactQuietRow.named == Tryz.checked.prog.varsNamed 3)) = true := by kernel_rfl
theorem jf13 : ((Rows.fnExactQuietRow.maps == (Tryz.f3.params.toList ++ Rows.fnExactQuietSpec.plain.varTypes Tryz.checked.prog).any (Tryz.checked.prog.mapsRec ·))) = true := by kernel_rfl
theorem jf14 : ((Rows.fnExactQuietRow.ifaces == (Tryz.f3.params.toList ++ Rows.fnExactQuietSpec.plain.varTypes Tryz.checked.prog).any (Tryz.checked.prog.ifacesRec ·))) = true := by kernel_rfl
theorem jf15 : ((Rows.fnExactQuietRow.mapsOut == Tryz.checked.prog.mapsAmong Tryz.f3.resultTypes.toList)) = true := by kernel_rfl
theorem jf16 : ((Rows.fnExactQuietRow.loops == (Tryz.f3.params.toList ++ Rows.fnExactQuietSpec.plain.varTypes Tryz.checked.prog).any (Tryz.checked.prog.loopsFrom ·))) = true := by kernel_rfl
theorem jf17 : ((Rows.fnExactQuietRow.wideKeys == (Tryz.f3.params.toList ++ Rows.fnExactQuietSpec.plain.varTypes Tryz.checked.prog ++ Tryz.f3.resultTypes.toList).any (Tryz.checked.prog.wideKeysFrom ·))) = true := by kernel_rfl
theorem jf18 : (Rows.fnExactQuietSpec.vars.all (Tryz.checked.prog.varReadable ·)) = true := by kernel_rfl
theorem jf19 : (Tryz.f3.resultTypes.all (fun t => Tryz.checked.prog.readableRec t && decide (t < Tryz.checked.prog.types.size))) = true := by kernel_rfl
theorem jf20 : ((Rows.fnExactQuietRow.ifacesOut == Tryz.f3.resultTypes.toList.any (Tryz.checked.prog.ifacesRec ·))) = true := by kernel_rfl
theorem jf21 : ((Rows.fnExactQuietRow.loopsOut == Tryz.f3.resultTypes.toList.any (Tryz.checked.prog.loopsFrom ·))) = true := by kernel_rfl
theorem jf22 : ((Rows.fnExactQuietRow.plainKeys == Tryz.checked.prog.plainKeys)) = true := by kernel_rfl
theorem jf23 : (Rows.fnExactQuietRow.shortTexts.isNone) = true := by kernel_rfl
theorem jf24 : (Tryz.checked.prog.stopsHeard) = true := by kernel_rfl
theorem jf25 : (Tryz.checked.prog.mayEnter) = true := by kernel_rfl
theorem jf26 : ((Rows.fnExactQuietRow.lifted == Tryz.checked.prog.liftsFinal)) = true := by kernel_rfl
theorem jf27 : ((Tryz.checked.prog.make == some Rows.fnExactQuietRow.make)) = true := by kernel_rfl
theorem jf28 : ((Rows.fnExactQuietRow.kinds == (if Rows.fnExactQuietRow.domain.isEmpty then [] else Tryz.f3.params.toList.map fun t => match Tryz.checked.prog.underlying t with | some (.int k) => some k | _ => none))) = true := by kernel_rfl
theorem jf29 : ((Rows.fnExactQuietRow.pinned == Rows.fnExactQuietRow.pinnedBy)) = true := by kernel_rfl
theorem jf30 : ((Rows.fnExactQuietRow.veiled == (Tryz.f3.params.toList ++ Rows.fnExactQuietSpec.plain.varTypes Tryz.checked.prog ++ Tryz.f3.resultTypes.toList).any (Tryz.checked.prog.veiledRec ·))) = true := by kernel_rfl
theorem jf31 : (Rows.fnExactQuietRow.veiledFits Tryz.checked.prog Tryz.f3.params.toList (Tryz.f3.params.toList ++ Rows.fnExactQuietSpec.plain.varTypes Tryz.checked.prog ++ Tryz.f3.resultTypes.toList)) = true := by kernel_rfl
set_option maxRecDepth 100000 in
theorem joined_fnExactQuiet : joinedFacts Tryz.checked.prog 3 Tryz.f3 Rows.fnExactQuietSpec Rows.fnExactQuietRow = true := by
 unfold joinedFacts
 exact (and_tt (and_tt (and_tt (and_tt (and_tt (and_tt (and_tt (and_tt (and_tt (and_tt (and_tt (and_tt (and_tt (and_tt (and_tt (and_tt (and_tt (and_tt (and_tt (and_tt (and_tt (and_tt (and_tt (and_tt (and_tt (and_tt (and_tt (and_tt (and_tt (and_tt (and_tt jf0 jf1) jf2) jf3) jf4) jf5) jf6) jf7) jf8) jf9) jf10) jf11) jf12) jf13) jf14) jf15) jf16) jf17) jf18) jf19) jf20) jf21) jf22) jf23) jf24) jf25) jf26) jf27) jf28) jf29) jf30) jf31)
end Go.Proofs.YtlkidecpmfhheaaGreat

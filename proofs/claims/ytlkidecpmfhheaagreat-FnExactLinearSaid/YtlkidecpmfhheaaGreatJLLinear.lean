import Derived.Test.YtlkidecpmfhheaaGreatRows
import Derived.ProofKit
set_option linter.all false
namespace Go.Proofs.YtlkidecpmfhheaaGreat
open Go.ChangeShapes Go.WideShapes Go.ChangeAt Go.RowKit
theorem cE{a b:Bool}(h:a=true)(h':b=true):(a&&b)=true:=by rw[h,h'];rfl
theorem jf0:(Rows.fnExactLinearRow.wf (OpenSpec.ofChange Rows.fnExactLinearSpec))=true:=by kernel_rfl
theorem jf1:(laidOutB Tryz.checked.prog)=true:=by kernel_rfl
theorem jf2:(mapsRowed Tryz.checked.prog)=true:=by kernel_rfl
theorem jf3:(Tryz.f5.params.all (Tryz.checked.prog.readableRec ·))=true:=by kernel_rfl
theorem jf4:(namedTie Tryz.checked.prog Rows.fnExactLinearRow.named Rows.fnExactLinearSpec.vars)=true:=by kernel_rfl
theorem jf5:((Rows.fnExactLinearRow.stops==[]))=true:=by kernel_rfl
theorem jf6:((Tryz.checked.prog.stops==[]))=true:=by kernel_rfl
theorem jf7:((Rows.fnExactLinearRow.knobs==[]))=true:=by kernel_rfl
theorem jf8:((Tryz.checked.prog.stopKnobs==[]))=true:=by kernel_rfl
theorem jf9:((Rows.fnExactLinearRow.inPlace==Tryz.checked.prog.inPlace 5))=true:=by kernel_rfl
theorem ZC:((Rows.fnExactLinearRow.unfollowed==Tryz.checked.prog.unfollowed 5))=true:=by kernel_rfl
theorem YD:((Rows.fnExactLinearRow.recurses==Tryz.checked.prog.recurses 5))=true:=by kernel_rfl
theorem YV:((Rows.fnExactLinearRow.named==Tryz.checked.prog.varsNamed 5))=true:=by kernel_rfl
theorem YT:((Rows.fnExactLinearRow.maps==(Tryz.f5.params.toList++Rows.fnExactLinearSpec.plain.varTypes Tryz.checked.prog).any (Tryz.checked.prog.mapsRec ·)))=true:=by kernel_rfl
theorem XJ:((Rows.fnExactLinearRow.ifaces==(Tryz.f5.params.toList++Rows.fnExactLinearSpec.plain.varTypes Tryz.checked.prog).any (Tryz.checked.prog.ifacesRec ·)))=true:=by kernel_rfl
theorem ZS:((Rows.fnExactLinearRow.mapsOut==Tryz.checked.prog.mapsAmong Tryz.f5.resultTypes.toList))=true:=by kernel_rfl
theorem XZ:((Rows.fnExactLinearRow.loops==(Tryz.f5.params.toList++Rows.fnExactLinearSpec.plain.varTypes Tryz.checked.prog).any (Tryz.checked.prog.loopsFrom ·)))=true:=by kernel_rfl
theorem Yg:((Rows.fnExactLinearRow.wideKeys==(Tryz.f5.params.toList++Rows.fnExactLinearSpec.plain.varTypes Tryz.checked.prog++Tryz.f5.resultTypes.toList).any (Tryz.checked.prog.wideKeysFrom ·)))=true:=by kernel_rfl
theorem XH:(Rows.fnExactLinearSpec.vars.all (Tryz.checked.prog.varReadable ·))=true:=by kernel_rfl
theorem XO:(Tryz.f5.resultTypes.all (fun t=>Tryz.checked.prog.readableRec t&&decide (t<Tryz.checked.prog.types.size)))=true:=by kernel_rfl
theorem ZK:((Rows.fnExactLinearRow.ifacesOut==Tryz.f5.resultTypes.toList.any (Tryz.checked.prog.ifacesRec ·)))=true:=by kernel_rfl
theorem Y9:((Rows.fnExactLinearRow.loopsOut==Tryz.f5.resultTypes.toList.any (Tryz.checked.prog.loopsFrom ·)))=true:=by kernel_rfl
theorem XX:((Rows.fnExactLinearRow.plainKeys==Tryz.checked.prog.plainKeys))=true:=by kernel_rfl
theorem XE:(Rows.fnExactLinearRow.shortTexts.isNone)=true:=by kernel_rfl
theorem XP:(Tryz.checked.prog.stopsHeard)=true:=by kernel_rfl
theorem X8:(Tryz.checked.prog.mayEnter)=true:=by kernel_rfl
theorem XK:((Rows.fnExactLinearRow.lifted==Tryz.checked.prog.liftsFinal))=true:=by kernel_rfl
theorem Zw:((Tryz.checked.prog.make==some Rows.fnExactLinearRow.make))=true:=by kernel_rfl
theorem YB:((Rows.fnExactLinearRow.kinds==(if Rows.fnExactLinearRow.domain.isEmpty then[] else Tryz.f5.params.toList.map fun t=>match Tryz.checked.prog.underlying t with|some (.int k)=>some k|_=>none)))=true:=by kernel_rfl
theorem Zp:((Rows.fnExactLinearRow.pinned==Rows.fnExactLinearRow.pinnedBy))=true:=by kernel_rfl
theorem XU:((Rows.fnExactLinearRow.veiled==(Tryz.f5.params.toList++Rows.fnExactLinearSpec.plain.varTypes Tryz.checked.prog++Tryz.f5.resultTypes.toList).any (Tryz.checked.prog.veiledRec ·)))=true:=by kernel_rfl
theorem Yh:(Rows.fnExactLinearRow.veiledFits Tryz.checked.prog Tryz.f5.params.toList (Tryz.f5.params.toList++Rows.fnExactLinearSpec.plain.varTypes Tryz.checked.prog++Tryz.f5.resultTypes.toList))=true:=by kernel_rfl
set_option maxRecDepth 100000 in
theorem nW:joinedFacts Tryz.checked.prog 5 Tryz.f5 Rows.fnExactLinearSpec Rows.fnExactLinearRow=true:=by
 unfold joinedFacts
 exact(cE (cE (cE (cE (cE (cE (cE (cE (cE (cE (cE (cE (cE (cE (cE (cE (cE (cE (cE (cE (cE (cE (cE (cE (cE (cE (cE (cE (cE (cE (cE jf0 jf1) jf2) jf3) jf4) jf5) jf6) jf7) jf8) jf9) ZC) YD) YV) YT) XJ) ZS) XZ) Yg) XH) XO) ZK) Y9) XX) XE) XP) X8) XK) Zw) YB) Zp) XU) Yh)
end Go.Proofs.YtlkidecpmfhheaaGreat

import Derived.Test.YtlkidecpmfhheaaGreatZ1
import Derived.Test.YtlkidecpmfhheaaGreatVxf
import Derived.Test.YtlkidecpmfhheaaGreatJLLinear
import Derived.Test.YtlkidecpmfhheaaGreatRows
set_option linter.all false
namespace Go.Proofs.YtlkidecpmfhheaaGreat
open Go.Vx Go.ChangeShapes Go.WideShapes Go.ChangeAt Go.RowKit
theorem qq:ownKnob Tryz.prog.godebug=none:=by kernel_rfl
theorem pu:laidOutB Tryz.prog=true:=by kernel_rfl
theorem pT{W:World}(hsh:W.ShapedOpen Tryz.prog):glob Tryz.prog W:=
 HI (by kernel_rfl) fun g hg=>by
  obtain rfl:g=0:=Option.some.inj ((show Tryz.prog.globalNamed "internal/bytealg.MaxLen" =some 0 by kernel_rfl).symm.trans hg) |>.symm
  exact cell_of_shapedOpen_int (P:=Tryz.prog) (g:=0) (t:=3) (zero:= #[.int .i64 0]) hsh (of_decide_eq_true (by kernel_rfl)) (by kernel_rfl) rfl (by kernel_rfl) (by kernel_rfl) Tryz.underlying3
set_option maxRecDepth 100000 in
theorem nr(os:Os)(started:os.Started)(H:Type)(enc:TypeId×Value->H):
 ReturnsInHanded {} Tryz.checked os 5 .any (Rows.fnExactLinearSpec.pre6 enc Tryz.prog Tryz.f5 Rows.fnExactLinearRow.domain false) (Rows.fnExactLinearSpec.post enc Tryz.prog Tryz.f5 false true false false):=by
 refine uB (C:=Tryz.checked) qq started (by kernel_rfl) Tryz.func5
  (ChangeSpec.witness6 (enc:=enc) (C:=Tryz.checked) false ⟨#[], #[.agg #[.int .i64 0,.int .i64 0,.int .i64 0,.int .i64 0,.int .i64 0,.slice none 0 0,.int .i64 0,.int .i64 0,.slice none 0 0,.slice none 0 0,.slice none 0 0,.int .i64 0,.slice none 0 0,.int .i64 0,.slice none 0 0,.slice none 0 0,.slice none 0 0,.slice none 0 0,.slice none 0 0]],[]⟩ 8 (by kernel_rfl) (by kernel_rfl) (by kernel_rfl) (by kernel_rfl)) ?_
 intro W base args ds gs before hval hW hw hsh
 exact Hn (P:=Tryz.prog) (ok5.r rfl) (fun xs _=>⟨by simp[g5,Φ5,Ff],by simp[g5,Φ5,Ff]⟩) pu (by rw[Tryz.params5];decide+kernel) (by rw[Tryz.params5];kernel_rfl) (tb:=4) rfl Tryz.underlying4
  (fun ds h=>by rw[Tryz.params5] at h;match ds,h with|[d0],_=>rfl) rfl hval hW hw (pT hsh)
theorem fnExactLinear_holds:Rows.FnExactLinearSaid:=
 OpenClaim.holds_of_wide 5 Tryz.f5 rfl rfl rfl rfl rfl rfl rfl ⟨rfl,rfl,rfl,rfl,rfl⟩ rfl rfl rfl rfl rfl (by as_aux_lemma=>kernel_rfl) Tryz.func5 nW
  (by as_aux_lemma=>exact of_decide_eq_true (by kernel_rfl)) (by as_aux_lemma=>unfold Func.isWrapper;first|(rw[if_pos (by decide+kernel)];kernel_rfl)|(rw[if_neg (by decide+kernel)];exact⟨rfl,rfl⟩))
  (fun os started H enc _=>nr os started H enc)
end Go.Proofs.YtlkidecpmfhheaaGreat

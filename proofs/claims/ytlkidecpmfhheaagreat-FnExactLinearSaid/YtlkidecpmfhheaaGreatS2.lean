import Derived.Test.YtlkidecpmfhheaaGreatSF
set_option linter.all false
namespace Go.Proofs.YtlkidecpmfhheaaGreat
open Go.Vx
theorem mE(r:List D):(cell r 0).ae.length<=am aj r:=by simp only[aw,szD];omega
theorem JH:GG FL:=gd (vc:=Uz) [] (by simp) Tryz.func292 (args1 fun a hw hp=>by
 simp[FL,Ap,mCp] at hp
 simp[Uz,FL,Ap,mCp,al]
 omega)
theorem mX:GG oH:=gd (vc:=v201) [] (by simp) Tryz.func201 (args1 fun a hw hp=>by
 simp[oH,eh,bN] at hp
 simp[v201,oH,eh,bN,bn,al,chunk]
 omega)
theorem ny:GG pB:=gd (vc:=Sd) [FL] (by simp[JH]) Tryz.func220 (args1 fun a hw hp=>by
 simp[pB,gp,bN] at hp
 simp[Sd,pB,gp,Ap,mCp,bN,bn,hp])
theorem fI(f:List D->List D)(xs:List (List D)):(xs.flatMap fun r=>[f r]).length=xs.length:=by
 induction xs with
 |nil=>rfl
 |cons x xs ih=>simp only[List.flatMap_cons,List.length_append,ih,List.length_cons,List.length_nil];omega
theorem oS:GG pI:=gde (vc:=YI) [pB] (by simp[ny]) Tryz.func202 (args1 fun a hw hp=>by
 simp[pI,iW,bL] at hp
 refine nw (Φ:=Φ) (g:=fun r=>[bn r]) (xs:=a.ae) rfl (fun _ _=>by simp) (by omega) rfl (fun i x hi hx=> ?_) fun x hx p=>by simp[pI,RSh.cells,iW,bL,hx]
 have hl:x.ae.length=i:=by rw[hx,fI,List.length_take];omega
 have h1:=cb (p:=am aj) hi
 have h2:=mE (ag a.ae i)
 simp[af,gp,bN,bn,al,chunk,hl]
 omega)
theorem o0:GG qL:=gde (vc:=XW) [oH] (by simp[mX]) Tryz.func190 (args1 fun a hw hp=>by
 simp[qL,gN,bL] at hp
 refine we (Φ:=Φ) (g:=fun r=>[bn r]) (xs:=a.ae) rfl (fun _ _=>by simp) (by omega) (by simp[chunk]) (fun i x hi hx=> ?_) fun x hx p=>by simp[qL,RSh.cells,gN,bL,hx]
 have hl:x.ae.length=i:=by rw[hx,fI,List.length_take];omega
 have h1:=cb (p:=am aj) hi
 have h2:=mE (ag a.ae i)
 simp[af,eh,bN,bn,al,chunk,hl]
 omega)
theorem szW(r:List D):(cell r 10).ae.length+aD (am aj) (cell r 10).ae+((cell r 17).ae.length+aD (am ma) (cell r 17).ae)<=am fG r:=by
 simp only[aw,aA,szD,bf,Nat.zero_add,Nat.reduceAdd]
 omega
theorem SO(r:List D):(cell r 2).ae.length<=am ma r:=by
 simp only[aw,aA,szD,bf,Nat.zero_add,Nat.reduceAdd]
 omega
theorem OA{n:Nat}{l:Int}(h:0<=szM n l):(n:Int)<=l∧szM n l=l - n:=by
 rcases Int.lt_or_le l n with h'|h'
 · rw[qG h'] at h;omega
 · exact⟨h',uj h'⟩
theorem Zl(r:List D):am fG (eY fO r)=am fO r:=sk fO r
theorem wl:∀(ks:List K)(pre r:List D),v7 ks pre.length (pre++eY ks r)=eY ks r
 |[],pre,r=>rfl
 |k::ks,pre,r=>by
  have h0:cell (pre++eY (k::ks) r) pre.length=cnD k (cell r 0):=by
   rw[cw]
   simp[cell,List.getD_eq_getElem?_getD]
  have h1:=wl ks (pre++[cnD k (cell r 0)]) r.tail
  rw[List.length_append,List.length_singleton,List.append_assoc] at h1
  rw[v7,h0,cw]
  have h2:Ww k (cnD k (cell r 0))=cnD k (cell r 0):=by cases k<;>rfl
  rw[h2]
  exact congrArg _ h1
theorem Zg(X:List D):[cell X 0,cell X 1,cell X 2,cell X 3,cell X 4,D.sl (cell X 5).ae,cell X 6,cell X 7,D.sl (cell X 8).ae,D.sl (cell X 9).ae,D.sl (cell X 10).ae,cell X 11,D.sl (cell X 12).ae,cell X 13,D.sl (cell X 14).ae,D.sl (cell X 15).ae,D.sl (cell X 16).ae,D.sl (cell X 17).ae,D.sl (cell X 18).ae]=v7 fO 0 X:=rfl
theorem mkW(r:List D):v7 fO 0 (eY fO r)=eY fO r:=wl fO [] r
end Go.Proofs.YtlkidecpmfhheaaGreat

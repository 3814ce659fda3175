import Derived.Test.YtlkidecpmfhheaaGreatS6
set_option linter.all false
open List (flatMap_cons length_flatMap)
namespace Go.Proofs.YtlkidecpmfhheaaGreat
open Go.Vx
theorem ro(p:List D):(fP p).length<=am dw p:=by
 have:=Fm p
 have:=ng (g:=fun c=>(cell c 1).ae.flatMap fun r=>[bn r]) (q:=am gA) (fun c=>by rw[fI];have:=Dd c;omega) (cell p 2).ae
 unfold fP
 omega
theorem UI(r:List D):bn (bn r)=bn r:=by simp[bn]
theorem KW(xs:List (List D)):(xs.flatMap fP).map bn=xs.flatMap fP:=by
 rw[List.map_flatMap]
 congr 1
 funext p
 simp only[fP,List.map_flatMap,List.map_cons,List.map_nil,UI]
theorem JJ(r:List D):am aj (bn r)=am aj r:=by simp only[aw,aA,szD,bn,bf,aq,ay,D.aQ,Nat.zero_add,Nat.reduceAdd]
theorem NN(xs:List (List D)):aD (am aj) (xs.flatMap fun r=>[bn r])=aD (am aj) xs:=by
 induction xs with
 |nil=>rfl
 |cons x xs ih=>simp only[flatMap_cons,bI,aD,ih,JJ];omega
theorem I6(p:List D):(fP p).length+aD (am aj) (fP p)<=am dw p:=by
 have h:=Fm p
 have:∀cs:List (List D),(cs.flatMap fun c=>(cell c 1).ae.flatMap fun r=>[bn r]).length+aD (am aj) (cs.flatMap fun c=>(cell c 1).ae.flatMap fun r=>[bn r])<=aD (am gA) cs:=by
  intro cs
  induction cs with
  |nil=>simp[aD]
  |cons c cs ih=>
   have:=Dd c
   simp only[flatMap_cons,List.length_append,bI,aD,fI,NN]
   omega
 have:=this (cell p 2).ae
 unfold fP
 omega
theorem yw(xs:List (List D)):(xs.flatMap fP).length+aD (am aj) (xs.flatMap fP)<=aD (am dw) xs:=by
 induction xs with
 |nil=>simp[aD]
 |cons x xs ih=>
  have:=I6 x
  simp only[flatMap_cons,List.length_append,bI,aD]
  omega
theorem LN:GG I0:=gde (vc:=v218) [pI] (by simp[oS]) Tryz.func218 (args1 fun a hw hp=>by
 simp[I0,As,jE] at hp
 have h0:=Fm a.row
 refine nw (Φ:=Φ) (g:=fun c=>(cell c 1).ae.flatMap fun r=>[bn r]) (xs:=(cell a.row 2).ae) rfl (fun _ _=>by simp) (by omega) rfl (fun i x hi hx=> ?_) fun x hx p=>by simp[I0,RSh.cells,As,jE,hx]
 have hl:x.ae.length<=aD (am gA) ((cell a.row 2).ae.take i):=by
  rw[hx];exact ng (fun c=>by rw[fI];have:=Dd c;omega) _
 have hs:=bO (p:=am gA) (xs:=(cell a.row 2).ae) (i:=i+1)
 rw[dC _ hi] at hs
 have h2:=Dd (ag (cell a.row 2).ae i)
 simp[af,iW,bL,fI,al,hi,-length_flatMap]
 omega)
theorem Mv:GG Jl:=gde (vc:=v208) [qL] (by simp[o0]) Tryz.func208 (args1 fun a hw hp=>by
 simp[Jl,xC,jE] at hp
 have h0:=Fm a.row
 refine we (Φ:=Φ) (g:=fun c=>(cell c 1).ae.flatMap fun r=>[bn r]) (xs:=(cell a.row 2).ae) rfl (fun _ _=>by simp) (by omega) (by simp[chunk]) (fun i x hi hx=> ?_) fun x hx p=>by simp[Jl,RSh.cells,xC,jE,hx]
 have hl:x.ae.length<=aD (am gA) ((cell a.row 2).ae.take i):=by
  rw[hx];exact ng (fun c=>by rw[fI];have:=Dd c;omega) _
 have hs:=bO (p:=am gA) (xs:=(cell a.row 2).ae) (i:=i+1)
 rw[dC _ hi] at hs
 have h2:=Dd (ag (cell a.row 2).ae i)
 simp[af,gN,bL,fI,al,hi,-length_flatMap]
 omega)
theorem L6:GG HX:=gde (vc:=v148) [I0,Lq] (by simp[LN,Mq]) Tryz.func148 (args1 fun a hw hp=>by
 simp[HX,oV,cR] at hp
 refine nw (Φ:=Φ) (g:=fP) (xs:=a.ae) rfl (fun _ _=>by simp) (by omega) rfl (fun i x hi hx=> ?_) fun x hx p=>by
  simp[HX,RSh.cells,oV,cR,Iu,AU,hx,jR]
 have hl:x.ae.length<=aD (am dw) (a.ae.take i):=by rw[hx];exact ng ro _
 have hs:=bO (p:=am dw) (xs:=a.ae) (i:=i+1)
 rw[dC _ hi] at hs
 have h2:=ro (ag a.ae i)
 have h3:((cell (ag a.ae i) 2).ae.flatMap fun c=>(cell c 1).ae.flatMap fun r=>[bn r]).length<=am dw (ag a.ae i):=h2
 simp[af,As,jE,al,hi,-length_flatMap]
 exact⟨by omega,rfl⟩)
theorem L0:GG Hf:=gde (vc:=ZE) [Jl,B8] (by simp[Mv,Jh]) Tryz.func137 (args1 fun a hw hp=>by
 simp[Hf,pk,cR] at hp
 refine we (Φ:=Φ) (g:=fP) (xs:=a.ae) rfl (fun _ _=>by simp) (by omega) (by simp[chunk]) (fun i x hi hx=> ?_) fun x hx p=>by
  have h4:=yw a.ae
  simp[Hf,RSh.cells,pk,cR,ll,gx,hx,jR,-length_flatMap,KW]
  omega
 have hl:x.ae.length<=aD (am dw) (a.ae.take i):=by rw[hx];exact ng ro _
 have hs:=bO (p:=am dw) (xs:=a.ae) (i:=i+1)
 rw[dC _ hi] at hs
 have h2:=ro (ag a.ae i)
 have h3:((cell (ag a.ae i) 2).ae.flatMap fun c=>(cell c 1).ae.flatMap fun r=>[bn r]).length<=am dw (ag a.ae i):=h2
 simp[af,xC,jE,al,hi,-length_flatMap]
 exact⟨by omega,rfl⟩)
end Go.Proofs.YtlkidecpmfhheaaGreat

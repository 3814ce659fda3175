import Derived.Test.YtlkidecpmfhheaaGreatY1
import Derived.Test.YtlkidecpmfhheaaGreatW1
set_option linter.all false
open Nat (zero_add reduceAdd le_trans lt_or_ge le_refl)
open List (length_take flatMap_cons length_append length_cons length_nil take_append_drop take_of_length_le length_pos_iff drop_one map_cons map_nil length_flatMap Pairwise length_map map_take length_drop replicate)
namespace Go.Proofs.YtlkidecpmfhheaaGreat
open Go.Vx
theorem du(l:List (List D)):(l.flatMap fun r=>[bn r])=als l:=rfl
theorem DZ(r:List D):(cell r 0).ae.length+aD (am aj) (cell r 0).ae<=am de r:=by
 simp only[aw,aA,szD,bf,zero_add,reduceAdd]
 omega
theorem Bw(r:List D):(cell r 1).ae.length+((cell r 4).ae.length+aD (am aj) (cell r 4).ae)<=am aM r:=by
 simp only[aw,aA,szD,bf,zero_add,reduceAdd]
 omega
theorem qE(r:List D):(cell r 5).ae.length+((cell r 6).ae.length+aD (am aj) (cell r 6).ae)+((cell r 7).ae.length+aD (am de) (cell r 7).ae)+((cell r 8).ae.length+aD (am aj) (cell r 8).ae)+((cell r 9).ae.length+aD (am aM) (cell r 9).ae)<=am cO r:=by
 simp only[aw,aA,szD,bf,zero_add,reduceAdd]
 omega
theorem Ns(r:List D):(cell r 2).ae.length+(cell r 6).ae.length+((cell r 10).ae.length+aD (am aj) (cell r 10).ae)<=am dg r:=by
 simp only[aw,aA,szD,bf,zero_add,reduceAdd]
 omega
theorem MS(r:List D):am gZ r<=am cO r:=by
 simp only[aw,aA,szD,bf,zero_add,reduceAdd]
 omega
theorem KB(r:List D):(cell r 5).ae.length<=am gZ r:=by
 simp only[aw,aA,szD,bf,zero_add,reduceAdd]
 omega
theorem Hb:GG Fb:=gd (vc:=WC) [pI] (by simp[oS]) Tryz.func270 (args1 fun a hw hp=>by
 simp[Fb,yp,br] at hp
 have h:=DZ a.row
 simp[WC,Fb,yp,iW,br,bL,eu,du]
 omega)
theorem Mi:GG IB:=gd (vc:=WE) [qL] (by simp[o0]) Tryz.func257 (args1 fun a hw hp=>by
 simp[IB,Es,br] at hp
 have h:=DZ a.row
 simp[WE,IB,Es,gN,br,bL,eu,du]
 omega)
theorem MF:GG Jf:=gd (vc:=Wy) [] (by simp) Tryz.func126 (args1 fun a hw hp=>by
 simp[Jf,zR,br] at hp
 have h:=KB a.row
 simp[Wy,Jf,zR,br,wY,al,chunk]
 omega)
theorem MU:GG JD:=gd (vc:=Rz) [] (by simp) Tryz.func122 (args1 fun a hw hp=>by
 simp[JD,sX,br] at hp
 have h:=KB a.row
 simp[Rz,JD,sX,br,wY,al,chunk]
 omega)
theorem H9:GG Gx:=gd (vc:=V6) [pI,FL] (by simp[oS,JH]) Tryz.func271 (args1 fun a hw hp=>by
 simp[Gx,xL,br] at hp
 have h:=Bw a.row
 simp[V6,Gx,xL,iW,Ap,br,bL,mCp,iZ,du,mCp]
 omega)
theorem Iz:GG Gd:=gd (vc:=Rt) [qL] (by simp[o0]) Tryz.func258 (args1 fun a hw hp=>by
 simp[Gd,mh,br] at hp
 have h:=Bw a.row
 simp[Rt,Gd,mh,gN,br,bL,iZ,du,al,chunk]
 omega)
theorem T0:GG Ki:=gde (vc:=v203) [Fb] (by simp[Hb]) Tryz.func203 (args1 fun a hw hp=>by
 simp[Ki,EA,gC] at hp
 refine nw (Φ:=Φ) (g:=fun r=>[eu r]) (xs:=a.ae) rfl (fun _ _=>by simp) (by omega) rfl (fun i x hi hx=> ?_) fun x hx p=>by simp[Ki,RSh.cells,EA,gC,hx,subs]
 have hl:x.ae.length=i:=by rw[hx,fI,length_take];omega
 have h1:=cb (p:=am de) hi
 have h2:=DZ (ag a.ae i)
 simp[af,EA,yp,gC,br,eu,al,chunk,hl]
 omega)
theorem Ru:GG Kc:=gde (vc:=XQ) [IB] (by simp[Mi]) Tryz.func191 (args1 fun a hw hp=>by
 simp[Kc,ET,gC] at hp
 refine we (Φ:=Φ) (g:=fun r=>[eu r]) (xs:=a.ae) rfl (fun _ _=>by simp) (by omega) (by simp[chunk]) (fun i x hi hx=> ?_) fun x hx p=>by simp[Kc,RSh.cells,ET,gC,hx,subs]
 have hl:x.ae.length=i:=by rw[hx,fI,length_take];omega
 have h1:=cb (p:=am de) hi
 have h2:=DZ (ag a.ae i)
 simp[af,ET,Es,gC,br,eu,al,chunk,hl]
 omega)
theorem Ib:GG GI:=gde (vc:=Zt) [Gx] (by simp[H9]) Tryz.func204 (args1 fun a hw hp=>by
 simp[GI,qU,gC] at hp
 refine nw (Φ:=Φ) (g:=fun r=>[iZ r]) (xs:=a.ae) rfl (fun _ _=>by simp) (by omega) rfl (fun i x hi hx=> ?_) fun x hx p=>by simp[GI,RSh.cells,qU,gC,hx,grs]
 have hl:x.ae.length=i:=by rw[hx,fI,length_take];omega
 have h1:=cb (p:=am aM) hi
 have h2:=Bw (ag a.ae i)
 simp[af,qU,xL,gC,br,iZ,al,chunk,hl]
 omega)
theorem GZ:GG FZ:=gde (vc:=Y7) [Gd] (by simp[Iz]) Tryz.func192 (args1 fun a hw hp=>by
 simp[FZ,qF,gC] at hp
 refine we (Φ:=Φ) (g:=fun r=>[iZ r]) (xs:=a.ae) rfl (fun _ _=>by simp) (by omega) (by simp[chunk]) (fun i x hi hx=> ?_) fun x hx p=>by simp[FZ,RSh.cells,qF,gC,hx,grs]
 have hl:x.ae.length=i:=by rw[hx,fI,length_take];omega
 have h1:=cb (p:=am aM) hi
 have h2:=Bw (ag a.ae i)
 simp[af,qF,mh,gC,br,iZ,al,chunk,hl]
 omega)
theorem MG:GG Jd:=gd (vc:=v124) [Jf,pI,Ki,GI] (by simp[MF,oS,T0,Ib]) Tryz.func124 (args1 fun a hw hp=>by
 simp[Jd,pW,br] at hp
 have h:=qE a.row
 have h':=MS a.row
 simp[v124,Jd,pW,zR,iW,EA,qU,br,bL,gC,cT,wY,du]
 omega)
theorem MO:GG Jr:=gd (vc:=Vr) [JD,qL,Kc,FZ] (by simp[MU,o0,Ru,GZ]) Tryz.func120 (args1 fun a hw hp=>by
 simp[Jr,iB,br] at hp
 have h:=qE a.row
 have h':=MS a.row
 simp[Vr,Jr,iB,sX,gN,ET,qF,br,bL,gC,cT,wY,du]
 omega)
theorem WV:GG Kb:=gd (vc:=Wo) [qL,oH] (by simp[o0,mX]) Tryz.func123 (args1 fun a hw hp=>by
 simp[Kb,Ar,br] at hp
 have h:=Ns a.row
 simp[Wo,Kb,Ar,gN,eh,br,bL,bN,jw,bn,als,al,chunk]
 omega)
theorem WG:GG JM:=gd (vc:=Sw) [qL] (by simp[o0]) Tryz.func331 (args1 fun a hw hp=>by
 simp[JM,show Φ 331=br [.int .i64,.sl 220 [.str,.str],.int .i64,.sl 135 aj] zz from rfl,br] at hp
 have h:(cell a.row 1).ae.length+((cell a.row 3).ae.length+aD (am aj) (cell a.row 3).ae)<=am [.int .i64,.sl 220 [.str,.str],.int .i64,.sl 135 aj] a.row:=by
  simp only[aw,aA,szD,bf,zero_add,reduceAdd]
  omega
 simp[Sw,JM,show Φ 331=br [.int .i64,.sl 220 [.str,.str],.int .i64,.sl 135 aj] zz from rfl,gN,br,bL,zz,du,al,chunk]
 omega)
theorem nP(f:List D->List D)(xs:List (List D)):(xs.flatMap fun r=>[f r]).length=xs.length:=by
 induction xs with
 |nil=>rfl
 |cons x xs ih=>simp only[flatMap_cons,length_append,ih,length_cons,length_nil];omega
@[simp] theorem fR (l:List (List D)):(als l).length=l.length:=nP _ l
@[simp] theorem ZW:als []=[]:=rfl
theorem Va:GG Pb:=gd (vc:=PO) [] (by simp) Tryz.func308 (args2 fun a b hw hp=>by
 simp[PO,Pb,show Φ 308=mB _ from rfl,mB,pN])
theorem S9:GG MY:=gd (vc:=R8) [] (by simp) Tryz.func333 (args2 fun a b hw hp=>by
 simp[R8,MY,show Φ 333=mB _ from rfl,mB,pN])
theorem L1:GG H5:=gd (vc:=SK) [] (by simp) Tryz.func263 (args2 fun a b hw hp=>by
 simp[SK,H5,wg,mB])
theorem L2:GG Iy:=gd (vc:=Te) [] (by simp) Tryz.func318 (args2 fun a b hw hp=>by
 simp[Te,Iy,Cb,mB])
theorem SA:GG OO:=gde (vc:=Vm) [] (by simp) Tryz.func309 (args2 fun a b hw hp=>by
 simp[Vm,OO,Mt,yH,RSh.cells]
 omega)
theorem RA:GG Jx:=gde (vc:=UW) [pB,MY] (by simp[ny,S9]) Tryz.func315 (args2 fun a b hw hp=>by
 simp[Jx,nJ,dm] at hp
 by_cases ht:pN a.row b.row<;>by_cases hlt:(cell b.row 1).ZY<(cell a.row 1).ZY<;>simp[UW,Jx,nJ,gp,show Φ 333=mB _ from rfl,dm,bN,mB,RSh.cells,jc,bn,hp,au,ht,hlt]<;>omega)
theorem Tv:GG Jq:=gde (vc:=Rq) [oH,Pb,OO] (by simp[mX,Va,SA]) Tryz.func261 (args2 fun a b hw hp=>by
 simp[Jq,m7,dm] at hp
 by_cases ht:pN a.row b.row<;>simp[Rq,Jq,m7,eh,show Φ 308=mB _ from rfl,Mt,dm,bN,mB,yH,RSh.cells,jc,bn,hp,au,ht])
theorem T2:GG O7:=gd (vc:=v141) [] (by simp) Tryz.func141 (args2 fun a b hw hp=>by
 simp[v141,O7,show Φ 141=mB _ from rfl,mB,mo])
theorem Sr:GG Nt:=gd (vc:=PT) [] (by simp) Tryz.func134 (args2 fun a b hw hp=>by
 simp[PT,Nt,show Φ 134=mB _ from rfl,mB,mo])
theorem To:GG LC:=gd (vc:=V3) [pB,Fb] (by simp[ny,Hb]) Tryz.func334 (args2 fun a b hw hp=>by
 simp[LC,Je,pd] at hp
 have h:=mE b.row
 cases hl:(cell a.row 1).ZZ<;>by_cases h3:3<=(cell a.row 0).ae.length<;>simp[V3,LC,Je,gp,yp,pd,bN,br,mR,eu,bn,au,hl,h3,hp,al,chunk]<;>omega)
theorem SJ:GG Kf:=gd (vc:=UT) [oH,IB] (by simp[mX,Mi]) Tryz.func310 (args2 fun a b hw hp=>by
 simp[Kf,Io,pd] at hp
 have h:=mE b.row
 cases hl:(cell a.row 1).ZZ<;>by_cases h3:3<=(cell a.row 0).ae.length<;>simp[UT,Kf,Io,eh,Es,pd,bN,br,mR,eu,bn,au,hl,h3,hp,al,chunk]<;>omega)
theorem Bj(s a:List D):([.sl (cell (mR s a) 0).ae,cell (mR s a) 1]:List D)=mR s a:=by
 unfold mR
 cases(cell s 1).ZZ<;>by_cases h3:3<=(cell s 0).ae.length<;>simp[eu,au,h3]
theorem V8:GG H8:=gde (vc:=Yr) [LC] (by simp[To]) Tryz.func317 (args2 fun a b hw hp=>by
 simp[H8,w5,dP] at hp
 refine nw (Φ:=Φ) (g:=fun r=>[mR r b.row]) (xs:=a.ae) rfl (fun _ _=>by simp) (by omega) rfl (fun i x hi hx=> ?_) fun x hx p=>by simp[H8,RSh.cells,w5,dP,hx,tells]
 have hl:x.ae.length=i:=by rw[hx,nP,length_take];omega
 have h1:=cb (p:=am de) hi
 simp[af,w5,Je,dP,pd,al,chunk,hl]
 simp only[Bj,and_true]
 omega)
theorem WM:GG GU:=gde (vc:=YJ) [Kf] (by simp[SJ]) Tryz.func262 (args2 fun a b hw hp=>by
 simp[GU,w6,dP] at hp
 refine we (Φ:=Φ) (g:=fun r=>[mR r b.row]) (xs:=a.ae) rfl (fun _ _=>by simp) (by omega) (by simp[chunk]) (fun i x hi hx=> ?_) fun x hx p=>by simp[GU,RSh.cells,w6,dP,hx,tells]
 have hl:x.ae.length=i:=by rw[hx,nP,length_take];omega
 have h1:=cb (p:=am de) hi
 simp[af,w6,Io,dP,pd,al,chunk,hl]
 simp only[Bj,and_true]
 omega)
theorem kn(p:List D->Nat)(l:List (List D))(n:Nat):aD p (l.drop n)<=aD p l:=by
 have:=bI p (l.take n) (l.drop n)
 rw[take_append_drop] at this
 omega
theorem kj(l:List (List D)):l.tail.take (l.length - 1)=l.tail:=take_of_length_le (by simp)
@[simp] theorem Xf (pre:List D->Prop) (f:Nat->List D->D) (ds:List D):con pre f 2 ds=f 2 ds:=rfl
@[simp] theorem Xq (pre:List D->Prop) (f:Nat->List D->D) (ds:List D):con pre f 2000 ds=f 2000 ds:=rfl
@[simp] theorem NP (xs:List (List D)):Go.Vx.rowAt xs 0=ag xs 0:=rfl
theorem Uo{r:List D}(h:(cell r 0).ae≠[]):(cell (ag (cell r 0).ae 0) 0).ae.length<=am de r:=by
 have h1:=DZ r
 have h2:=cb (p:=am aj) (xs:=(cell r 0).ae) (i:=0) (length_pos_iff.2 h)
 have h3:=mE (ag (cell r 0).ae 0)
 omega
theorem VL:GG Gm:=gde (vc:=O3) [pI,pB,Fb] (by simp[oS,ny,Hb]) Tryz.func323 (args1 fun a hw hp=>by
 simp[Gm,yv,jM] at hp
 have h:=DZ a.row
 have h':=kn (am aj) (cell a.row 0).ae 1
 rw[drop_one] at h'
 by_cases h3:(cell a.row 0).ae=[]
 · cases hl:(cell a.row 1).ZZ<;>simp[O3,Gm,yv,iW,gp,yp,jM,bL,bN,br,RSh.cells,lf,kA,lX,eu,du,au,hl,h3,hp]
 · have h4:=Uo h3
   have h5:=length_pos_iff.2 h3
   cases hl:(cell a.row 1).ZZ<;>simp[O3,Gm,yv,iW,gp,yp,jM,bL,bN,br,RSh.cells,lf,kA,lX,eu,du,au,hl,h3,hp,kj]
   omega)
theorem TO:GG Gf:=gde (vc:=NB) [qL,oH] (by simp[o0,mX]) Tryz.func269 (args1 fun a hw hp=>by
 simp[Gf,yo,jM] at hp
 have h:=DZ a.row
 have h':=kn (am aj) (cell a.row 0).ae 1
 rw[drop_one] at h'
 by_cases h3:(cell a.row 0).ae=[]
 · cases hl:(cell a.row 1).ZZ<;>simp[NB,Gf,yo,gN,eh,jM,bL,bN,RSh.cells,lf,kA,lX,eu,du,au,hl,h3,hp]
 · have h4:=Uo h3
   have h5:=length_pos_iff.2 h3
   cases hl:(cell a.row 1).ZZ<;>simp[NB,Gf,yo,gN,eh,jM,bL,bN,RSh.cells,lf,kA,lX,eu,du,au,hl,h3,hp,kj]
   omega)
theorem L5:GG Ha:=gd (vc:=Wk) (hs:=[⟨2,[0],[],false⟩]) [] (by simp) Tryz.func321 (args2 fun a b hw hp=>by
 simp[Ha] at hw
 show Wk.wp Φ (fun l=>l=[.int (eo a.ae b.ZY)]) [a,b] _
 refine j5 (s:=0) (N:=a.ae.length) (fun i=>(cell (ag a.ae i) 0).ZY=b.ZY) rfl (fun d=>by simp) (l7 hw.1.1) (by omega) (fun i _ hi _=> ?_) (fun i _ hi h hp q=> ?_) fun h i q=> ?_
 · simp[af,hi]
 · simp[eo,iK (p:=fun g=>(cell g 0).ZY=b.ZY) hi h hp]
 · simp[eo,f7 (p:=fun g=>(cell g 0).ZY=b.ZY) h])
theorem MC:GG Ii:=gd (vc:=S0) (hs:=[⟨2,[0],[],false⟩]) [] (by simp) Tryz.func267 (args2 fun a b hw hp=>by
 simp[Ii] at hw
 show S0.wp Φ (fun l=>l=[.int (eo a.ae b.ZY)]) [a,b] _
 refine j5 (s:=0) (N:=a.ae.length) (fun i=>(cell (ag a.ae i) 0).ZY=b.ZY) rfl (fun d=>by simp) (l7 hw.1.1) (by omega) (fun i _ hi _=> ?_) (fun i _ hi h hp q=> ?_) fun h i q=> ?_
 · simp[af,hi]
 · simp[eo,iK (p:=fun g=>(cell g 0).ZY=b.ZY) hi h hp]
 · simp[eo,f7 (p:=fun g=>(cell g 0).ZY=b.ZY) h])
theorem xp(l:List (List D))(now:Int):(iC l now).length<=l.length:=by
 unfold iC
 induction l with
 |nil=>simp
 |cons x l ih=>
  rw[flatMap_cons,length_append]
  by_cases h:(cell x 2).ZY<=now<;>simp only[au,h,if_true,if_false,length_nil,length_cons] at*<;>omega
theorem Vi:GG Lm:=gde (vc:=XG) [pB,Iy] (by simp[ny,L2]) Tryz.func341 (args2 fun a b hw hp=>by
 simp[Lm,A2,pA] at hp
 refine nw (Φ:=Φ) (g:=fun r=>bif tt ((cell r 2).ZY<=b.ZY) then[] else[bn r]) (xs:=a.ae) rfl (fun _ _=>by simp) (by omega) rfl (fun i x hi hx=> ?_) fun x hx p=>by simp[Lm,RSh.cells,A2,pA,hx,iC]
 have hl:x.ae.length<=i:=by rw[hx];exact le_trans (xp _ b.ZY) (by simp;omega)
 have h1:=cb (p:=am aj) hi
 have h2:=mE (ag a.ae i)
 by_cases h:(cell (ag a.ae i) 2).ZY<=b.ZY
 · simp[af,A2,gp,Cb,pA,bN,mB,h,hi]
 · simp[af,A2,gp,Cb,pA,bN,mB,h,hi,bn,al,chunk]
   omega)
theorem Uh:GG Lb:=gd (vc:=RO) [pI,Gx,FL,Lm] (by simp[oS,H9,JH,Vi]) Tryz.func337 (args2 fun a b hw hp=>by
 simp[Lb,A7,fW] at hp
 have h:=Bw a.row
 simp[RO,Lb,A7,iW,xL,Ap,A2,fW,bL,br,mCp,pA,gw,zc,iZ,du]
 omega)
theorem R5:GG KE:=gde (vc:=Vu) (hs:=[⟨5,[1,2,3,4],[],false⟩]) [oH,Gd,H5,JM] (by simp[mX,Iz,L1,WG]) Tryz.func313 (args2 fun a b hw hp=>by
 simp[KE,tE,fW] at hp
 have h:=Bw a.row
 unfold Vu
 rw[aJ]
 refine⟨by simp[tE,eh,mh,wg,show Φ 331=br [.int .i64,.sl 220 [.str,.str],.int .i64,.sl 135 aj] zz from rfl,fW,bN,br,mB,hp],?_⟩
 refine we (Φ:=Φ) (g:=fun r=>bif tt ((cell r 2).ZY<=b.ZY) then[] else[bn r]) (xs:=(cell a.row 4).ae) rfl (fun _ _=>by simp) (by omega) (by simp[chunk]) (fun i x hi hx=> ?_) fun x hx p=> ?_
 · have hl:x.ae.length<=i:=by rw[hx];exact le_trans (xp _ b.ZY) (by simp;omega)
   have h1:=cb (p:=am aj) hi
   have h2:=mE (ag (cell a.row 4).ae i)
   by_cases hc:(cell (ag (cell a.row 4).ae i) 2).ZY<=b.ZY
   · simp[af,tE,eh,mh,wg,show Φ 331=br [.int .i64,.sl 220 [.str,.str],.int .i64,.sl 135 aj] zz from rfl,fW,bN,br,mB,hc,hi]
   · simp[af,tE,eh,mh,wg,show Φ 331=br [.int .i64,.sl 220 [.str,.str],.int .i64,.sl 135 aj] zz from rfl,fW,bN,br,mB,hc,hi,bn,al,chunk]
     omega
 · have h3:am [.int .i64,.sl 220 aC,.int .i64,.sl 135 aj] [cell a.row 0,cell a.row 1,b,cell a.row 4]<=am aM a.row:=by
    simp only[aw,aA,szD,bf,zero_add,reduceAdd,aq,ay]
    omega
   have h4:am [.int .i64,.sl 220 [.str,.str],.int .i64,.sl 135 aj] [cell a.row 0,cell a.row 1,b,cell a.row 4]<=am aM a.row:=h3
   simp[KE,tE,eh,mh,wg,show Φ 331=br [.int .i64,.sl 220 [.str,.str],.int .i64,.sl 135 aj] zz from rfl,fW,bN,br,mB,RSh.cells,hx,gw,zc,iZ,zz,iC]
   omega)
theorem JA:GG Bi:=gd (vc:=VJ) [FJ] (by simp[EK]) Tryz.func314 (args2 fun a b hw hp=>by
 simp[VJ,Bi,kr,Bz,bu])
theorem LP:GG II:=gd (vc:=Wq) (hs:=[⟨2,[0],[],false⟩]) [tP] (by simp[pm]) Tryz.func265 (args2 fun a b hw hp=>by
 simp[II] at hw
 show Wq.wp Φ (fun l=>l=[.int (eR (fun g=>eqR (aH aC) (cell g 1).ae b.ae=true) a.ae 0)]) [a,b] _
 refine j5 (s:=0) (N:=a.ae.length) (fun i=>eqR (aH aC) (cell (ag a.ae i) 1).ae b.ae=true) rfl (fun d=>by simp) (l7 hw.1.1) (by omega) (fun i _ hi _=> ?_) (fun i _ hi h hp q=> ?_) fun h i q=> ?_
 · simp[wC,dz,cJ,aF,af,hi]
 · simp[iK (p:=fun g=>eqR (aH aC) (cell g 1).ae b.ae=true) hi h hp]
 · simp[f7 (p:=fun g=>eqR (aH aC) (cell g 1).ae b.ae=true) h])
theorem ZM:GG g74:=gd (vc:=v74) (hs:=[⟨2,[0],[],false⟩,⟨5,[0],[],false⟩]) [O7] (by simp[T2]) Tryz.func74 (args1 fun a hw hp=>by
 simp[g74] at hw
 show v74.wp Φ (fun l=>l=[.bool (tt (iH a.ae))]) [a] _
 have hl:=l7 hw.1
 refine bT (Φ:=Φ) (N:=a.ae.length) rfl (fun _=>by simp) hl (fun i=>∀j,j<i->∀k,k<a.ae.length->¬(mo (ag a.ae j) (ag a.ae k)∧(cell (ag a.ae j) 13).ZY≠ -1∧(cell (ag a.ae k) 13).ZY≠ -1∧(cell (ag a.ae k) 13).ZY<=(cell (ag a.ae j) 13).ZY)) (by omega) (fun i hi hI=> ?_) (fun hI p=> ?_)
 · rw[aJ]
   refine⟨by simp[hi],?_⟩
   refine df (s:=0) (N:=a.ae.length) (fun k=>¬(mo (ag a.ae i) (ag a.ae k)∧(cell (ag a.ae i) 13).ZY≠ -1∧(cell (ag a.ae k) 13).ZY≠ -1∧(cell (ag a.ae k) 13).ZY<=(cell (ag a.ae i) 13).ZY)) rfl (fun d=>by simp) hl (by omega) (fun h k _ hk=>h i hi k hk) (fun k _ hk _=> ?_) fun h k q=> ?_
   · simp[Kw,show Φ 141=mB _ from rfl,mB,af,hk]
     grind
   · rw[dO,cU (by decide)]
     simp only[map_cons,map_nil]
     exact⟨by simp,ce hI fun k hk=>h k (by omega) hk⟩
 · have:iH a.ae:=hI
   simp[bW _ |>.mpr this])
theorem Zz:GG g71:=gd (vc:=v71) (hs:=[⟨2,[0],[],false⟩,⟨5,[0],[],false⟩]) [Nt] (by simp[Sr]) Tryz.func71 (args1 fun a hw hp=>by
 simp[g71] at hw
 show v71.wp Φ (fun l=>l=[.bool (tt (iH a.ae))]) [a] _
 have hl:=l7 hw.1
 refine bT (Φ:=Φ) (N:=a.ae.length) rfl (fun _=>by simp) hl (fun i=>∀j,j<i->∀k,k<a.ae.length->¬(mo (ag a.ae j) (ag a.ae k)∧(cell (ag a.ae j) 13).ZY≠ -1∧(cell (ag a.ae k) 13).ZY≠ -1∧(cell (ag a.ae k) 13).ZY<=(cell (ag a.ae j) 13).ZY)) (by omega) (fun i hi hI=> ?_) (fun hI p=> ?_)
 · refine cq (s:=0) (N:=a.ae.length) (fun k=>¬(mo (ag a.ae i) (ag a.ae k)∧(cell (ag a.ae i) 13).ZY≠ -1∧(cell (ag a.ae k) 13).ZY≠ -1∧(cell (ag a.ae k) 13).ZY<=(cell (ag a.ae i) 13).ZY)) rfl (fun d=>by simp) hl (by omega) (fun h k _ hk=>h i hi k hk) (fun k _ hk _=> ?_) fun h k q=> ?_
   · simp[Ky,show Φ 134=mB _ from rfl,mB,af,hk,hi]
     grind
   · rw[dO,cU (by decide)]
     simp only[map_cons,map_nil]
     exact⟨by simp,ce hI fun k hk=>h k (by omega) hk⟩
 · have:iH a.ae:=hI
   simp[bW _ |>.mpr this])
theorem Eh{post:List D->Prop}{env:List D}{B:Nat->List D->Prop}{id l n:Nat}{fs:List (K×Nat)}{cs:List E}{c:E}{rest:VC}{N:Nat}(hn:env.length=n)(hN:(N:Int)<=140737488355328)(p:Nat->Prop)
 (hc:∀i,i<=N->(∀j,j<i->p j)->conj Φ (env++[.int i]) cs∧((c.den Φ (env++[.int i])).ZZ=true↔i<N∧p i))
 (hr:∀i,i<=N->(∀j,j<i->p j)->(i=N∨¬p i)->∀q,rest.wp Φ post (env++[.int i]) (Go.Vx.eC B l q)):
 (VC.loop id l 1 fs [.int 0] (.req cs (.ite c (.back l [.op (.bin .add .i64) [.var n,.int 1]]) rest))).wp Φ post env B:=by
 refine wp_loop' (fun v=>∃i:Nat,v=[.int i]∧i<=N∧∀j,j<i->p j) (fun v=>N - (cell v 0).ZY.toNat) ⟨0,rfl,by omega,by omega⟩ ?_
 simp only[cA,cz]
 intro d
 refine bS fun _=> ?_
 rintro⟨i,hd,hi,hI⟩
 simp only[List.cons.injEq,and_true] at hd
 subst hd
 obtain⟨h1,h2⟩:=hc i hi hI
 have hv:cell (env++[.int (i:Int)]) n= .int i:=by subst hn;simp[cell]
 rw[aJ,aO]
 refine⟨h1,fun h=> ?_,fun h=> ?_⟩
 · obtain⟨h3,h4⟩:=h2.1 h
   simp only[dO,Go.Vx.dD,map_cons,map_nil,b9,aS,a8,bF,eM,hv,eT,qJ,D.aI]
   rw[w64 (by omega) (by omega)]
   exact⟨⟨i+1,by simp,by omega,ce hI h4⟩,by simp;omega⟩
 · refine hr i hi hI ?_ _
   by_cases e:i=N
   · exact .inl e
   · refine .inr fun hp=> ?_
     rw[h2.2 ⟨by omega,hp⟩] at h;cases h
theorem rI{a:List D}:∀(l:List (List D))(i:Nat),i<=l.length->(∀j,j<i->¬dv (cell a 0).ae (cell (ag l j) 0).ae=true)->(i=l.length∨¬¬dv (cell a 0).ae (cell (ag l i) 0).ae=true)->q9 l a=i
 |[],i,h,_,_=>by simp at h;simp[q9,h]
 |x::l,0,_,_,h=>by
  rcases h with h|h
  · simp at h
  · have h:dv (cell a 0).ae (cell x 0).ae=true:=Classical.not_not.1 h
    simp[q9,List.takeWhile_cons,h]
 |x::l,i+1,h1,h2,h3=>by
  have hx:dv (cell a 0).ae (cell x 0).ae=false:=by simpa using h2 0 (by omega)
  have ih:=rI (a:=a) l i (by simpa using h1) (fun j hj=>h2 (j+1) (by omega)) (by simpa using h3)
  simp only[q9] at ih⊢
  simp[List.takeWhile_cons,hx,ih]
theorem Ju(l:List (List D))(a:List D):q9 l a<=l.length:=(List.takeWhile_sublist _).length_le
theorem IM(l:List (List D))(n:Nat):aD (am aj) (l.take n)+aD (am aj) (l.drop n)=aD (am aj) l:=by
 rw[<-bI,take_append_drop]
@[simp] theorem Zi (r:List D):cell (bn r) 0= .sl (cell r 0).ae:=rfl
@[simp] theorem Yy (r:List D):cell (bn r) 1=cell r 1:=rfl
@[simp] theorem X3 (r:List D):cell (bn r) 2=cell r 2:=rfl
@[simp] theorem YQ (r:List D):cell (bn r) 3=cell r 3:=rfl
theorem om(r:List D):([.sl (cell r 0).ae,cell r 1,cell r 2,cell r 3]:List D)=bn r:=rfl
@[simp] theorem NQ (r:List D):chunk 4 1 (bn r)=[bn r]:=rfl
@[simp] theorem Sq (r:List D):(bn r).length=4:=rfl
theorem wb(l:List (List D))(i:Nat):(l.drop i).take (l.length - i)=l.drop i:=take_of_length_le (by simp)
theorem L3:GG I8:=gd (vc:=RI) [pI,pB,zI] (by simp[oS,ny,D2]) Tryz.func316 (args2 fun a b hw hp=>by
 simp[I8,li,oJ] at hp
 have hsz:=mE b.row
 show RI.wp Φ (fun l=>l=[.sl (uQ a.ae b.row)]) [a,b] _
 refine Eh (N:=a.ae.length) rfl (by omega) (fun i=>¬dv (cell b.row 0).ae (cell (ag a.ae i) 0).ae=true) (fun i hi _=> ?_) fun i hi h h' q=> ?_
 · simp[li,iW,gp,jQ,oJ,bL,bN,bH,af]
 · have e:=rI (a:=b.row) a.ae i hi h h'
   have e2:=IM a.ae i
   have e3:min i a.ae.length=i:=by omega
   simp[li,iW,gp,jQ,oJ,bL,bN,bH,RSh.cells,uQ,du,om,wb,e,e3,al,hi,-length_flatMap]
   omega)
theorem uw(f:List D->List D):∀(l:List (List D))(i:Nat),i<l.length->ag (l.flatMap fun r=>[f r]) i=f (ag l i)
 |[],i,h=>by simp at h
 |x::l,0,_=>rfl
 |x::l,i+1,h=>by
  have:=uw f l i (by simpa using h)
  simpa using this
theorem jW{l:List (List D)}{i:Nat}(h:i<l.length):ag (als l) i=bn (ag l i):=uw bn l i h
theorem gO{l:List (List D)}{i:Nat}(h:i<l.length):ag (grs l) i=iZ (ag l i):=uw iZ l i h
theorem BA{l:List (List D)}{i:Nat}(h:i<l.length):ag (subs l) i=eu (ag l i):=uw eu l i h
@[simp] theorem oF (l:List (List D)):(grs l).length=l.length:=nP _ l
@[simp] theorem BZ (l:List (List D)):(subs l).length=l.length:=nP _ l
@[simp] theorem PL (r:List D):List.drop 4 (bn r)=[]:=rfl
@[simp] theorem PJ (r:List D):List.drop 5 (iZ r)=[]:=rfl
@[simp] theorem Oo (r:List D):List.drop 2 (eu r)=[]:=rfl
@[simp] theorem R4 (r:List D):(iZ r).length=5:=rfl
@[simp] theorem PD (r:List D):(eu r).length=2:=rfl
theorem UE:GG H7:=gd (vc:=NO) [pB,Gx,I8,FJ] (by simp[ny,H9,L3,EK]) Tryz.func336 (args2 fun a b hw hp=>by
 simp[H7,zQ,dR] at hp
 have h:=Bw a.row
 have h':=mE b.row
 rcases aZ (fun r=>eqR (aH aC) (cell r 0).ae (cell b.row 0).ae=true) (cell a.row 4).ae with ⟨e,_⟩|⟨i,h1,h2,_⟩
 · have e':dW (cell a.row 4).ae (cell b.row 0).ae= -1:=e
   simp[NO,H7,zQ,gp,xL,li,Bz,dR,bN,br,oJ,bu,RSh.cells,f8,iZ,du,e,e',au]
   omega
 · have e':dW (cell a.row 4).ae (cell b.row 0).ae=(i:Int):=h2
   simp[NO,H7,zQ,gp,xL,li,Bz,dR,bN,br,oJ,bu,RSh.cells,f8,iZ,du,h2,e',au,h1,jW,af,om]
   omega)
theorem Tw:GG Gv:=gd (vc:=OG) (hs:=[⟨4,[1,2,3],[],false⟩]) [tP,qL,oH,Gd,yT] (by simp[pm,o0,mX,Iz,D7]) Tryz.func312 (args2 fun a b hw hp=>by
 simp[Gv,qu,dR] at hp
 have h:=Bw a.row
 have h':=mE b.row
 show OG.wp Φ (fun l=>l=dG (fun c'=>dR c' [a,b]) 0 Gv.ax) [a,b] _
 have hpre:am aM a.row<=1073741824:=by omega
 have hpre2:(cell b.row 0).ae.length<=1073741824:=by omega
 unfold OG
 rw[aJ,aJ]
 refine⟨by simp[qu,dz,gN,eh,mh,fJ,dR,aF,bL,bN,br,bH,hpre],by simp[qu,dz,gN,eh,mh,fJ,dR,aF,bL,bN,br,bH,hpre2],?_⟩
 refine j5 (s:=0) (N:=(cell a.row 4).ae.length) (fun i=>eqR (aH aC) (cell (ag (cell a.row 4).ae i) 0).ae (cell b.row 0).ae=true) rfl (fun d=>by simp) (by omega) (by omega) (fun i _ hi _=> ?_) (fun i _ hi hn hp q=> ?_) fun hn i q=> ?_
 · simp[qu,dz,gN,eh,mh,fJ,dR,aF,bL,bN,br,bH,af,hi]
 · have e:dW (cell a.row 4).ae (cell b.row 0).ae=(i:Int):=iK (p:=fun r=>eqR (aH aC) (cell r 0).ae (cell b.row 0).ae=true) hi hn hp
   simp[Gv,qu,dz,gN,eh,mh,fJ,dR,aF,bL,bN,br,bH,RSh.cells,f8,iZ,du,e,au,hi,jW,af,om]
 · have e:dW (cell a.row 4).ae (cell b.row 0).ae= -1:=f7 (p:=fun r=>eqR (aH aC) (cell r 0).ae (cell b.row 0).ae=true) hn
   refine Eh (N:=(cell a.row 4).ae.length) rfl (by omega) (fun i=>¬dv (cell b.row 0).ae (cell (ag (cell a.row 4).ae i) 0).ae=true) (fun i hi _=> ?_) fun k hk h1 h2 q=> ?_
   · simp[qu,dz,gN,eh,mh,fJ,dR,aF,bL,bN,br,bH,af]
   · have e1:=rI (a:=b.row) (cell a.row 4).ae k hk h1 h2
     have e2:=IM (cell a.row 4).ae k
     have e3:min k (cell a.row 4).ae.length=k:=by omega
     simp[Gv,qu,dz,gN,eh,mh,fJ,dR,aF,bL,bN,br,bH,RSh.cells,f8,iZ,uQ,du,om,wb,e,e1,e3,au,al,hk,-length_flatMap]
     omega)
theorem LT{p:List D->Prop}(h:∀a b c d e,p [a,b,c,d,e]):∀ds:List D,ds.length=5->p ds
 |[a,b,c,d,e],_=>h a b c d e
theorem zL(g a:List D):([cell (f8 g a) 0,.sl (cell (f8 g a) 1).ae,cell (f8 g a) 2,cell (f8 g a) 3,.sl (cell (f8 g a) 4).ae]:List D)=f8 g a:=rfl
@[simp] theorem PK (g a:List D):(f8 g a).length=5:=rfl
@[simp] theorem Xc (a b c d e:D):chunk 5 1 [a,b,c,d,e]=[[a,b,c,d,e]]:=rfl
theorem xK(g:List D)(n:D):([cell (gw g n) 0,.sl (cell (gw g n) 1).ae,cell (gw g n) 2,cell (gw g n) 3,.sl (cell (gw g n) 4).ae]:List D)=gw g n:=rfl
@[simp] theorem OJ (g:List D) (n:D):(gw g n).length=5:=rfl
theorem za{l:List (List D)}{i:Nat}(h:i<l.length):am aM (ag l i)<=aD (am aM) l:=cb h
theorem VV:GG Gt:=gd (vc:=Oa) [GI,pB,Ga,CU,H7] (by simp[Ib,ny,Hq,Hx,UE]) Tryz.func320 (LT fun a b c d e hw hp=>by
 simp[Gt,vA,cZ] at hp
 have h':=mE b.row
 rcases aZ (fun g=>eqR (aH aC) (cell g 1).ae (bX (cell b.row 0).ae c.ae)=true) a.ae with ⟨q,_⟩|⟨i,h1,h2,_⟩
 · have q':gH a.ae (bX (cell b.row 0).ae c.ae)= -1:=q
   simp[Oa,Gt,vA,qU,gp,qk,mO,zQ,cZ,gC,bN,cJ,cP,dR,RSh.cells,fN,du,q,q',au,al,om]
   omega
 · have q':gH a.ae (bX (cell b.row 0).ae c.ae)=(i:Int):=h2
   have h3:=za h1
   simp[Oa,Gt,vA,qU,gp,qk,mO,zQ,cZ,gC,bN,cJ,cP,dR,RSh.cells,fN,du,h2,q',au,h1,gO,af,zL]
   omega)
theorem Wv:GG FP:=gd (vc:=M6) [FZ,oH,DH,II,Gv] (by simp[GZ,mX,GR,LP,Tw]) Tryz.func266 (LT fun a b c d e hw hp=>by
 simp[FP,vP,cZ] at hp
 have h':=mE b.row
 rcases aZ (fun g=>eqR (aH aC) (cell g 1).ae (bX (cell b.row 0).ae c.ae)=true) a.ae with ⟨q,_⟩|⟨i,h1,h2,_⟩
 · have q':gH a.ae (bX (cell b.row 0).ae c.ae)= -1:=q
   simp[M6,FP,vP,qF,eh,lS,wC,qu,cZ,gC,bN,cP,cJ,dR,RSh.cells,fN,du,q,q',au,al,om]
   omega
 · have q':gH a.ae (bX (cell b.row 0).ae c.ae)=(i:Int):=h2
   have h3:=za h1
   simp[M6,FP,vP,qF,eh,lS,wC,qu,cZ,gC,bN,cP,cJ,dR,RSh.cells,fN,du,h2,q',au,h1,gO,af,zL]
   omega)
theorem z8(l:List (List D))(i:Nat)(x:List D):(l.set i x).take i=l.take i:=by
 rw[List.take_set,List.set_eq_of_length_le (by simp;omega)]
theorem BM(l:List (List D))(i:Nat)(x:List D):(l.set i x).drop (i+1)=l.drop (i+1):=List.drop_set_of_lt (by omega)
theorem AP(l:List (List D))(i:Nat):((grs l).drop i).take (l.length - i)=(grs l).drop i:=take_of_length_le (by simp)
theorem UO:GG C6:=gde (vc:=Kh) [GI,Ha,Lb] (by simp[Ib,L5,Uh]) Tryz.func322 (mZ fun a b c hw hp=>by
 simp[C6,qx,co] at hp
 rcases aZ (fun g=>(cell g 0).ZY=b.ZY) a.ae with ⟨q,_⟩|⟨i,h1,h2,_⟩
 · have q':eo a.ae b.ZY= -1:=q
   simp[Kh,C6,qx,qU,ta,A7,co,gC,cG,fW,RSh.cells,iz,q',au,hp]
 · have q':eo a.ae b.ZY=(i:Int):=h2
   have h3:=za h1
   have h4:am aM (ag a.ae i)<=1073741824:=by omega
   have e1:IntKind.i64.wrap ((i:Int)+1)=((i+1:Nat):Int):=by rw[w64 (by omega) (by omega)];simp
   have e2:¬(i:Int)<0:=by omega
   have e3:min i a.ae.length=i:=by omega
   by_cases hs:(cell (gw (ag a.ae i) c) 4).ae=[]
   · have hs':iC (cell (ag a.ae i) 4).ae c.ZY=[]:=hs
     simp[Kh,C6,qx,qU,ta,A7,co,gC,cG,fW,RSh.cells,iz,q',au,h1,h4,hp,gO,af,hs,hs',e1,e2,e3,z8,BM,AP,al]
     omega
   · have hs':¬iC (cell (ag a.ae i) 4).ae c.ZY=[]:=hs
     simp[Kh,C6,qx,qU,ta,A7,co,gC,cG,fW,RSh.cells,iz,q',au,h1,h4,hp,gO,af,xK,hs,hs',e1,e2])
theorem I5(l:List (List D))(i:Nat):grs (l.take i)=(grs l).take i:=by
 unfold grs
 induction l generalizing i with
 |nil=>simp
 |cons x l ih=>
  cases i with
  |zero=>simp
  |succ i=>simp[ih]
theorem Ir(l:List (List D))(i:Nat):grs (l.drop i)=(grs l).drop i:=by
 unfold grs
 induction l generalizing i with
 |nil=>simp
 |cons x l ih=>
  cases i with
  |zero=>simp
  |succ i=>simp[ih]
theorem I7(l:List (List D))(n:Nat):aD (am aM) (l.take n)+aD (am aM) (l.drop n)=aD (am aM) l:=by
 rw[<-bI,take_append_drop]
theorem W6:GG Ci:=gde (vc:=Le) [FZ,Ii,KE] (by simp[GZ,MC,R5]) Tryz.func268 (mZ fun a b c hw hp=>by
 simp[Ci,qD,co] at hp
 rcases aZ (fun g=>(cell g 0).ZY=b.ZY) a.ae with ⟨q,_⟩|⟨i,h1,h2,_⟩
 · have q':eo a.ae b.ZY= -1:=q
   simp[Le,Ci,qD,qF,tk,tE,co,gC,cG,fW,RSh.cells,iz,q',au,hp]
 · have q':eo a.ae b.ZY=(i:Int):=h2
   have h3:=za h1
   have h4:am aM (ag a.ae i)<=1073741824:=by omega
   have e1:IntKind.i64.wrap ((i:Int)+1)=((i+1:Nat):Int):=by rw[w64 (by omega) (by omega)];simp
   have e2:¬(i:Int)<0:=by omega
   have e3:min i a.ae.length=i:=by omega
   have e4:=I7 a.ae i
   have e5:=I7 a.ae (i+1)
   by_cases hs:(cell (gw (ag a.ae i) c) 4).ae=[]
   · have hs':iC (cell (ag a.ae i) 4).ae c.ZY=[]:=hs
     simp[Le,Ci,qD,qF,tk,tE,co,gC,cG,fW,RSh.cells,iz,q',au,h1,h4,hp,gO,af,hs,hs',e1,e2,e3,I5,Ir,wb,AP,al]
     omega
   · have hs':¬iC (cell (ag a.ae i) 4).ae c.ZY=[]:=hs
     simp[Le,Ci,qD,qF,tk,tE,co,gC,cG,fW,RSh.cells,iz,q',au,h1,h4,hp,gO,af,xK,hs,hs',e1,e2])
def InPlace(m:List D)(i:Nat):Prop:=iS (ag (cell m 6).ae i)∧(0<i->dv (cell (ag (cell m 6).ae (i - 1)) 0).ae (cell (ag (cell m 6).ae i) 0).ae=true)
theorem U8:GG SZ:=gd (vc:=OR) (hs:=[⟨4,[0],[],false⟩,⟨10,[0],[],false⟩]) [IH,JS,FR,D0,Kj,zI] (by simp[IW,Md,Ej,EV,LH,D2]) Tryz.func205 (args1 fun a hw hp=>by
 show OR.wp Φ (fun l=>l=[.bool (tt (eG a.row))]) [a] _
 unfold OR
 by_cases hc:jz a.row∧((cell a.row 6).ae.length:Int)<=(cell a.row 1).ZY∧tD (cell a.row 7).ae (cell a.row 2).ZY∧kS (cell a.row 8).ae∧0<=(cell a.row 10).ZY∧eA (cell a.row 9).ae (cell a.row 5).ae
 · obtain⟨c1,c2,c3,c4,c5,c6⟩:=hc
   have c2':¬(cell a.row 1).ZY<((cell a.row 6).ae.length:Int):=by omega
   have c5':¬(cell a.row 10).ZY<0:=by omega
   have hcap:=c1.2.1
   simp only[In] at hcap
   have hgr:=c6.1
   rw[aJ,aO]
   refine⟨by simp[sV,mN,pe,mK,eB,l6,jQ,mB,bH],fun h=> ?_,fun _=> ?_⟩
   · simp[sV,mN,pe,mK,eB,l6,jQ,mB,bH,c1,c2',c3,c4,c5',c6] at h
   refine df (s:=0) (N:=(cell a.row 6).ae.length) (InPlace a.row) rfl (fun d=>by simp) (by omega) (by omega) (fun h i _ hi=>h.2.2.2.2.2.2.1 i hi) (fun i _ hi _=> ?_) fun hL i q=> ?_
   · by_cases h0:0<i
     · simp[sV,mN,pe,mK,eB,l6,jQ,mB,bH,af,hi,gS _ h0,iJ (i:=i) (by omega),h0,InPlace]
       grind
     · have:i=0:=by omega
       subst this
       simp[sV,mN,pe,mK,eB,l6,jQ,mB,bH,gf,hi,InPlace]
   refine cq (s:=0) (N:=(cell a.row 9).ae.length) (fun i=>(cell (ag (cell a.row 9).ae i) 0).ZY<(cell a.row 10).ZY) rfl (fun d=>by simp) (by omega) (by omega) (fun h i _ hi=>h.2.2.2.2.2.2.2 i hi) (fun i _ hi _=> ?_) fun hG i q=> ?_
   · simp[af,hi]
   have:eG a.row:=⟨c1,c2,c3,c4,c5,c6,fun i hi=>hL i (by omega) hi,fun i hi=>hG i (by omega) hi⟩
   simp[bW _ |>.mpr this]
 · have hz:¬eG a.row:=fun h=>hc ⟨h.1,h.2.1,h.2.2.1,h.2.2.2.1,h.2.2.2.2.1,h.2.2.2.2.2.1⟩
   rw[aJ,aO]
   refine⟨by simp[sV,mN,pe,mK,eB,l6,jQ,mB,bH],fun _=>by simp[bM _ |>.mpr hz],fun h=> ?_⟩
   simp[sV,mN,pe,mK,eB,l6,jQ,mB,bH] at h
   grind)
theorem UM:GG VB:=gd (vc:=v193) (hs:=[⟨4,[0],[],false⟩,⟨9,[0],[],false⟩,⟨14,[0],[],false⟩]) [g85,g88,g89,CR,Ke,yT] (by simp[O8,NG,Vo,D6,Mg,D7]) Tryz.func193 (args1 fun a hw hp=>by
 show v193.wp Φ (fun l=>l=[.bool (tt (eG a.row))]) [a] _
 unfold v193
 by_cases hc:jz a.row∧((cell a.row 6).ae.length:Int)<=(cell a.row 1).ZY∧((cell a.row 7).ae.length:Int)=(cell a.row 2).ZY∧kS (cell a.row 8).ae∧0<=(cell a.row 10).ZY∧eA (cell a.row 9).ae (cell a.row 5).ae
 · obtain⟨c1,c2,c3,c4,c5,c6⟩:=hc
   have c2':¬(cell a.row 1).ZY<((cell a.row 6).ae.length:Int):=by omega
   have c5':¬(cell a.row 10).ZY<0:=by omega
   have hcap:=c1.2.1
   have hsub:=c1.2.2.1
   simp only[In] at hcap hsub
   have hgr:=c6.1
   rw[aJ,aO]
   refine⟨by simp[iw,lC,j8,oK,dF,iV,fJ,mB,bH],fun h=> ?_,fun _=> ?_⟩
   · simp[iw,lC,j8,oK,dF,iV,fJ,mB,bH,c1,c2',c3,c4,c5',c6] at h
   refine cq (s:=0) (N:=(cell a.row 6).ae.length) (InPlace a.row) rfl (fun d=>by simp) (by omega) (by omega) (fun h i _ hi=>h.2.2.2.2.2.2.1 i hi) (fun i _ hi _=> ?_) fun hL i q=> ?_
   · by_cases h0:0<i
     · simp[iw,lC,j8,oK,dF,iV,fJ,mB,bH,af,hi,gS _ h0,iJ (i:=i) (by omega),h0,InPlace]
       grind
     · have:i=0:=by omega
       subst this
       simp[iw,lC,j8,oK,dF,iV,fJ,mB,bH,gf,hi,InPlace]
   refine cq (s:=0) (N:=(cell a.row 7).ae.length) (fun i=>tW (ag (cell a.row 7).ae i)) rfl (fun d=>by simp) (by omega) (by omega) (fun h i _ hi=>h.2.2.1.1 i hi) (fun i _ hi _=> ?_) fun hS i q=> ?_
   · simp[iw,lC,j8,oK,dF,iV,fJ,mB,bH,af,hi]
   refine cq (s:=0) (N:=(cell a.row 9).ae.length) (fun i=>(cell (ag (cell a.row 9).ae i) 0).ZY<(cell a.row 10).ZY) rfl (fun d=>by simp) (by omega) (by omega) (fun h i _ hi=>h.2.2.2.2.2.2.2 i hi) (fun i _ hi _=> ?_) fun hG i q=> ?_
   · simp[af,hi]
   have:eG a.row:=⟨c1,c2,⟨fun i hi=>hS i (by omega) hi,c3⟩,c4,c5,c6,fun i hi=>hL i (by omega) hi,fun i hi=>hG i (by omega) hi⟩
   simp[bW _ |>.mpr this]
 · have hz:¬eG a.row:=fun h=>hc ⟨h.1,h.2.1,h.2.2.1.2,h.2.2.2.1,h.2.2.2.2.1,h.2.2.2.2.2.1⟩
   rw[aJ,aO]
   refine⟨by simp[iw,lC,j8,oK,dF,iV,fJ,mB,bH],fun _=>by simp[bM _ |>.mpr hz],fun h=> ?_⟩
   simp[iw,lC,j8,oK,dF,iV,fJ,mB,bH] at h
   grind)
theorem Tb:GG JU:=gde (vc:=Vq) [pI,pB] (by simp[ny,oS]) Tryz.func149 (args1 fun a hw hp=>by
 simp only[JU,told,HO,cQ,fV,aq] at hp
 have h1:=szW a.row
 simp[Vq,JU,RSh.cells,HO,gp,iW,cQ,bN,bL,Ao,bn,chunk,rowAt,al,fI,-length_flatMap]
 have h3:∀xs:List (List D),Go.Vx.rowAt xs 3=ag xs 3:=fun _=>rfl
 simp only[h3]
 refine⟨fun x1 x2=> ?_,fun x1=> ?_⟩
 · have hk:3<(cell a.row 17).ae.length:=by omega
   have h4:=cb (p:=am ma) hk
   have h5:=SO (ag (cell a.row 17).ae 3)
   rw[show tt (3<(cell a.row 17).ae.length∧(cell (ag (cell a.row 17).ae 3) 0).ZY=5)=true by simp;exact⟨hk,x2⟩]
   exact⟨by omega,by omega,rfl⟩
 · rw[show tt (3<(cell a.row 17).ae.length∧(cell (ag (cell a.row 17).ae 3) 0).ZY=5)=false by simp;intro y;exact x1 (by omega)]
   exact⟨by omega,rfl⟩)
theorem UV:GG Ld:=gde (vc:=v138) [qL,oH] (by simp[mX,o0]) Tryz.func138 (args1 fun a hw hp=>by
 simp only[Ld,told,Ml,cQ,fV,aq] at hp
 have h1:=szW a.row
 simp[v138,Ld,RSh.cells,Ml,eh,gN,cQ,bN,bL,Ao,bn,chunk,rowAt,al,fI,-length_flatMap]
 have h3:∀xs:List (List D),Go.Vx.rowAt xs 3=ag xs 3:=fun _=>rfl
 simp only[h3]
 refine⟨fun x1 x2=> ?_,fun x1=> ?_⟩
 · have hk:3<(cell a.row 17).ae.length:=by omega
   have h4:=cb (p:=am ma) hk
   have h5:=SO (ag (cell a.row 17).ae 3)
   rw[show tt (3<(cell a.row 17).ae.length∧(cell (ag (cell a.row 17).ae 3) 0).ZY=5)=true by simp;exact⟨hk,x2⟩]
   exact⟨by omega,by omega,rfl⟩
 · rw[show tt (3<(cell a.row 17).ae.length∧(cell (ag (cell a.row 17).ae 3) 0).ZY=5)=false by simp;intro y;exact x1 (by omega)]
   exact⟨by omega,rfl⟩)
theorem Zy(r:List D):(cell r 9).ae.length+(cell r 12).ae.length<=am fG r:=by
 simp only[aw,aA,szD,bf,zero_add,reduceAdd]
 omega
theorem YL:GG g76:=gd (vc:=v76) [Nx,Oz,Ol,pO,HX,JU] (by simp[Sn,Tn,WY,qm,L6,Tb]) Tryz.func76 (args2 fun a b hw hp=>by
 simp[g76,HF,eE] at hp
 have h1:=Dc a.row
 have e1:tt (am fG a.row<=1048576)=true:=by rw[bW];exact hp
 have e2:tt ((cell a.row 8).ae.length+aD (am dw) (cell a.row 8).ae<=1048576)=true:=by rw[bW];omega
 simp[v76,g76,HF,Mm,show Φ 145=aF de from rfl,show Φ 146=aF aM from rfl,fa,oV,HO,
  aN,aF,cR,cQ,eE,jX,e1,e2,hp,-length_flatMap]
 cases hc:(aH gZ a.row b.row&&tt ((cell a.row 13).ZY=(cell b.row 10).ZY)&&eqR (aH de) (cell a.row 9).ae (cell b.row 7).ae&&eqR (aH aM) (cell a.row 12).ae (cell b.row 9).ae)
 · simp
 · simp only[cond_true,Bool.true_and]
   cases hd:eqR (aH aj) (jR (cell a.row 8).ae) (cell b.row 6).ae
   · simp
   · simp[I3])
theorem ZB:GG g73:=gd (vc:=v73) (hs:=[⟨4,[0],[],false⟩,⟨9,[0],[],false⟩]) [Ow,wy,Hf,Ld,Pz,ND] (by simp[SY,vH,L0,UV,SI,P0]) Tryz.func73 (args2 fun a b hw hp=>by
 simp[g73,BU,eE] at hp
 clear hw
 have h2:=Zy a.row
 have h1:=Dc a.row
 have e1:tt (am fG a.row<=1048576)=true:=by rw[bW];exact hp
 have e2:tt ((cell a.row 8).ae.length+aD (am dw) (cell a.row 8).ae<=1048576)=true:=by rw[bW];omega
 have k1:Φ 135=aN gZ:=rfl
 have k2:Φ 136=aF aj:=rfl
 have k3:Φ 137=cR:=rfl
 have k4:Φ 138=cQ:=rfl
 have k5:Φ 139=aN de:=rfl
 have k6:Φ 140=aN aM:=rfl
 unfold v73
 rw[aJ]
 refine⟨?_,?_⟩
 · cases hA:aH gZ a.row b.row
   · simp[k1,k2,k3,k4,aN,aF,cR,cQ,e1,e2,hp,-length_flatMap,hA]
   · by_cases hB:(cell a.row 13).ZY=(cell b.row 10).ZY
     · by_cases hC:((cell a.row 9).ae.length:Int)=(cell b.row 7).ae.length
       · by_cases hD:((cell a.row 12).ae.length:Int)=(cell b.row 9).ae.length
         · cases hE:eqR (aH aj) (jR (cell a.row 8).ae) (cell b.row 6).ae
           · simp[k1,k2,k3,k4,aN,aF,cR,cQ,e1,e2,hp,-length_flatMap,hA,hB,hC,hD,hE]
           · simp[k1,k2,k3,k4,aN,aF,cR,cQ,e1,e2,hp,-length_flatMap,hA,hB,hC,hD,hE]
         · simp[k1,k2,k3,k4,aN,aF,cR,cQ,e1,e2,hp,-length_flatMap,hA,hB,hC,hD]
       · simp[k1,k2,k3,k4,aN,aF,cR,cQ,e1,e2,hp,-length_flatMap,hA,hB,hC]
     · simp[k1,k2,k3,k4,aN,aF,cR,cQ,e1,e2,hp,-length_flatMap,hA,hB]
 have hout:(g73.ax.length=1):=rfl
 by_cases hall:(aH gZ a.row b.row=true∧(cell a.row 13).ZY=(cell b.row 10).ZY)∧(((cell a.row 9).ae.length:Int)=(cell b.row 7).ae.length∧((cell a.row 12).ae.length:Int)=(cell b.row 9).ae.length)∧eqR (aH aj) (jR (cell a.row 8).ae) (cell b.row 6).ae=true∧eqR (aH aj) (I3 a.row) (cell b.row 8).ae=true
 · obtain⟨⟨hA,hB⟩,⟨hC,hD⟩,hE,hF⟩:=hall
   have hF':eqR (aH aj) (Ao a.row++(cell a.row 10).ae.flatMap fun r=>[bn r]) (cell b.row 8).ae=true:=hF
   rw[aO]
   refine⟨fun h=> ?_,fun _=> ?_⟩
   · simp[k1,k2,k3,k4,aN,aF,cR,cQ,e1,e2,hp,-length_flatMap,hA,hB,hC,hD,hE,hF'] at h
   · have hC':(cell a.row 9).ae.length=(cell b.row 7).ae.length:=by omega
     have hD':(cell a.row 12).ae.length=(cell b.row 9).ae.length:=by omega
     have hag:jX a.row b.row=(eqR (aH de) (cell a.row 9).ae (cell b.row 7).ae&&eqR (aH aM) (cell a.row 12).ae (cell b.row 9).ae):=by
      simp[jX,hA,hB,hE,hF]
     refine bT (Φ:=Φ) (N:=(cell a.row 9).ae.length) rfl (fun _=>by simp) (by omega) (fun i=>∀j,j<i->aH de (ag (cell a.row 9).ae j) (ag (cell b.row 7).ae j)=true) (fun j hj=>by omega) (fun i hi hI=> ?_) fun hI p=> ?_
     · simp[af,hi,k5,aN,g73,BU,eE,hag]
       refine⟨by omega,fun hf hs=> ?_,fun ht j hj=> ?_⟩
       · have:=(j0.1 hs).2 i hi
         rw[hf] at this;cases this
       · rcases lt_or_ge j i with q|q
         · exact hI j q
         · have:j=i:=by omega
           subst this;exact ht
     · refine bT (Φ:=Φ) (N:=(cell a.row 12).ae.length) rfl (fun _=>by simp) (by omega) (fun i=>∀j,j<i->aH aM (ag (cell a.row 12).ae j) (ag (cell b.row 9).ae j)=true) (fun j hj=>by omega) (fun i hi hJ=> ?_) fun hJ p=> ?_
       · simp[af,hi,k6,aN,g73,BU,eE,hag]
         refine⟨by omega,fun hf hs=> ?_,fun ht j hj=> ?_⟩
         · rw[Bool.eq_false_iff]
           intro hg
           have:=(j0.1 hg).2 i hi
           rw[hf] at this;cases this
         · rcases lt_or_ge j i with q|q
           · exact hJ j q
           · have:j=i:=by omega
             subst this;exact ht
       · simp[g73,BU,eE,hag]
         exact⟨j0.2 ⟨hC',hI⟩,j0.2 ⟨hD',hJ⟩⟩
 · rw[aO]
   refine⟨fun _=> ?_,fun h=> ?_⟩
   · have hf:jX a.row b.row=false:=by
      rw[Bool.eq_false_iff]
      intro hag
      apply hall
      simp only[jX,Bool.and_eq_true,bW] at hag
      obtain⟨⟨⟨⟨⟨q1,q2⟩,q3⟩,q4⟩,q5⟩,q6⟩:=hag
      exact⟨⟨q1,q2⟩,⟨by rw[(j0.1 q3).1],by rw[(j0.1 q4).1]⟩,q5,q6⟩
     simp[g73,BU,eE,hf]
   · exfalso
     apply hall
     cases hA:aH gZ a.row b.row
     · simp[k1,k2,k3,k4,aN,aF,cR,cQ,e1,e2,hp,-length_flatMap,hA] at h
     · by_cases hB:(cell a.row 13).ZY=(cell b.row 10).ZY
       · by_cases hC:((cell a.row 9).ae.length:Int)=(cell b.row 7).ae.length
         · by_cases hD:((cell a.row 12).ae.length:Int)=(cell b.row 9).ae.length
           · cases hE:eqR (aH aj) (jR (cell a.row 8).ae) (cell b.row 6).ae
             · simp[k1,k2,k3,k4,aN,aF,cR,cQ,e1,e2,hp,-length_flatMap,hA,hB,hC,hD,hE] at h
             · simp[k1,k2,k3,k4,aN,aF,cR,cQ,e1,e2,hp,-length_flatMap,hA,hB,hC,hD,hE] at h
               exact⟨⟨rfl,hB⟩,⟨hC,hD⟩,rfl,h⟩
           · simp[k1,k2,k3,k4,aN,aF,cR,cQ,e1,e2,hp,-length_flatMap,hA,hB,hC,hD] at h
         · simp[k1,k2,k3,k4,aN,aF,cR,cQ,e1,e2,hp,-length_flatMap,hA,hB,hC] at h
       · simp[k1,k2,k3,k4,aN,aF,cR,cQ,e1,e2,hp,-length_flatMap,hA,hB] at h)
theorem Cs(d:List D):am aj (aG d)<=am dg d:=by
 simp only[aw,aA,szD,bf,zero_add,reduceAdd,aG,aq,ay]
 omega
theorem RG:cW Tryz.prog Φ CP:=kD tok mixed (l:=[u0,Bi]) (by simp[xm,JA]) Tryz.func275 (by decide) (by decide) (by decide) KF (args2 fun a b hp=>by
 simp[CP,show Φ 275=mMB (fun _ d=>ai d) getM from rfl,mMB] at hp
 rcases aZ (fun r=>eqR (aH aC) (cell r 0).ae (cell b.row 6).ae=true) (cell a.row 6).ae with ⟨q,_⟩|⟨i,h1,h2,_⟩
 · have q':dW (cell a.row 6).ae (cell b.row 6).ae= -1:=q
   by_cases hc:(cell b.row 9).ZY=6<;>simp[Pt,CP,show Φ 275=mMB (fun _ d=>ai d) getM from rfl,iT,kr,mMB,aN,bu,getM,aL,mkM,au,q,q',hc,bd,bY,List.range,List.range.loop]
 · have q':dW (cell a.row 6).ae (cell b.row 6).ae=(i:Int):=h2
   have e2:¬(i:Int)<0:=by omega
   have e3:(((cell b.row 10).ae.length:Int)=1)=((cell b.row 10).ae.length=1):=propext (by omega)
   by_cases hc:(cell b.row 9).ZY=6<;>by_cases hg:(cell b.row 10).ae.length=1<;>simp[Pt,CP,show Φ 275=mMB (fun _ d=>ai d) getM from rfl,iT,kr,mMB,aN,bu,getM,aL,mkM,au,h2,q',hc,h1,hg,e2,e3,af,bd,bY,List.range,List.range.loop])
theorem PS:cW Tryz.prog Φ FO:=kD tok mixed (l:=[sU,B2]) (by simp[wx,IO]) Tryz.func196 (by decide) (by decide) (by decide) JQ (args2 fun a b hp=>by
 simp[FO,show Φ 196=mMB (fun _ d=>ai d) getM from rfl,mMB] at hp
 rcases aZ (fun r=>eqR (aH aC) (cell r 0).ae (cell b.row 6).ae=true) (cell a.row 6).ae with ⟨q,_⟩|⟨i,h1,h2,_⟩
 · have q':dW (cell a.row 6).ae (cell b.row 6).ae= -1:=q
   by_cases hc:(cell b.row 9).ZY=6<;>simp[v196,FO,show Φ 196=mMB (fun _ d=>ai d) getM from rfl,fQ,k7,mMB,aN,bu,getM,aL,mkM,au,q,q',hc,bd,bY,List.range,List.range.loop]
 · have q':dW (cell a.row 6).ae (cell b.row 6).ae=(i:Int):=h2
   have e2:¬(i:Int)<0:=by omega
   have e3:(((cell b.row 10).ae.length:Int)=1)=((cell b.row 10).ae.length=1):=propext (by omega)
   by_cases hc:(cell b.row 9).ZY=6<;>by_cases hg:(cell b.row 10).ae.length=1<;>simp[v196,FO,show Φ 196=mMB (fun _ d=>ai d) getM from rfl,fQ,k7,mMB,aN,bu,getM,aL,mkM,au,h2,q',hc,h1,hg,e2,e3,af,ox aj (ag (cell b.row 10).ae 0),bd,bY,List.range,List.range.loop])
theorem P6:cW Tryz.prog Φ B9:=kD tok mixed (l:=[u0,pB,Bi,H8]) (by simp[xm,ny,JA,V8]) Tryz.func274 (by decide) (by decide) (by decide) JW (args2 fun a b hp=>by
 simp[B9,show Φ 274=mMB (fun _ d=>ai d) bZ from rfl,mMB] at hp
 obtain⟨⟨hs1,hs2⟩,hM,hR,hD⟩:=hp
 have h3:=Cs b.row
 have h4:=qE a.row
 have h5:=mE (aG b.row)
 rcases aZ (fun r=>eqR (aH aC) (cell r 0).ae (cell b.row 2).ae=true) (cell a.row 6).ae with ⟨q,_⟩|⟨i,h1,h2,_⟩
 · have q':dW (cell a.row 6).ae (cell b.row 2).ae= -1:=q
   simp[Lj,B9,show Φ 274=mMB (fun _ d=>ai d) bZ from rfl,iT,gp,kr,w5,mMB,aN,bN,bu,dP,bZ,aL,mkM,au,q,q',bd,List.range,List.range.loop]
 · have q':dW (cell a.row 6).ae (cell b.row 2).ae=(i:Int):=h2
   have e2:¬(i:Int)<0:=by omega
   cases he:aH aj (ag (cell a.row 6).ae i) (aG b.row)
   · have he':=he
     simp only[aG] at he'
     simp[Lj,B9,show Φ 274=mMB (fun _ d=>ai d) bZ from rfl,iT,gp,kr,w5,mMB,aN,bN,bu,dP,bZ,aL,mkM,atL,au,h2,q',h1,e2,he,he',af,bd,List.range,List.range.loop]
   · have he':=he
     simp only[aG,aq] at he' h3 h5
     simp[Lj,B9,show Φ 274=mMB (fun _ d=>ai d) bZ from rfl,iT,gp,kr,w5,mMB,aN,bN,bu,dP,bZ,aL,mkM,atL,au,h2,q',h1,e2,he,he',af,bd,List.range,List.range.loop,al,bn,chunk,aG]
     omega)
theorem VK:cW Tryz.prog Φ Dq:=kD tok mixed (l:=[sU,oH,B2,GU]) (by simp[wx,mX,IO,WM]) Tryz.func195 (by decide) (by decide) (by decide) Lp (args2 fun a b hp=>by
 simp[Dq,show Φ 195=mMB (fun _ d=>ai d) bZ from rfl,mMB] at hp
 obtain⟨⟨hs1,hs2⟩,hM,hR,hD⟩:=hp
 have h3:=Cs b.row
 have h4:=qE a.row
 have h5:=mE (aG b.row)
 rcases aZ (fun r=>eqR (aH aC) (cell r 0).ae (cell b.row 2).ae=true) (cell a.row 6).ae with ⟨q,_⟩|⟨i,h1,h2,_⟩
 · have q':dW (cell a.row 6).ae (cell b.row 2).ae= -1:=q
   simp[KL,Dq,show Φ 195=mMB (fun _ d=>ai d) bZ from rfl,fQ,eh,k7,w6,mMB,aN,bN,bu,dP,bZ,aL,mkM,au,q,q',bd,List.range,List.range.loop]
 · have q':dW (cell a.row 6).ae (cell b.row 2).ae=(i:Int):=h2
   have e2:¬(i:Int)<0:=by omega
   cases he:aH aj (ag (cell a.row 6).ae i) (aG b.row)
   · have he':=he
     simp only[aG] at he'
     simp[KL,Dq,show Φ 195=mMB (fun _ d=>ai d) bZ from rfl,fQ,eh,k7,w6,mMB,aN,bN,bu,dP,bZ,aL,mkM,atL,au,h2,q',h1,e2,he,he',af,bd,List.range,List.range.loop]
   · have he':=he
     simp only[aG,aq] at he' h3 h5
     simp[KL,Dq,show Φ 195=mMB (fun _ d=>ai d) bZ from rfl,fQ,eh,k7,w6,mMB,aN,bN,bu,dP,bZ,aL,mkM,atL,au,h2,q',h1,e2,he,he',af,bd,List.range,List.range.loop,al,bn,chunk,aG]
     omega)
theorem G3{lt:List D->List D->Bool}{acc:List (List D)}{x:List D}(h:∀y,y∈acc->lt x y=false):jY lt acc x=acc++[x]:=by
 have e:posR (lt x) acc acc.length=acc.length:=by
  rcases Nat.eq_zero_or_pos acc.length with hn|hn
  · rw[hn];rfl
  · obtain⟨k,hk⟩:∃k,acc.length=k+1:=⟨acc.length - 1,by omega⟩
    rw[hk,posR,if_neg]
    show ¬lt x (ag acc k)=true
    rw[h _ (iG (by omega))];simp
 rw[jY,e];simp
theorem ww{lt:List D->List D->Bool}:∀(l acc:List (List D)),((acc++l).Pairwise fun a b=>lt b a=false)->l.foldl (jY lt) acc=acc++l
 |[],acc,_=>by simp
 |x::l,acc,h=>by
  rw[List.foldl_cons,G3 fun y hy=>(List.pairwise_append.1 h).2.2 y hy x (by simp),ww l (acc++[x]) (by simpa using h)]
  simp
theorem HG{lt:List D->List D->Bool}{l:List (List D)}(h:l.Pairwise fun a b=>lt b a=false):stS lt l=l:=by
 have:=ww (lt:=lt) l [] (by simpa using h)
 simpa[stS] using this
theorem AY:∀{l:List (List D)},(∀i,i<l.length->0<i->ltA (ag l (i - 1)) (ag l i)=true)->l.Pairwise fun a b=>ltA a b=true
 |[],_=>Pairwise.nil
 |x::l,h=>by
  have ih:l.Pairwise fun a b=>ltA a b=true:=AY fun i hi h0=>by
   have:=h (i+1) (by simpa using hi) (by omega)
   obtain⟨k,rfl⟩:∃k,i=k+1:=⟨i - 1,by omega⟩
   simpa using this
  refine Pairwise.cons (fun y hy=> ?_) ih
  cases l with
  |nil=>cases hy
  |cons z l=>
   have h1:ltA x z=true:=by simpa using h 1 (by simp) (by omega)
   rcases List.mem_cons.1 hy with rfl|hy
   · exact h1
   · exact ki.trans _ _ _ h1 ((List.pairwise_cons.1 ih).1 y hy)
theorem Lr{l:List (List D)}(h:l.Pairwise fun a b=>ltA a b=true):l.Pairwise fun a b=>ltA b a=false:=
 h.imp fun{a b} q=>by
  cases e:ltA b a
  · rfl
  · have:=ki.trans _ _ _ q e
    rw[ki.irrefl] at this;cases this
theorem lu:∀l:List (List D),als l=l.map bn
 |[]=>rfl
 |x::l=>by rw[map_cons,<-lu l];rfl
theorem Zu{l:List (List D)}{a:List D}(hs:l.Pairwise fun a b=>ltA b a=false):posR (ltA (bn a)) (l.map bn) l.length=q9 l a:=by
 have hp:∀j,j<l.length->ltA (bn a) ((l.map bn).getD j default)=dv (cell a 0).ae (cell (ag l j) 0).ae:=fun j hj=>by
  show ltA (bn a) (ag (l.map bn) j)=_
  rw[<-lu,jW hj];rfl
 symm
 refine rI l _ (ln _ _ _) (fun j hj hc=> ?_) ?_
 · have h1:=y3 (ltA (bn a)) (l.map bn) l.length (by omega)
   have h2:=ln (ltA (bn a)) (l.map bn) l.length
   generalize posR (ltA (bn a)) (l.map bn) l.length=p at*
   rw[hp _ (by omega)] at h1
   have h3:ltA (ag l (p - 1)) (ag l j)=false:=by
    rcases lt_or_ge j (p - 1) with q|q
    · rw[fu (by omega),fu (by omega)]
      exact List.pairwise_iff_getElem.1 hs j (p - 1) (by omega) (by omega) q
    · rw[show j=p - 1 by omega];exact ki.irrefl _
   have h4:=ki.ntrans _ _ _ h1 h3
   rw[h4] at hc;cases hc
 · rcases lt_or_ge (posR (ltA (bn a)) (l.map bn) l.length) l.length with q|q
   · refine .inr fun hn=>hn ?_
     rw[<-hp _ q]
     exact zy (ltA (bn a)) (l.map bn) l.length _ (le_refl _) q
   · exact .inl (Nat.le_antisymm (ln _ _ _) q)
theorem Ll{l:List (List D)}{a:List D}(hs:l.Pairwise fun a b=>ltA b a=false):stS ltA ((l++[a]).map bn)=uQ l a:=by
 rw[List.map_append,map_cons,map_nil,vC,HG (by rw[List.pairwise_map];exact hs),jY,length_map,Zu hs,uQ,lu,lu,map_take,List.map_drop]
 simp
theorem Ut{m:List D}(h:eG m):(cell m 6).ae.Pairwise fun a b=>ltA b a=false:=
 Lr (AY fun i hi h0=>(h.2.2.2.2.2.2.1 i hi).2 h0)
theorem Ba(a b:List D):([.sl (cell (jc a b) 0).ae,cell (jc a b) 1,cell (jc a b) 2,cell (jc a b) 3]:List D)=jc a b:=rfl
@[simp] theorem PB (a b:List D):(jc a b).length=4:=rfl
theorem pU{l:List (List D)}{i n:Nat}(h:(ag l i).length=n):List.drop n (ag l i)=[]:=List.drop_of_length_le (by omega)
theorem Ty:cW Tryz.prog Φ rF:=kD tok mixed (l:=[D0,Bi,Jx,I8]) (by simp[EV,JA,RA,L3]) Tryz.func273 (by decide) (by decide) (by decide) K4 (args2 fun a b hp=>by
 simp[rF,show Φ 273=mMB (fun _ d=>ai d) cg from rfl,mMB] at hp
 obtain⟨⟨hs1,hs2⟩,hM,hR,hD⟩:=hp
 have h3:=Cs b.row
 have h4:=qE a.row
 have h5:=mE (aG b.row)
 simp only[aG,aq] at h3 h5
 by_cases hc:(cell b.row 9).ZY=4
 · by_cases hF:iS [cell b.row 2,cell b.row 3,cell b.row 4,cell b.row 5]<;>simp[wN,rF,show Φ 273=mMB (fun _ d=>ai d) cg from rfl,eB,kr,nJ,li,mMB,mB,bu,dm,oJ,cg,aL,mkM,aG,au,hc,hF,bd,List.range,List.range.loop]
 by_cases hF:iS [cell b.row 2,cell b.row 3,cell b.row 4,cell b.row 5]
 · rcases aZ (fun r=>eqR (aH aC) (cell r 0).ae (cell b.row 2).ae=true) (cell a.row 6).ae with ⟨q,_⟩|⟨i,h1,h2,_⟩
   · have q':dW (cell a.row 6).ae (cell b.row 2).ae= -1:=q
     by_cases hm:(cell b.row 9).ZY=2
     · simp[wN,rF,show Φ 273=mMB (fun _ d=>ai d) cg from rfl,eB,kr,nJ,li,mMB,mB,bu,dm,oJ,cg,aL,mkM,aG,au,hm,hF,q,q',bd,List.range,List.range.loop]
     by_cases hn:(cell b.row 9).ZY=1
     · by_cases hk:(cell a.row 1).ZY<=((cell a.row 6).ae.length:Int)
       · simp[wN,rF,show Φ 273=mMB (fun _ d=>ai d) cg from rfl,eB,kr,nJ,li,mMB,mB,bu,dm,oJ,cg,aL,mkM,aG,au,hn,hF,q,q',hk,bd,List.range,List.range.loop]
       · simp[wN,rF,show Φ 273=mMB (fun _ d=>ai d) cg from rfl,eB,kr,nJ,li,mMB,mB,bu,dm,oJ,cg,aL,mkM,aG,au,hn,hF,q,q',hk,bd,List.range,List.range.loop]
         omega
     · simp[wN,rF,show Φ 273=mMB (fun _ d=>ai d) cg from rfl,eB,kr,nJ,li,mMB,mB,bu,dm,oJ,cg,aL,mkM,aG,au,hc,hm,hn,hF,q,q',bd,List.range,List.range.loop]
   · have q':dW (cell a.row 6).ae (cell b.row 2).ae=(i:Int):=h2
     have e2:¬(i:Int)<0:=by omega
     by_cases hm:(cell b.row 9).ZY=2
     · have hd:=pU (hR.1 i h1)
       simp[wN,rF,show Φ 273=mMB (fun _ d=>ai d) cg from rfl,eB,kr,nJ,li,mMB,mB,bu,dm,oJ,cg,aL,mkM,aG,au,hm,hF,h2,q',h1,hR.1 i h1,hd,af,Ba,bd,List.range,List.range.loop]
       omega
     by_cases hn:(cell b.row 9).ZY=1
     · simp[wN,rF,show Φ 273=mMB (fun _ d=>ai d) cg from rfl,eB,kr,nJ,li,mMB,mB,bu,dm,oJ,cg,aL,mkM,aG,au,hn,hF,h2,q',bd,List.range,List.range.loop]
     · simp[wN,rF,show Φ 273=mMB (fun _ d=>ai d) cg from rfl,eB,kr,nJ,li,mMB,mB,bu,dm,oJ,cg,aL,mkM,aG,au,hc,hm,hn,hF,h2,q',e2,bd,List.range,List.range.loop]
 · simp[wN,rF,show Φ 273=mMB (fun _ d=>ai d) cg from rfl,eB,kr,nJ,li,mMB,mB,bu,dm,oJ,cg,aL,mkM,aG,au,hc,hF,bd,List.range,List.range.loop])
theorem SF:cW Tryz.prog Φ sR:=kD tok mixed (l:=[CR,B8,B2,Jq]) (by simp[D6,Jh,IO,Tv]) Tryz.func194 (by decide) (by decide) (by decide) Kl (args2 fun a b hp=>by
 simp[sR,show Φ 194=mMB (fun _ d=>ai d) cg from rfl,mMB] at hp
 obtain⟨⟨hs1,hs2⟩,hM,hR,hD⟩:=hp
 have h3:=Cs b.row
 have h4:=qE a.row
 have h5:=mE (aG b.row)
 simp only[aG,aq] at h3 h5
 by_cases hc:(cell b.row 9).ZY=4
 · by_cases hF:iS [cell b.row 2,cell b.row 3,cell b.row 4,cell b.row 5]<;>simp[v194,sR,show Φ 194=mMB (fun _ d=>ai d) cg from rfl,dF,ll,k7,m7,mMB,mB,gx,bu,dm,cg,aL,mkM,aG,au,hc,hF,bd,List.range,List.range.loop]
 by_cases hF:iS [cell b.row 2,cell b.row 3,cell b.row 4,cell b.row 5]
 · rcases aZ (fun r=>eqR (aH aC) (cell r 0).ae (cell b.row 2).ae=true) (cell a.row 6).ae with ⟨q,_⟩|⟨i,h1,h2,_⟩
   · have q':dW (cell a.row 6).ae (cell b.row 2).ae= -1:=q
     by_cases hm:(cell b.row 9).ZY=2
     · simp[v194,sR,show Φ 194=mMB (fun _ d=>ai d) cg from rfl,dF,ll,k7,m7,mMB,mB,gx,bu,dm,cg,aL,mkM,aG,au,hm,hF,q,q',bd,List.range,List.range.loop]
     by_cases hn:(cell b.row 9).ZY=1
     · by_cases hk:(cell a.row 1).ZY<=((cell a.row 6).ae.length:Int)
       · simp[v194,sR,show Φ 194=mMB (fun _ d=>ai d) cg from rfl,dF,ll,k7,m7,mMB,mB,gx,bu,dm,cg,aL,mkM,aG,au,hn,hF,q,q',hk,bd,List.range,List.range.loop]
       · have hi:=Ll (a:=[cell b.row 2,cell b.row 3,cell b.row 4,cell b.row 5]) (Ut hM)
         simp only[List.map_append,map_cons,map_nil] at hi
         simp[v194,sR,show Φ 194=mMB (fun _ d=>ai d) cg from rfl,dF,ll,k7,m7,mMB,mB,gx,bu,dm,cg,aL,mkM,aG,au,hn,hF,q,q',hk,hi,chunk,al,bI,aD,bd,List.range,List.range.loop]
         omega
     · simp[v194,sR,show Φ 194=mMB (fun _ d=>ai d) cg from rfl,dF,ll,k7,m7,mMB,mB,gx,bu,dm,cg,aL,mkM,aG,au,hc,hm,hn,hF,q,q',bd,List.range,List.range.loop]
   · have q':dW (cell a.row 6).ae (cell b.row 2).ae=(i:Int):=h2
     have e2:¬(i:Int)<0:=by omega
     by_cases hm:(cell b.row 9).ZY=2
     · have hd:=pU (hR.1 i h1)
       simp[v194,sR,show Φ 194=mMB (fun _ d=>ai d) cg from rfl,dF,ll,k7,m7,mMB,mB,gx,bu,dm,cg,aL,mkM,aG,au,hm,hF,h2,q',e2,h1,hR.1 i h1,hd,af,Ba,bd,List.range,List.range.loop]
       omega
     by_cases hn:(cell b.row 9).ZY=1
     · simp[v194,sR,show Φ 194=mMB (fun _ d=>ai d) cg from rfl,dF,ll,k7,m7,mMB,mB,gx,bu,dm,cg,aL,mkM,aG,au,hn,hF,h2,q',bd,List.range,List.range.loop]
     · simp[v194,sR,show Φ 194=mMB (fun _ d=>ai d) cg from rfl,dF,ll,k7,m7,mMB,mB,gx,bu,dm,cg,aL,mkM,aG,au,hc,hm,hn,hF,h2,q',e2,bd,List.range,List.range.loop]
 · simp[v194,sR,show Φ 194=mMB (fun _ d=>ai d) cg from rfl,dF,ll,k7,m7,mMB,mB,gx,bu,dm,cg,aL,mkM,aG,au,hc,hF,bd,List.range,List.range.loop])
section
variable {post:List D->Prop} {env:List D} {B:Nat->List D->Prop} {g h:List D->List (List D)}
theorem HK{id l n:Nat}{fs:List (K×Nat)}{L e0 e1:E}{body rest:VC}{xs:List (List D)}(hn:env.length+2=n)(hL:∀d d' d'',(L.den Φ (env++[d,d',d''])).ZY=xs.length) (hN:(xs.length:Int)<=140737488355328) (h0:(e0.den Φ env).ae=[]) (h1:(e1.den Φ env).ae=[])
 (hb:∀(i:Nat)(x y:D),i<xs.length->x.ae=(xs.take i).flatMap g->y.ae=(xs.take i).flatMap h->body.wp Φ post (env++[x,y,.int i]) (Go.Vx.eC B l fun v=>∃x' y',v=[x',y',.int (IntKind.i64.wrap (i+1))]∧x'.ae=x.ae++g (ag xs i)∧y'.ae=y.ae++h (ag xs i)))
 (hr:∀x y,x.ae=xs.flatMap g->y.ae=xs.flatMap h->∀p,rest.wp Φ post (env++[x,y,.int xs.length]) (Go.Vx.eC B l p)):
 (VC.loop id l 3 fs [e0,e1,.int 0] (.ite (.op (.bin .lss .i64) [.var n,L]) body rest)).wp Φ post env B:=by
 refine wp_loop' (fun v=>∃(i:Nat) (x y:D),v=[x,y,.int i]∧i<=xs.length∧x.ae=(xs.take i).flatMap g∧y.ae=(xs.take i).flatMap h) (fun v=>xs.length - (cell v 2).ZY.toNat) ⟨0,_,_,rfl,by omega,by simp[h0],by simp[h1]⟩ ?_
 simp only[cA,cz]
 intro d d' d''
 refine bS fun _=> ?_
 rintro⟨i,x,y,hd,hi,hx,hy⟩
 simp only[List.cons.injEq,and_true] at hd
 obtain⟨rfl,rfl,rfl⟩:=hd
 have hv:cell (env++[d,d',.int i]) n= .int i:=by subst hn;simp[cell]
 simp only[aO,b9,aS,a8,bF,eT,ep,hL,hv,D.aI,D.aK,aq,ay,bW,bM]
 refine⟨fun hlt=> ?_,fun hge=> ?_⟩
 · refine VC.jA (fun _ h=>h) _ _ _ _ (fun j v q=> ?_) (hb i d d' (by omega) hx hy)
   by_cases e:j=l
   · subst e
     simp only[Go.Vx.dD] at q⊢
     obtain⟨x',y',rfl,q1,q2⟩:=q
     rw[w64 (by omega) (by omega)]
     exact⟨⟨i+1,x',y',by simp,by omega,by rw[jk (by omega),<-hx];exact q1,by rw[jk (by omega),<-hy];exact q2⟩,by simp;omega⟩
   · rw[cU e] at q⊢;exact q
 · have:i=xs.length:=by omega
   subst this
   exact hr _ _ (by rw[hx,take_of_length_le (le_refl _)]) (by rw[hy,take_of_length_le (le_refl _)]) _
theorem JL{id l n:Nat}{fs:List (K×Nat)}{L e0 e1:E}{body rest:VC}{xs:List (List D)}(hn:env.length=n)(hL:∀d d' d'',(L.den Φ (env++[d,d',d''])).ZY=xs.length) (hN:(xs.length:Int)<=140737488355328) (h0:(e0.den Φ env).ae=[]) (h1:(e1.den Φ env).ae=[])
 (hb:∀(i:Nat)(x y:D),i<xs.length->x.ae=(xs.take i).flatMap g->y.ae=(xs.take i).flatMap h->body.wp Φ post (env++[.int i,x,y]) (Go.Vx.eC B l fun v=>∃x' y',v=[.int (IntKind.i64.wrap (i+1)),x',y']∧x'.ae=x.ae++g (ag xs i)∧y'.ae=y.ae++h (ag xs i)))
 (hr:∀x y,x.ae=xs.flatMap g->y.ae=xs.flatMap h->∀p,rest.wp Φ post (env++[.int xs.length,x,y]) (Go.Vx.eC B l p)):
 (VC.loop id l 3 fs [.int 0,e0,e1] (.ite (.op (.bin .lss .i64) [.var n,L]) body rest)).wp Φ post env B:=by
 refine wp_loop' (fun v=>∃(i:Nat) (x y:D),v=[.int i,x,y]∧i<=xs.length∧x.ae=(xs.take i).flatMap g∧y.ae=(xs.take i).flatMap h) (fun v=>xs.length - (cell v 0).ZY.toNat) ⟨0,_,_,rfl,by omega,by simp[h0],by simp[h1]⟩ ?_
 simp only[cA,cz]
 intro d d' d''
 refine bS fun _=> ?_
 rintro⟨i,x,y,hd,hi,hx,hy⟩
 simp only[List.cons.injEq,and_true] at hd
 obtain⟨rfl,rfl,rfl⟩:=hd
 have hv:cell (env++[.int i,d',d'']) n= .int i:=by subst hn;simp[cell]
 simp only[aO,b9,aS,a8,bF,eT,ep,hL,hv,D.aI,D.aK,aq,ay,bW,bM]
 refine⟨fun hlt=> ?_,fun hge=> ?_⟩
 · refine VC.jA (fun _ h=>h) _ _ _ _ (fun j v q=> ?_) (hb i d' d'' (by omega) hx hy)
   by_cases e:j=l
   · subst e
     simp only[Go.Vx.dD] at q⊢
     obtain⟨x',y',rfl,q1,q2⟩:=q
     rw[w64 (by omega) (by omega)]
     exact⟨⟨i+1,x',y',by simp,by omega,by rw[jk (by omega),<-hx];exact q1,by rw[jk (by omega),<-hy];exact q2⟩,by simp;omega⟩
   · rw[cU e] at q⊢;exact q
 · have:i=xs.length:=by omega
   subst this
   exact hr _ _ (by rw[hx,take_of_length_le (le_refl _)]) (by rw[hy,take_of_length_le (le_refl _)]) _
end
theorem ku{f:List D->Bool}{t:List D->List D}:∀l:List (List D),(l.flatMap fun r=>bif f r then[t r] else[]).length<=l.length∧(l.flatMap fun r=>bif f r then[] else[t r]).length<=l.length
 |[]=>by simp
 |x::l=>by
  have:=ku (f:=f) (t:=t) l
  simp only[flatMap_cons,length_append,length_cons]
  cases f x<;>simp only[cond_true,cond_false,length_nil,length_cons]<;>omega
theorem UK:cW Tryz.prog Φ FD:=kD tok mixed (l:=[pO,pI,Lq,Cj,AA,Iy]) (by simp[qm,oS,Mq,EB,Bf,L2]) Tryz.func276 (by decide) (by decide) (by decide) K2 (args2 fun a b hp=>by
 simp[FD,show Φ 276=mMB (fun _ d=>ai d) bJ from rfl,mMB] at hp
 obtain⟨⟨hs1,hs2⟩,hM,hR,hD⟩:=hp
 have h4:=qE a.row
 have h5:=Ns b.row
 refine HK (g:=fun r=>bif tt (lQ a.row b.row r) then[rA r] else[]) (h:=fun r=>bif tt (lQ a.row b.row r) then[] else[rA r]) (xs:=(cell a.row 6).ae) rfl (fun _ _ _=>by simp) (by omega) rfl rfl (fun i x y hi hx hy=> ?_) fun x y hx hy p=> ?_
 · have hlx:x.ae.length<=i:=by rw[hx];exact le_trans (ku (f:=fun r=>tt (lQ a.row b.row r)) (t:=rA) _).1 (by rw[length_take];omega)
   have hly:y.ae.length<=i:=by rw[hy];exact le_trans (ku (f:=fun r=>tt (lQ a.row b.row r)) (t:=rA) _).2 (by rw[length_take];omega)
   by_cases c1:partOf (iY (cell (ag (cell a.row 6).ae i) 0).ae) (cell a.row 0).ZY=(cell b.row 7).ZY<;>by_cases c2:(cell (ag (cell a.row 6).ae i) 2).ZY<=(cell b.row 11).ZY<;>
    simp[af,show Φ 276=mMB (fun _ d=>ai d) bJ from rfl,fa,iW,Iu,tA,pf,Cb,mMB,aF,bL,AU,dB,eZ,mB,lQ,c1,c2,hi,rA,al,chunk]<;>exact⟨by omega,_,_,⟨rfl,rfl⟩,by simp⟩
 · simp[FD,show Φ 276=mMB (fun _ d=>ai d) bJ from rfl,fa,iW,Iu,tA,pf,Cb,mMB,aF,bL,AU,dB,eZ,mB,bJ,mkM,He,D8,du,hx,hy,bd,List.range,List.range.loop]
   omega)
theorem Rh:cW Tryz.prog Φ Jb:=kD tok mixed (l:=[wy,B8,DJ,Bn,H5]) (by simp[vH,Jh,En,Bp,L1]) Tryz.func197 (by decide) (by decide) (by decide) Li (args2 fun a b hp=>by
 simp[Jb,show Φ 197=mMB (fun _ d=>ai d) bJ from rfl,mMB] at hp
 obtain⟨⟨hs1,hs2⟩,hM,hR,hD⟩:=hp
 have h4:=qE a.row
 have h5:=Ns b.row
 refine JL (h:=fun r=>bif tt (lQ a.row b.row r) then[rA r] else[]) (g:=fun r=>bif tt (lQ a.row b.row r) then[] else[rA r]) (xs:=(cell a.row 6).ae) rfl (fun _ _ _=>by simp) (by omega) (by simp[chunk]) (by simp[chunk]) (fun i y x hi hy hx=> ?_) fun y x hy hx p=> ?_
 · have hlx:x.ae.length<=i:=by rw[hx];exact le_trans (ku (f:=fun r=>tt (lQ a.row b.row r)) (t:=rA) _).1 (by rw[length_take];omega)
   have hly:y.ae.length<=i:=by rw[hy];exact le_trans (ku (f:=fun r=>tt (lQ a.row b.row r)) (t:=rA) _).2 (by rw[length_take];omega)
   by_cases c1:partOf (iY (cell (ag (cell a.row 6).ae i) 0).ae) (cell a.row 0).ZY=(cell b.row 7).ZY<;>by_cases c2:(cell (ag (cell a.row 6).ae i) 2).ZY<=(cell b.row 11).ZY<;>
    simp[af,show Φ 197=mMB (fun _ d=>ai d) bJ from rfl,gq,ll,tz,mI,wg,mMB,aF,gx,dB,eZ,mB,lQ,c1,c2,hi,rA,al,chunk]<;>exact⟨by omega,_,_,⟨rfl,rfl⟩,by simp⟩
 · simp[Jb,show Φ 197=mMB (fun _ d=>ai d) bJ from rfl,gq,ll,tz,mI,wg,mMB,aF,gx,dB,eZ,mB,bJ,mkM,He,D8,lu,hx,hy,bd,kl aj (stS ltA _),List.range,List.range.loop]
   omega)
theorem Hu{l:List (List D)}{i:Nat}{x:List D}(h:i<l.length)(j:Nat):ag (l.set i x) j=if i=j then x else ag l j:=by
 unfold ag
 rw[List.getD_eq_getElem?_getD,List.getD_eq_getElem?_getD,List.getElem?_set]
 split<;>simp[h]
theorem vY(l:List (List D))(a:List D)(by':List (List D))(n now:D):∃k:Nat,k<(fN l a by' n now).length∧gH (fN l a by' n now) (bX (cell a 0).ae by')=k:=by
 have key:∃k,k<(fN l a by' n now).length∧eqR (aH aC) (cell (ag (fN l a by' n now) k) 1).ae (bX (cell a 0).ae by')=true:=by
  rcases aZ (fun g=>eqR (aH aC) (cell g 1).ae (bX (cell a 0).ae by')=true) l with ⟨q,_⟩|⟨i,h1,h2,h3,_⟩
  · have q':gH l (bX (cell a 0).ae by')= -1:=q
    refine⟨l.length,by simp[fN,q',au],?_⟩
    have:ag (fN l a by' n now) l.length=[n,.sl (bX (cell a 0).ae by'),now,.int (-1),.sl [bn a]]:=by
     simp[fN,q',au,ag,List.getElem?_append_right]
    rw[this]
    exact iL _
  · have q':gH l (bX (cell a 0).ae by')=(i:Int):=h2
    refine⟨i,by simp[fN,q',au,h1],?_⟩
    have:ag (fN l a by' n now) i=f8 (ag l i) a:=by
     simp[fN,q',au,Hu,h1]
    rw[this]
    exact h3
 rcases aZ (fun g=>eqR (aH aC) (cell g 1).ae (bX (cell a 0).ae by')=true) (fN l a by' n now) with ⟨_,q⟩|⟨k,h1,h2,_⟩
 · obtain⟨k,k1,k2⟩:=key
   exact absurd k2 (q k k1)
 · exact⟨k,h1,h2⟩
theorem WX:cW Tryz.prog Φ zG:=kD tok mixed (l:=[pI,u0,Ga,CU,Gt]) (by simp[oS,xm,Hq,Hx,VV]) Tryz.func277 (by decide) (by decide) (by decide) K0 (args2 fun a b hp=>by
 simp[zG,show Φ 277=mMB (fun _ d=>ai d) bP from rfl,mMB] at hp
 obtain⟨⟨hs1,hs2⟩,hM,hR,hD⟩:=hp
 have h3:=Cs b.row
 have h4:=qE a.row
 have h5:=mE (aG b.row)
 have h6:=kn (am aj) (cell a.row 8).ae 1
 rw[drop_one] at h6
 have h8:am aj (aG b.row)<=1048576:=by omega
 simp only[aG,aq] at h3 h5 h8
 by_cases hf:(cell a.row 8).ae=[]
 · simp[JG,zG,show Φ 277=mMB (fun _ d=>ai d) bP from rfl,iW,iT,qk,mO,vA,mMB,bL,aN,cJ,cP,cZ,bP,aL,mkM,au,hf,bd,List.range,List.range.loop]
 have hf0:=length_pos_iff.2 hf
 have hfl:¬(cell a.row 8).ae.length=0:=by omega
 cases he:aH aj (ag (cell a.row 8).ae 0) (aG b.row)
 · have he':=he
   simp only[aG] at he'
   simp[JG,zG,show Φ 277=mMB (fun _ d=>ai d) bP from rfl,iW,iT,qk,mO,vA,mMB,bL,aN,cJ,cP,cZ,bP,aL,mkM,au,hf,hf0,he,he',bd,List.range,List.range.loop]
 have he':=he
 simp only[aG] at he'
 obtain⟨k,k1,k2⟩:=vY (cell a.row 9).ae (aG b.row) (cell a.row 5).ae (cell a.row 10) (cell b.row 11)
 have k2':eR (fun g=>eqR (aH aC) (cell g 1).ae (bX (cell b.row 2).ae (cell a.row 5).ae)=true) (fN (cell a.row 9).ae [cell b.row 2,cell b.row 3,cell b.row 4,cell b.row 5] (cell a.row 5).ae (cell a.row 10) (cell b.row 11)) 0=(k:Int):=k2
 simp only[aG,aq] at k1 k2
 rcases aZ (fun g=>eqR (aH aC) (cell g 1).ae (bX (cell b.row 2).ae (cell a.row 5).ae)=true) (cell a.row 9).ae with ⟨q,_⟩|⟨i,h1,h2,_⟩
 · have q':gH (cell a.row 9).ae (bX (cell b.row 2).ae (cell a.row 5).ae)= -1:=q
   have e12:((12:Int)<=(cell a.row 9).ae.length)=(12<=(cell a.row 9).ae.length):=propext (by omega)
   by_cases hc:(cell b.row 9).ZY=3<;>by_cases hl:12<=(cell a.row 9).ae.length<;>by_cases ht:(cell b.row 11).ZY<=99999<;>by_cases hn:(cell b.row 9).ZY=1<;>
    simp[JG,zG,show Φ 277=mMB (fun _ d=>ai d) bP from rfl,iW,iT,qk,mO,vA,mMB,bL,aN,cJ,cP,cZ,bP,aL,mkM,xN,Br,lm,aG,du,au,hf,hfl,he,he',hc,hl,e12,ht,hn,kj,q,q',k1,k2,k2',af,bd,List.range,List.range.loop]<;>first|omega|grind|(refine⟨by omega,by omega,by omega,by omega,?_⟩;split<;>rename_i hx<;>first|rw[bW _ |>.mpr hx]|rw[bM _ |>.mpr hx])
 · have q':gH (cell a.row 9).ae (bX (cell b.row 2).ae (cell a.row 5).ae)=(i:Int):=h2
   have e2:¬(i:Int)<0:=by omega
   by_cases hc:(cell b.row 9).ZY=3<;>by_cases ht:(cell b.row 11).ZY<=99999<;>by_cases hn:(cell b.row 9).ZY=1<;>
    simp[JG,zG,show Φ 277=mMB (fun _ d=>ai d) bP from rfl,iW,iT,qk,mO,vA,mMB,bL,aN,cJ,cP,cZ,bP,aL,mkM,xN,Br,lm,aG,du,au,hf,hfl,he,he',hc,ht,hn,kj,h2,q',e2,k1,k2,k2',af,bd,List.range,List.range.loop]<;>first|omega|grind|(refine⟨by omega,by omega,by omega,by omega,?_⟩;split<;>rename_i hx<;>first|rw[bW _ |>.mpr hx]|rw[bM _ |>.mpr hx]))
theorem V5:cW Tryz.prog Φ BR:=kD tok mixed (l:=[sU,qL,DH,II,FP]) (by simp[wx,o0,GR,LP,Wv]) Tryz.func198 (by decide) (by decide) (by decide) Lk (args2 fun a b hp=>by
 simp[BR,show Φ 198=mMB (fun _ d=>ai d) bP from rfl,mMB] at hp
 obtain⟨⟨hs1,hs2⟩,hM,hR,hD⟩:=hp
 have h3:=Cs b.row
 have h4:=qE a.row
 have h5:=mE (aG b.row)
 have h6:=kn (am aj) (cell a.row 8).ae 1
 rw[drop_one] at h6
 have h8:am aj (aG b.row)<=1048576:=by omega
 simp only[aG,aq] at h3 h5 h8
 by_cases hf:(cell a.row 8).ae=[]
 · simp[v198,BR,show Φ 198=mMB (fun _ d=>ai d) bP from rfl,fQ,gN,lS,wC,vP,mMB,aN,bL,cP,cJ,cZ,bP,aL,mkM,au,hf,bd,List.range,List.range.loop]
 have hf0:=length_pos_iff.2 hf
 have hfl:¬(cell a.row 8).ae.length=0:=by omega
 cases he:aH aj (ag (cell a.row 8).ae 0) (aG b.row)
 · have he':=he
   simp only[aG] at he'
   simp[v198,BR,show Φ 198=mMB (fun _ d=>ai d) bP from rfl,fQ,gN,lS,wC,vP,mMB,aN,bL,cP,cJ,cZ,bP,aL,mkM,au,hf,hf0,he,he',bd,List.range,List.range.loop]
 have he':=he
 simp only[aG] at he'
 obtain⟨k,k1,k2⟩:=vY (cell a.row 9).ae (aG b.row) (cell a.row 5).ae (cell a.row 10) (cell b.row 11)
 have k2':eR (fun g=>eqR (aH aC) (cell g 1).ae (bX (cell b.row 2).ae (cell a.row 5).ae)=true) (fN (cell a.row 9).ae [cell b.row 2,cell b.row 3,cell b.row 4,cell b.row 5] (cell a.row 5).ae (cell a.row 10) (cell b.row 11)) 0=(k:Int):=k2
 simp only[aG,aq] at k1 k2
 rcases aZ (fun g=>eqR (aH aC) (cell g 1).ae (bX (cell b.row 2).ae (cell a.row 5).ae)=true) (cell a.row 9).ae with ⟨q,_⟩|⟨i,h1,h2,_⟩
 · have q':gH (cell a.row 9).ae (bX (cell b.row 2).ae (cell a.row 5).ae)= -1:=q
   have e12:((12:Int)<=(cell a.row 9).ae.length)=(12<=(cell a.row 9).ae.length):=propext (by omega)
   by_cases hc:(cell b.row 9).ZY=3<;>by_cases hl:12<=(cell a.row 9).ae.length<;>by_cases ht:(cell b.row 11).ZY<=99999<;>by_cases hn:(cell b.row 9).ZY=1<;>
    simp[v198,BR,show Φ 198=mMB (fun _ d=>ai d) bP from rfl,fQ,gN,lS,wC,vP,mMB,aN,bL,cP,cJ,cZ,bP,aL,mkM,xN,Br,lm,aG,du,au,hf,hfl,he,he',hc,hl,e12,ht,hn,kj,q,q',k1,k2,k2',af,bd,List.range,List.range.loop]<;>first|omega|grind|(refine⟨by omega,by omega,by omega,by omega,?_⟩;split<;>rename_i hx<;>first|rw[bW _ |>.mpr hx]|rw[bM _ |>.mpr hx])
 · have q':gH (cell a.row 9).ae (bX (cell b.row 2).ae (cell a.row 5).ae)=(i:Int):=h2
   have e2:¬(i:Int)<0:=by omega
   by_cases hc:(cell b.row 9).ZY=3<;>by_cases ht:(cell b.row 11).ZY<=99999<;>by_cases hn:(cell b.row 9).ZY=1<;>
    simp[v198,BR,show Φ 198=mMB (fun _ d=>ai d) bP from rfl,fQ,gN,lS,wC,vP,mMB,aN,bL,cP,cJ,cZ,bP,aL,mkM,xN,Br,lm,aG,du,au,hf,hfl,he,he',hc,ht,hn,kj,h2,q',e2,k1,k2,k2',af,bd,List.range,List.range.loop]<;>first|omega|grind|(refine⟨by omega,by omega,by omega,by omega,?_⟩;split<;>rename_i hx<;>first|rw[bW _ |>.mpr hx]|rw[bM _ |>.mpr hx]))
theorem VQ:cW Tryz.prog Φ wT:=kD tok mixed (l:=[pO,GM,Ha,C6]) (by simp[qm,My,L5,UO]) Tryz.func278 (by decide) (by decide) (by decide) Lh (args2 fun a b hp=>by
 simp[wT,show Φ 278=mMB (fun _ d=>ai d) aX from rfl,mMB] at hp
 obtain⟨⟨hs1,hs2⟩,hM,hR,hD⟩:=hp
 have h4:=qE a.row
 rcases aZ (fun g=>(cell g 0).ZY=(cell b.row 8).ZY) (cell a.row 9).ae with ⟨q,_⟩|⟨i,h1,h2,_⟩
 · have q':eo (cell a.row 9).ae (cell b.row 8).ZY= -1:=q
   by_cases hc:(cell b.row 9).ZY=6<;>simp[Ft,wT,show Φ 278=mMB (fun _ d=>ai d) aX from rfl,fa,n8,ta,qx,mMB,aF,jC,cG,co,aX,aL,mkM,atG,au,q',hc,bd,List.range,List.range.loop]
 · have q':eo (cell a.row 9).ae (cell b.row 8).ZY=(i:Int):=h2
   have e2:¬(i:Int)<0:=by omega
   by_cases hc:(cell b.row 9).ZY=6
   · simp[Ft,wT,show Φ 278=mMB (fun _ d=>ai d) aX from rfl,fa,n8,ta,qx,mMB,aF,jC,cG,co,aX,aL,mkM,atG,au,q',e2,hc,bd,List.range,List.range.loop]
   by_cases hd:(cell b.row 11).ZY<yQ (cell (ag (cell a.row 9).ae i) 2).ZY (cell (ag (cell a.row 9).ae i) 3).ZY (cell a.row 3).ZY (cell a.row 4).ZY
   · simp[Ft,wT,show Φ 278=mMB (fun _ d=>ai d) aX from rfl,fa,n8,ta,qx,mMB,aF,jC,cG,co,aX,aL,mkM,atG,au,q',e2,h1,hc,hd,af,bd,List.range,List.range.loop]
   by_cases ht:99999<(cell b.row 11).ZY
   · simp[Ft,wT,show Φ 278=mMB (fun _ d=>ai d) aX from rfl,fa,n8,ta,qx,mMB,aF,jC,cG,co,aX,aL,mkM,atG,au,q',e2,h1,hc,hd,ht,af,bd,List.range,List.range.loop]
   cases he:eqR (aH aj) (cell b.row 10).ae (cell (ag (cell a.row 9).ae i) 4).ae<;>
    simp[Ft,wT,show Φ 278=mMB (fun _ d=>ai d) aX from rfl,fa,n8,ta,qx,mMB,aF,jC,cG,co,aX,aL,mkM,atG,au,q',e2,h1,hc,hd,ht,he,af,bd,List.range,List.range.loop]
   omega)
theorem Xa:cW Tryz.prog Φ zm:=kD tok mixed (l:=[wy,IN,Ii,Ci]) (by simp[vH,LD,MC,W6]) Tryz.func199 (by decide) (by decide) (by decide) J6 (args2 fun a b hp=>by
 simp[zm,show Φ 199=mMB (fun _ d=>ai d) aX from rfl,mMB] at hp
 obtain⟨⟨hs1,hs2⟩,hM,hR,hD⟩:=hp
 have h4:=qE a.row
 rcases aZ (fun g=>(cell g 0).ZY=(cell b.row 8).ZY) (cell a.row 9).ae with ⟨q,_⟩|⟨i,h1,h2,_⟩
 · have q':eo (cell a.row 9).ae (cell b.row 8).ZY= -1:=q
   by_cases hc:(cell b.row 9).ZY=6<;>simp[Fd,zm,show Φ 199=mMB (fun _ d=>ai d) aX from rfl,gq,m9,tk,qD,mMB,aF,jC,cG,co,aX,aL,mkM,atG,au,q',hc,bd,List.range,List.range.loop]
 · have q':eo (cell a.row 9).ae (cell b.row 8).ZY=(i:Int):=h2
   have e2:¬(i:Int)<0:=by omega
   by_cases hc:(cell b.row 9).ZY=6
   · simp[Fd,zm,show Φ 199=mMB (fun _ d=>ai d) aX from rfl,gq,m9,tk,qD,mMB,aF,jC,cG,co,aX,aL,mkM,atG,au,q',e2,hc,bd,List.range,List.range.loop]
   by_cases hd:(cell b.row 11).ZY<yQ (cell (ag (cell a.row 9).ae i) 2).ZY (cell (ag (cell a.row 9).ae i) 3).ZY (cell a.row 3).ZY (cell a.row 4).ZY
   · simp[Fd,zm,show Φ 199=mMB (fun _ d=>ai d) aX from rfl,gq,m9,tk,qD,mMB,aF,jC,cG,co,aX,aL,mkM,atG,au,q',e2,h1,hc,hd,af,bd,List.range,List.range.loop]
   by_cases ht:99999<(cell b.row 11).ZY
   · simp[Fd,zm,show Φ 199=mMB (fun _ d=>ai d) aX from rfl,gq,m9,tk,qD,mMB,aF,jC,cG,co,aX,aL,mkM,atG,au,q',e2,h1,hc,hd,ht,af,bd,List.range,List.range.loop]
   cases he:eqR (aH aj) (cell b.row 10).ae (cell (ag (cell a.row 9).ae i) 4).ae<;>
    simp[Fd,zm,show Φ 199=mMB (fun _ d=>ai d) aX from rfl,gq,m9,tk,qD,mMB,aF,jC,cG,co,aX,aL,mkM,atG,au,q',e2,h1,hc,hd,ht,he,kl aj (cell (ag (cell a.row 9).ae i) 4).ae,af,bd,List.range,List.range.loop]
   omega)
theorem n9(s:List D):([.sl (cell (lf s) 0).ae,cell (lf s) 1]:List D)=lf s:=by
 unfold lf
 cases(cell s 1).ZZ<;>rfl
@[simp] theorem PH (s:List D):(lf s).length=2:=by rw[<-n9];rfl
theorem qr(s:List D):([.sl (cell (kA s) 0).ae,cell (kA s) 1,cell (kA s) 2,cell (kA s) 3]:List D)=kA s:=by
 unfold kA
 by_cases h:lX s=1<;>simp[au,h,bn]
@[simp] theorem PF (s:List D):(kA s).length=4:=by rw[<-qr];rfl
@[simp] theorem U2 (s:List D):chunk 4 1 (kA s)=[kA s]:=by rw[<-qr];rfl
theorem K8(b:Bool):b=tt (b=true):=by cases b<;>simp
theorem Ui:cW Tryz.prog Φ Ax:=kD tok mixed (l:=[pO,Gm]) (by simp[qm,VL]) Tryz.func279 (by decide) (by decide) (by decide) JI (args2 fun a b hp=>by
 simp[Ax,show Φ 279=mMB (fun _ d=>ai d) b8 from rfl,mMB] at hp
 obtain⟨⟨hs1,hs2⟩,hM,hR,hD⟩:=hp
 have h4:=qE a.row
 obtain⟨i,hi⟩:∃i:Nat,(cell b.row 7).ZY=i:=⟨(cell b.row 7).ZY.toNat,by have:=hD.2.2.2.1;omega⟩
 by_cases hc:(cell a.row 7).ae.length<=i
 · simp[Lf,Ax,show Φ 279=mMB (fun _ d=>ai d) b8 from rfl,fa,yv,mMB,aF,jM,b8,aL,mkM,au,hi,hc,bd,List.range,List.range.loop]
 have h1:i<(cell a.row 7).ae.length:=by omega
 have h5:=cb (p:=am de) h1
 have hl:=hR.2 i h1
 have hd:=pU hl
 by_cases e1:lX (ag (cell a.row 7).ae i)=1
 · by_cases e5:(cell b.row 9).ZY=5<;>simp[Lf,Ax,show Φ 279=mMB (fun _ d=>ai d) b8 from rfl,fa,yv,mMB,aF,jM,b8,aL,mkM,atS,au,hi,hc,h1,hl,hd,e1,e5,n9,qr,af,bd,List.range,List.range.loop]<;>first|omega|exact⟨by omega,K8 _⟩
 by_cases e2:lX (ag (cell a.row 7).ae i)=2<;>by_cases e6:(cell b.row 9).ZY=6<;>by_cases e7:(cell b.row 9).ZY=7<;>simp[Lf,Ax,show Φ 279=mMB (fun _ d=>ai d) b8 from rfl,fa,yv,mMB,aF,jM,b8,aL,mkM,atS,au,hi,hc,h1,hl,hd,e1,e2,e6,e7,n9,af,bd,List.range,List.range.loop]<;>omega)
theorem K1(l:List (List D))(x:List D):(eqR (aH aj) l [x]=true)=(l.length=1∧aH aj (ag l 0) x=true):=by
 match l with
 |[]=>simp[eqR]
 |[y]=>simp[eqR]
 |y::z::l=>simp[eqR]
theorem W4:cW Tryz.prog Φ CL:=kD tok mixed (l:=[sU,Gf]) (by simp[wx,TO]) Tryz.func200 (by decide) (by decide) (by decide) KN (args2 fun a b hp=>by
 simp[CL,show Φ 200=mMB (fun _ d=>ai d) b8 from rfl,mMB] at hp
 obtain⟨⟨hs1,hs2⟩,hM,hR,hD⟩:=hp
 have h4:=qE a.row
 obtain⟨i,hi⟩:∃i:Nat,(cell b.row 7).ZY=i:=⟨(cell b.row 7).ZY.toNat,by have:=hD.2.2.2.1;omega⟩
 by_cases hc:(cell a.row 7).ae.length<=i
 · simp[KR,CL,show Φ 200=mMB (fun _ d=>ai d) b8 from rfl,fQ,yo,mMB,aN,jM,b8,aL,mkM,au,hi,hc,bd,List.range,List.range.loop]
 have h1:i<(cell a.row 7).ae.length:=by omega
 have h5:=cb (p:=am de) h1
 have hl:=hR.2 i h1
 have hd:=pU hl
 by_cases e1:lX (ag (cell a.row 7).ae i)=1
 · have e3:(((cell b.row 10).ae.length:Int)=1)=((cell b.row 10).ae.length=1):=propext (by omega)
   by_cases e5:(cell b.row 9).ZY=5<;>by_cases e6:(cell b.row 10).ae.length=1<;>simp[KR,CL,show Φ 200=mMB (fun _ d=>ai d) b8 from rfl,fQ,yo,mMB,aN,jM,b8,aL,mkM,atS,au,hi,hc,h1,hl,hd,e1,e3,e5,e6,K1,n9,qr,af,bd,bY,List.range,List.range.loop]<;>omega
 by_cases e2:lX (ag (cell a.row 7).ae i)=2<;>by_cases e6:(cell b.row 9).ZY=6<;>by_cases e7:(cell b.row 9).ZY=7<;>simp[KR,CL,show Φ 200=mMB (fun _ d=>ai d) b8 from rfl,fQ,yo,mMB,aN,jM,b8,aL,mkM,atS,au,hi,hc,h1,hl,hd,e1,e2,e6,e7,n9,af,bd,List.range,List.range.loop]<;>omega)
theorem Cd{p:List D->Nat}{x:List D}:∀{l:List (List D)}{i:Nat},i<l.length->aD p (l.set i x)+p (ag l i)=aD p l+p x
 |[],i,h=>by simp at h
 |y::l,0,_=>by simp[aD];omega
 |y::l,i+1,h=>by
  have:=Cd (p:=p) (x:=x) (l:=l) (i:=i) (by simpa using h)
  simp[aD];omega
theorem uf{p:List D->Nat}{f:List D->List D}(h:∀r,p (f r)=p r):∀l:List (List D),aD p (l.flatMap fun r=>[f r])=aD p l
 |[]=>rfl
 |x::l=>by
  have:=uf h l
  simp only[flatMap_cons,List.singleton_append,aD,h,this]
theorem pS(r:List D):am aj (bn r)=am aj r:=by
 simp only[aw,aA,szD,bf,zero_add,reduceAdd,bn,aq,ay,D.aQ]
theorem Oq(r:List D):am aj (rA r)=am aj r:=by
 simp only[aw,aA,szD,bf,zero_add,reduceAdd,rA,aq,ay,D.aQ]
theorem ve(l:List (List D)):aD (am aj) (als l)=aD (am aj) l:=uf pS l
theorem EZ(r:List D):am de (eu r)=am de r:=by
 simp only[aw,aA,szD,bf,zero_add,reduceAdd,eu,aq,ay,D.aQ,fR]
 rw[ve]
theorem Nl(l:List (List D)):aD (am de) (subs l)=aD (am de) l:=uf EZ l
theorem Dx(r:List D):am aM (iZ r)=am aM r:=by
 simp only[aw,aA,szD,bf,zero_add,reduceAdd,iZ,aq,ay,D.aQ,fR]
 rw[ve]
theorem Ei(l:List (List D)):aD (am aM) (grs l)=aD (am aM) l:=uf Dx l
def DE(m:List D):Nat:=szD (.sl 9 [.str]) (cell m 5)
def szL(ks:List K)(l:List (List D)):Nat:=l.length+aD (am ks) l
theorem rM(m:List D):am cO m=DE m+szL aj (cell m 6).ae+szL de (cell m 7).ae+szL aj (cell m 8).ae+szL aM (cell m 9).ae:=by
 simp only[aw,aA,szD,bf,zero_add,reduceAdd,DE,szL]
 omega
theorem qa(m:List D)(L S F G:List (List D))(n:D):am cO (mkM m L S F G n)=DE m+szL aj L+szL de S+szL aj F+szL aM G:=rM _
theorem LU(l:List (List D))(a:List D):szL aj (uQ l a)=szL aj l+1+am aj a:=by
 have h:=IM l (q9 l a)
 have h':=Ju l a
 simp only[szL,uQ,length_append,fR,bI,ve,aD,pS,length_cons,length_nil,length_take,length_drop]
 omega
theorem J4(a b:List D):am aj (jc a b)=am aj b:=by
 simp only[aw,aA,szD,bf,zero_add,reduceAdd,jc,aq,ay,D.aQ]
theorem rC{ks:List K}{l:List (List D)}{i:Nat}{x:List D}{n:Nat}(hi:i<l.length)(hx:am ks x<=am ks (ag l i)+n):szL ks (l.set i x)<=szL ks l+n:=by
 have:=Cd (p:=am ks) (x:=x) hi
 simp only[szL,List.length_set]
 omega
theorem A8(ks:List K)(l:List (List D))(n:Nat):szL ks (l.drop n)<=szL ks l:=by
 have:=kn (am ks) l n
 simp only[szL,length_drop]
 omega
theorem zt(l:List (List D)):szL aj (als l)=szL aj l:=by simp only[szL,fR,ve]
theorem Ck(l:List (List D)):szL aM (grs l)=szL aM l:=by simp only[szL,oF,Ei]
theorem Nj{ks:List K}{f:List D->List (List D)}(h:∀r,szL ks (f r)<=1+am ks r):∀l:List (List D),szL ks (l.flatMap f)<=szL ks l
 |[]=>by simp
 |x::l=>by
  have h1:=h x
  have h2:=Nj h l
  simp only[szL,flatMap_cons,length_append,bI,length_cons,aD] at*
  omega
theorem Ks(l:List (List D))(now:Int):szL aj (iC l now)<=szL aj l:=Nj (fun r=>by
 by_cases h:(cell r 2).ZY<=now<;>simp only[au,h,if_true,if_false,szL,length_cons,length_nil,aD,pS]<;>omega) l
theorem BY(r:List D):am aM r=szD (.sl 220 aC) (cell r 1)+szL aj (cell r 4).ae:=by
 simp only[aw,aA,szD,bf,zero_add,reduceAdd,szL]
 omega
theorem Jy(r:List D):am de r=szL aj (cell r 0).ae:=by
 simp only[aw,aA,szD,bf,zero_add,reduceAdd,szL]
 omega
theorem OX(s a:List D):am de (mR s a)<=am de s+(1+am aj a):=by
 unfold mR
 cases(cell s 1).ZZ
 · by_cases h:3<=(cell s 0).ae.length<;>simp only[cond_false,au,h,if_true,if_false,Jy,aq,D.aQ,szL,length_append,fR,bI,ve,aD,pS,length_cons,length_nil]<;>omega
 · rw[cond_true,EZ];omega
theorem EE(a:List D):∀l:List (List D),szL de (tells l a)<=szL de l+l.length*(1+am aj a)
 |[]=>by simp[tells,szL,aD]
 |x::l=>by
  have h1:=OX x a
  have h2:=EE a l
  simp only[szL,tells,flatMap_cons,length_append,bI,length_cons,length_nil,aD,Nat.add_mul,Nat.one_mul] at*
  omega
theorem O6(s:List D):am de (lf s)<=am de s:=by
 unfold lf
 cases(cell s 1).ZZ
 · have:=A8 aj (cell s 0).ae 1
   simp only[cond_false,Jy,aq,D.aQ,zt]
   omega
 · simp[Jy,szL,aD]
theorem Nd(l names:List (List D)):szD (.sl 220 aC) (.sl (bX l names))<=l.length+aD (am aC) l:=by
 simp only[szD,D.aQ,bX,length_map]
 have h1:∀l:List (List D),aD (am aC) ((l.filter fun r=>hasB names (cell r 0).ao).map fun r=>[cell r 0,cell r 1])<=aD (am aC) l:=fun l=>by
  induction l with
  |nil=>simp[aD]
  |cons x l ih=>
   rw[List.filter_cons]
   have e:am aC [cell x 0,cell x 1]=am aC x:=by
    simp only[aw,aA,szD,bf,zero_add,reduceAdd,aq,ay]
   split
   · simp only[map_cons,aD,e];omega
   · simp only[aD];omega
 have h2:=h1 l
 have h3:=List.length_filter_le (fun r=>hasB names (cell r 0).ao) l
 omega
theorem Vc(r:List D):(cell r 0).ae.length+aD (am aC) (cell r 0).ae<=am aj r:=by
 simp only[aw,aA,szD,bf,zero_add,reduceAdd]
 omega
theorem Oi(g a:List D):am aM (f8 g a)<=am aM g+(1+am aj a):=by
 have e1:am aM (f8 g a)=szD (.sl 220 aC) (cell g 1)+szL aj (cell (f8 g a) 4).ae:=BY _
 rw[e1,BY]
 rcases aZ (fun r=>eqR (aH aC) (cell r 0).ae (cell a 0).ae=true) (cell g 4).ae with ⟨q,_⟩|⟨i,h1,h2,_⟩
 · have q':dW (cell g 4).ae (cell a 0).ae= -1:=q
   have e2:(cell (f8 g a) 4).ae=uQ (cell g 4).ae a:=by simp[f8,q',au]
   rw[e2,LU];omega
 · have q':dW (cell g 4).ae (cell a 0).ae=(i:Int):=h2
   have e2:(cell (f8 g a) 4).ae=(als (cell g 4).ae).set i (bn a):=by simp[f8,q',au]
   have:=rC (ks:=aj) (x:=bn a) (n:=am aj a) (l:=als (cell g 4).ae) (i:=i) (by simpa using h1) (by rw[pS];omega)
   rw[zt] at this
   rw[e2];omega
theorem Ko(l:List (List D))(a:List D)(by':List (List D))(n now:D):szL aM (fN l a by' n now)<=szL aM l+2*(1+am aj a):=by
 rcases aZ (fun g=>eqR (aH aC) (cell g 1).ae (bX (cell a 0).ae by')=true) l with ⟨q,_⟩|⟨i,h1,h2,_⟩
 · have q':gH l (bX (cell a 0).ae by')= -1:=q
   have e2:fN l a by' n now=grs l++[[n,.sl (bX (cell a 0).ae by'),now,.int (-1),.sl [bn a]]]:=by simp[fN,q',au]
   have h3:=Nd (cell a 0).ae by'
   have h4:=Vc a
   have h5:am aM [n,.sl (bX (cell a 0).ae by'),now,.int (-1),.sl [bn a]]=szD (.sl 220 aC) (.sl (bX (cell a 0).ae by'))+szL aj [bn a]:=BY _
   rw[e2]
   simp only[szL,length_append,oF,bI,Ei,length_cons,length_nil,aD,pS] at*
   omega
 · have q':gH l (bX (cell a 0).ae by')=(i:Int):=h2
   have e2:fN l a by' n now=(grs l).set i (f8 (ag l i) a):=by simp[fN,q',au]
   have:=rC (ks:=aM) (x:=f8 (ag l i) a) (n:=1+am aj a) (l:=grs l) (i:=i) (by simpa using h1) (by rw[gO h1,Dx];exact Oi _ _)
   rw[Ck] at this
   rw[e2];omega
theorem KC(l:List (List D))(n:Int)(now:D):szL aM (iz l n now)<=szL aM l:=by
 rcases aZ (fun g=>(cell g 0).ZY=n) l with ⟨q,_⟩|⟨i,h1,h2,_⟩
 · have q':eo l n= -1:=q
   simp[iz,q',au,Ck]
 · have q':eo l n=(i:Int):=h2
   have e2:¬(i:Int)<0:=by omega
   by_cases hs:(iC (cell (ag l i) 4).ae now.ZY).length=0
   · have e:iz l n now=(grs l).take i++(grs l).drop (i+1):=by simp only[iz,q',au,Int.toNat_natCast,e2,hs,if_true,if_false]
     have h3:=bO (am aM) (xs:=grs l) (i:=i)
     have h4:aD (am aM) ((grs l).take i)+aD (am aM) ((grs l).drop i)=aD (am aM) (grs l):=by rw[<-bI,take_append_drop]
     have h5:=kn (am aM) ((grs l).drop i) 1
     rw[List.drop_drop] at h5
     rw[e]
     simp only[szL,length_append,bI,length_take,length_drop,oF,Ei] at*
     omega
   · have e:iz l n now=(grs l).set i (gw (ag l i) now):=by simp only[iz,q',au,Int.toNat_natCast,e2,hs,if_false]
     have h3:=rC (ks:=aM) (x:=gw (ag l i) now) (n:=0) (l:=grs l) (i:=i) (by simpa using h1) (by
      have h4:am aM (gw (ag l i) now)=szD (.sl 220 aC) (cell (ag l i) 1)+szL aj (iC (cell (ag l i) 4).ae now.ZY):=BY _
      have h5:=Ks (cell (ag l i) 4).ae now.ZY
      rw[gO h1,Dx,h4,BY];omega)
     rw[Ck] at h3
     rw[e];omega
theorem Pf(m d:List D):szL aj (D8 m d)<=szL aj (cell m 6).ae:=Nj (fun r=>by
 by_cases h:lQ m d r<;>simp only[au,h,if_true,if_false,szL,length_cons,length_nil,aD,Oq]<;>omega) _
theorem oi(m:List D):am cO (aL m)=am cO m:=by rw[aL,qa,rM]
def ko(m d:List D)(p:List D×Bool):Prop:=am cO p.1<=am cO m+8*(1+am dg d)
theorem cN{m d:List D}{c:Bool}{p q:List D×Bool}(h1:c=true->ko m d p)(h2:c=false->ko m d q):ko m d (bif c then p else q):=by
 cases c
 · exact h2 rfl
 · exact h1 rfl
theorem en(m d:List D)(b:Bool):ko m d (aL m,b):=by
 unfold ko;rw[oi];omega
theorem WR{m d:List D}(hM:eG m)(hD:ai d):ko m d (opM m d):=by
 have hT:=Cs d
 unfold opM
 refine cN (fun _=> ?_) fun _=>cN (fun _=> ?_) fun _=>cN (fun _=>en _ _ _) fun _=>cN (fun _=>en _ _ _) fun _=>cN (fun _=> ?_) fun _=>cN (fun _=> ?_) fun _=>cN (fun _=> ?_) fun _=>cN (fun _=> ?_) fun _=>en _ _ _
 · refine cN (fun _=>en _ _ _) fun _=>cN (fun _=>cN (fun h=> ?_) fun _=>en _ _ _) fun _=>cN (fun _=>cN (fun _=>en _ _ _) fun _=> ?_) fun _=>en _ _ _
   · rcases aZ (fun r=>eqR (aH aC) (cell r 0).ae (cell d 2).ae=true) (cell m 6).ae with ⟨q,_⟩|⟨i,h1,h2,_⟩
     · have q':dW (cell m 6).ae (cell d 2).ae= -1:=q
       rw[q',bW] at h;omega
     · have q':dW (cell m 6).ae (cell d 2).ae=(i:Int):=h2
       have:=rC (ks:=aj) (x:=jc (ag (cell m 6).ae i) (aG d)) (n:=am aj (aG d)) h1 (by rw[J4];omega)
       unfold ko
       rw[q',Int.toNat_natCast,qa,rM];omega
   · unfold ko
     rw[qa,rM,LU];omega
 · refine cN (fun _=>en _ _ _) fun _=> ?_
   have h1:=EE (aG d) (cell m 7).ae
   have h2:=hM.2.2.1.2
   have h3:=hM.1.2.2.1
   simp only[In] at h3
   have h4:(cell m 7).ae.length*(1+am aj (aG d))<=2*(1+am aj (aG d)):=Nat.mul_le_mul_right _ (by omega)
   unfold ko
   rw[qa,rM]
   simp only[szL,length_append,bI,length_cons,length_nil,aD,pS] at*
   omega
 · have:=Pf m d
   unfold ko bJ
   rw[qa,rM];omega
 · have h1:=A8 aj (cell m 8).ae 1
   have h2:=Ko (cell m 9).ae (aG d) (cell m 5).ae (cell m 10) (cell d 11)
   refine cN (fun _=>en _ _ _) fun _=>cN (fun _=> ?_) fun _=> ?_
   · unfold ko
     rw[qa,rM,zt];omega
   · unfold ko lm
     rw[qa,rM,zt];omega
 · have h1:=KC (cell m 9).ae (cell d 8).ZY (cell d 11)
   refine cN (fun _=>en _ _ _) fun _=>cN (fun _=>en _ _ _) fun _=> ?_
   unfold ko
   rw[qa,rM];omega
 · refine cN (fun _=>en _ _ _) fun h=> ?_
   have h0:=hD.2.2.2.1
   have h1:¬((cell m 7).ae.length:Int)<=(cell d 7).ZY:=by rw[<-bM];exact h
   have h2:=rC (ks:=de) (x:=lf (atS m d)) (n:=0) (l:=(cell m 7).ae) (i:=(cell d 7).ZY.toNat) (by omega) (O6 _)
   unfold ko
   rw[qa,rM];omega
def iX(p:List D×Bool):Prop:=aL p.1=p.1
theorem ib{c:Bool}{p q:List D×Bool}(h1:iX p)(h2:iX q):iX (bif c then p else q):=by cases c<;>assumption
theorem HW(m d:List D):iX (opM m d):=by
 have h0:∀b,iX (aL m,b):=fun _=>rfl
 unfold opM cg bZ getM bJ bP aX b8
 repeat first|exact h0 _|exact rfl|refine ib ?_ ?_
theorem mt(m:List D):eG (aL m)=eG m:=rfl
theorem mC(m:List D):zu (aL m)=zu m:=rfl
theorem cj(m:List D):([cell m 0,cell m 1,cell m 2,cell m 3,cell m 4,.sl (cell m 5).ae,.sl (cell m 6).ae,.sl (cell m 7).ae,.sl (cell m 8).ae,.sl (cell m 9).ae,cell m 10]:List D)=aL m:=rfl
theorem G8(m d:List D):cg (aL m) d=cg m d∧bZ (aL m) d=bZ m d∧getM (aL m) d=getM m d∧bJ (aL m) d=bJ m d∧bP (aL m) d=bP m d∧aX (aL m) d=aX m d∧b8 (aL m) d=b8 m d:=⟨rfl,rfl,rfl,rfl,rfl,rfl,rfl⟩
theorem Gz(m d:List D):aL (cg m d).1=(cg m d).1∧aL (bZ m d).1=(bZ m d).1∧aL (getM m d).1=(getM m d).1∧aL (bJ m d).1=(bJ m d).1∧aL (bP m d).1=(bP m d).1∧aL (aX m d).1=(aX m d).1∧aL (b8 m d).1=(b8 m d).1:=by
 have h0:∀b,iX (aL m,b):=fun _=>rfl
 refine⟨?_,?_,?_,?_,?_,?_,?_⟩
 · show iX (cg m d);unfold cg;repeat first|exact h0 _|exact rfl|refine ib ?_ ?_
 · show iX (bZ m d);unfold bZ;repeat first|exact h0 _|exact rfl|refine ib ?_ ?_
 · rfl
 · rfl
 · show iX (bP m d);unfold bP;repeat first|exact h0 _|exact rfl|refine ib ?_ ?_
 · show iX (aX m d);unfold aX;repeat first|exact h0 _|exact rfl|refine ib ?_ ?_
 · show iX (b8 m d);unfold b8;repeat first|exact h0 _|exact rfl|refine ib ?_ ?_
theorem eleven{x:List D}(h:aL x=x):x=[x[0]?.getD default,x[1]?.getD default,x[2]?.getD default,x[3]?.getD default,x[4]?.getD default,x[5]?.getD default,x[6]?.getD default,x[7]?.getD default,x[8]?.getD default,x[9]?.getD default,x[10]?.getD default]:=by
 rw[<-h];rfl
theorem Vs:cW Tryz.prog Φ pG:=kD tok mixed (l:=[pO,IV,rF,B9,CP,FD,zG,wT,Ax]) (by simp[qm,Mu,Ty,P6,RG,UK,WX,VQ,Ui]) Tryz.func206 (by decide) (by decide) (by decide) K5 (args2 fun a b hp=>by
 simp[pG,show Φ 206=mMB (fun _ _=>True) doM from rfl,mMB] at hp
 obtain⟨⟨hs1,hs2⟩,hM,hR⟩:=hp
 obtain⟨p1,p2,p3,p4,p5,p6,p7⟩:=G8 a.row b.row
 obtain⟨q1,q2,q3,q4,q5,q6,q7⟩:=Gz a.row b.row
 by_cases hD:ai b.row
 · by_cases hl:(cell b.row 13).ZY= -1
   · simp[v206,pG,show Φ 206=mMB (fun _ _=>True) doM from rfl,fa,iR,show Φ 273=mMB (fun _ d=>ai d) cg from rfl,show Φ 274=mMB (fun _ d=>ai d) bZ from rfl,show Φ 275=mMB (fun _ d=>ai d) getM from rfl,show Φ 276=mMB (fun _ d=>ai d) bJ from rfl,show Φ 277=mMB (fun _ d=>ai d) bP from rfl,show Φ 278=mMB (fun _ d=>ai d) aX from rfl,show Φ 279=mMB (fun _ d=>ai d) b8 from rfl,mMB,aF,mB,doM,au,hD,hl,bd,cj,List.range,List.range.loop]
     exact eleven rfl
   · by_cases h1:(cell b.row 0).ZY=1
     · simp[v206,pG,show Φ 206=mMB (fun _ _=>True) doM from rfl,fa,iR,show Φ 273=mMB (fun _ d=>ai d) cg from rfl,show Φ 274=mMB (fun _ d=>ai d) bZ from rfl,show Φ 275=mMB (fun _ d=>ai d) getM from rfl,show Φ 276=mMB (fun _ d=>ai d) bJ from rfl,show Φ 277=mMB (fun _ d=>ai d) bP from rfl,show Φ 278=mMB (fun _ d=>ai d) aX from rfl,show Φ 279=mMB (fun _ d=>ai d) b8 from rfl,mMB,aF,mB,doM,opM,au,hD,hl,h1,bd,cj,oi,mt,mC,hs1,hs2,hM,hR,p1,q1,List.range,List.range.loop]
       exact eleven q1
     by_cases h2:(cell b.row 0).ZY=2
     · simp[v206,pG,show Φ 206=mMB (fun _ _=>True) doM from rfl,fa,iR,show Φ 273=mMB (fun _ d=>ai d) cg from rfl,show Φ 274=mMB (fun _ d=>ai d) bZ from rfl,show Φ 275=mMB (fun _ d=>ai d) getM from rfl,show Φ 276=mMB (fun _ d=>ai d) bJ from rfl,show Φ 277=mMB (fun _ d=>ai d) bP from rfl,show Φ 278=mMB (fun _ d=>ai d) aX from rfl,show Φ 279=mMB (fun _ d=>ai d) b8 from rfl,mMB,aF,mB,doM,opM,au,hD,hl,h2,bd,cj,oi,mt,mC,hs1,hs2,hM,hR,p2,q2,List.range,List.range.loop]
       exact eleven q2
     by_cases h3:(cell b.row 0).ZY=3
     · simp[v206,pG,show Φ 206=mMB (fun _ _=>True) doM from rfl,fa,iR,show Φ 273=mMB (fun _ d=>ai d) cg from rfl,show Φ 274=mMB (fun _ d=>ai d) bZ from rfl,show Φ 275=mMB (fun _ d=>ai d) getM from rfl,show Φ 276=mMB (fun _ d=>ai d) bJ from rfl,show Φ 277=mMB (fun _ d=>ai d) bP from rfl,show Φ 278=mMB (fun _ d=>ai d) aX from rfl,show Φ 279=mMB (fun _ d=>ai d) b8 from rfl,mMB,aF,mB,doM,opM,au,hD,hl,h3,bd,cj,oi,mt,mC,hs1,hs2,hM,hR,p3,q3,List.range,List.range.loop]
       exact eleven q3
     by_cases h4:(cell b.row 0).ZY=4
     · simp[v206,pG,show Φ 206=mMB (fun _ _=>True) doM from rfl,fa,iR,show Φ 273=mMB (fun _ d=>ai d) cg from rfl,show Φ 274=mMB (fun _ d=>ai d) bZ from rfl,show Φ 275=mMB (fun _ d=>ai d) getM from rfl,show Φ 276=mMB (fun _ d=>ai d) bJ from rfl,show Φ 277=mMB (fun _ d=>ai d) bP from rfl,show Φ 278=mMB (fun _ d=>ai d) aX from rfl,show Φ 279=mMB (fun _ d=>ai d) b8 from rfl,mMB,aF,mB,doM,opM,au,hD,hl,h4,bd,cj,List.range,List.range.loop]
       exact eleven rfl
     by_cases h5:(cell b.row 0).ZY=5
     · simp[v206,pG,show Φ 206=mMB (fun _ _=>True) doM from rfl,fa,iR,show Φ 273=mMB (fun _ d=>ai d) cg from rfl,show Φ 274=mMB (fun _ d=>ai d) bZ from rfl,show Φ 275=mMB (fun _ d=>ai d) getM from rfl,show Φ 276=mMB (fun _ d=>ai d) bJ from rfl,show Φ 277=mMB (fun _ d=>ai d) bP from rfl,show Φ 278=mMB (fun _ d=>ai d) aX from rfl,show Φ 279=mMB (fun _ d=>ai d) b8 from rfl,mMB,aF,mB,doM,opM,au,hD,hl,h5,bd,cj,oi,mt,mC,hs1,hs2,hM,hR,p4,q4,List.range,List.range.loop]
       exact eleven q4
     by_cases h7:(cell b.row 0).ZY=7
     · simp[v206,pG,show Φ 206=mMB (fun _ _=>True) doM from rfl,fa,iR,show Φ 273=mMB (fun _ d=>ai d) cg from rfl,show Φ 274=mMB (fun _ d=>ai d) bZ from rfl,show Φ 275=mMB (fun _ d=>ai d) getM from rfl,show Φ 276=mMB (fun _ d=>ai d) bJ from rfl,show Φ 277=mMB (fun _ d=>ai d) bP from rfl,show Φ 278=mMB (fun _ d=>ai d) aX from rfl,show Φ 279=mMB (fun _ d=>ai d) b8 from rfl,mMB,aF,mB,doM,opM,au,hD,hl,h7,bd,cj,oi,mt,mC,hs1,hs2,hM,hR,p5,q5,List.range,List.range.loop]
       exact eleven q5
     by_cases h8:(cell b.row 0).ZY=8
     · simp[v206,pG,show Φ 206=mMB (fun _ _=>True) doM from rfl,fa,iR,show Φ 273=mMB (fun _ d=>ai d) cg from rfl,show Φ 274=mMB (fun _ d=>ai d) bZ from rfl,show Φ 275=mMB (fun _ d=>ai d) getM from rfl,show Φ 276=mMB (fun _ d=>ai d) bJ from rfl,show Φ 277=mMB (fun _ d=>ai d) bP from rfl,show Φ 278=mMB (fun _ d=>ai d) aX from rfl,show Φ 279=mMB (fun _ d=>ai d) b8 from rfl,mMB,aF,mB,doM,opM,au,hD,hl,h8,bd,cj,oi,mt,mC,hs1,hs2,hM,hR,p6,q6,List.range,List.range.loop]
       exact eleven q6
     by_cases h9:(cell b.row 0).ZY=9
     · simp[v206,pG,show Φ 206=mMB (fun _ _=>True) doM from rfl,fa,iR,show Φ 273=mMB (fun _ d=>ai d) cg from rfl,show Φ 274=mMB (fun _ d=>ai d) bZ from rfl,show Φ 275=mMB (fun _ d=>ai d) getM from rfl,show Φ 276=mMB (fun _ d=>ai d) bJ from rfl,show Φ 277=mMB (fun _ d=>ai d) bP from rfl,show Φ 278=mMB (fun _ d=>ai d) aX from rfl,show Φ 279=mMB (fun _ d=>ai d) b8 from rfl,mMB,aF,mB,doM,opM,au,hD,hl,h9,bd,cj,oi,mt,mC,hs1,hs2,hM,hR,p7,q7,List.range,List.range.loop]
       exact eleven q7
     simp[v206,pG,show Φ 206=mMB (fun _ _=>True) doM from rfl,fa,iR,show Φ 273=mMB (fun _ d=>ai d) cg from rfl,show Φ 274=mMB (fun _ d=>ai d) bZ from rfl,show Φ 275=mMB (fun _ d=>ai d) getM from rfl,show Φ 276=mMB (fun _ d=>ai d) bJ from rfl,show Φ 277=mMB (fun _ d=>ai d) bP from rfl,show Φ 278=mMB (fun _ d=>ai d) aX from rfl,show Φ 279=mMB (fun _ d=>ai d) b8 from rfl,mMB,aF,mB,doM,opM,au,hD,hl,h1,h2,h3,h4,h5,h7,h8,h9,bd,cj,List.range,List.range.loop]
     exact eleven rfl
 · simp[v206,pG,show Φ 206=mMB (fun _ _=>True) doM from rfl,fa,iR,show Φ 273=mMB (fun _ d=>ai d) cg from rfl,show Φ 274=mMB (fun _ d=>ai d) bZ from rfl,show Φ 275=mMB (fun _ d=>ai d) getM from rfl,show Φ 276=mMB (fun _ d=>ai d) bJ from rfl,show Φ 277=mMB (fun _ d=>ai d) bP from rfl,show Φ 278=mMB (fun _ d=>ai d) aX from rfl,show Φ 279=mMB (fun _ d=>ai d) b8 from rfl,mMB,aF,mB,doM,au,hD,bd,cj,List.range,List.range.loop]
   exact eleven rfl)
theorem B7{l:List (List D)}(h:kS l):kS (als l):=fun i hi=>by
 rw[fR] at hi
 rw[jW hi]
 exact h i hi
theorem Kv{s:List D}(h:tW s):tW (eu s):=
 ⟨fun hb=>by simpa[eu] using h.1 hb,by simpa[eu] using h.2.1,B7 h.2.2⟩
theorem GC{g:List D}{by':List (List D)}(h:kR g by'):kR (iZ g) by':=by
 refine⟨h.1,h.2.1,h.2.2.1,h.2.2.2.1,by simpa[iZ] using h.2.2.2.2.1,fun i hi=> ?_⟩
 have hi':i<(cell g 4).ae.length:=by simpa[iZ] using hi
 have h1:=h.2.2.2.2.2 i hi'
 have e:∀j,j<(cell g 4).ae.length->ag (cell (iZ g) 4).ae j=bn (ag (cell g 4).ae j):=fun j hj=>jW hj
 rw[e i hi']
 refine⟨h1.1,h1.2.1,fun h0=> ?_⟩
 rw[e (i - 1) (by omega)]
 exact h1.2.2 h0
theorem C3{l by':List (List D)}(h:eA l by'):eA (grs l) by':=by
 refine⟨by simpa using h.1,fun i hi=> ?_⟩
 rw[oF] at hi
 have h1:=h.2 i hi
 rw[gO hi]
 refine⟨GC h1.1,fun h0=> ?_,fun k hk=> ?_⟩
 · rw[gO (by omega)];exact h1.2.1 h0
 · rw[gO (by omega)];exact h1.2.2 k hk
theorem Jn{m:List D}(h:eG m):eG (cT m):=by
 have e6:(cell (cT m) 6).ae=als (cell m 6).ae:=rfl
 have e9:(cell (cT m) 9).ae=grs (cell m 9).ae:=rfl
 obtain⟨h1,h2,h3,h4,h5,h6,h7,h8⟩:=h
 refine⟨h1,by rw[e6,fR];exact h2,⟨fun i hi=> ?_,by simpa[cT] using h3.2⟩,B7 h4,h5,C3 h6,fun i hi=> ?_,fun i hi=> ?_⟩
 · have hi':i<(cell m 7).ae.length:=by simpa[cT] using hi
   have e:ag (cell (cT m) 7).ae i=eu (ag (cell m 7).ae i):=BA hi'
   rw[e];exact Kv (h3.1 i hi')
 · rw[e6] at hi⊢
   rw[fR] at hi
   rw[jW hi]
   refine⟨(h7 i hi).1,fun h0=> ?_⟩
   rw[jW (by omega)]
   exact(h7 i hi).2 h0
 · rw[e9] at hi⊢
   rw[oF] at hi
   rw[gO hi]
   exact h8 i hi
theorem LZ(m:List D):zu (cT m):=by
 refine⟨fun i hi=> ?_,fun i hi=> ?_⟩
 · have e6:(cell (cT m) 6).ae=als (cell m 6).ae:=rfl
   rw[e6] at hi⊢
   rw[fR] at hi
   rw[jW hi];rfl
 · have e7:(cell (cT m) 7).ae=subs (cell m 7).ae:=rfl
   rw[e7] at hi⊢
   rw[BZ] at hi
   rw[BA hi];rfl
theorem u6(m:List D):am cO (cT m)=am cO m:=by
 have e6:(cell (cT m) 6).ae=als (cell m 6).ae:=rfl
 have e7:(cell (cT m) 7).ae=subs (cell m 7).ae:=rfl
 have e8:(cell (cT m) 8).ae=als (cell m 8).ae:=rfl
 have e9:(cell (cT m) 9).ae=grs (cell m 9).ae:=rfl
 have e5:DE (cT m)=DE m:=rfl
 rw[rM,rM,e5,e6,e7,e8,e9]
 simp only[szL,fR,ve,BZ,Nl,oF,Ei]
theorem fE(m:List D):aL (cT m)=cT m:=rfl
theorem BV(m d:List D):aL (doM m d).1=(doM m d).1:=by
 show iX (doM m d)
 unfold doM
 exact ib rfl (HW _ _)
theorem um(x y:List D):aH aj x (bn y)=aH aj x y:=by
 simp[aR,a7,cD,bE,bA,bn]
theorem Eg(x:List (List D)):∀l:List (List D),eqR (aH aj) x (als l)=eqR (aH aj) x l:=fun l=>by
 rw[lu]
 induction l generalizing x with
 |nil=>rfl
 |cons y l ih=>cases x with
  |nil=>rfl
  |cons z x=>simp only[map_cons,eqR,um,ih]
theorem Ux:GG G5:=gde (vc:=Pi) [Jd,SZ,pG] (by simp[MG,U8,Vs]) Tryz.func125 (args2 fun a b hw hp=>by
 simp[G5,sY,cL] at hp
 have hc:=u6 a.row
 by_cases hM:eG a.row
 · have h1:=Jn hM
   have h2:=LZ a.row
   have h3:=BV (cT a.row) b.row
   cases hd:(doM (cT a.row) b.row).2<;>simp[Pi,G5,sY,pW,sV,show Φ 206=mMB (fun _ _=>True) doM from rfl,cL,br,mB,mMB,RSh.cells,bw,au,hM,hd,cj,fE,hc,hp,h1,h2]<;>omega
 · simp[Pi,G5,sY,pW,sV,show Φ 206=mMB (fun _ _=>True) doM from rfl,cL,br,mB,mMB,RSh.cells,bw,au,hM,hp]
   omega)
theorem RT:GG pE:=gde (vc:=sL) [g90,Jr,wy,VB,sR,Dq,FO,Jb,BR,zm,CL] (by simp[WQ,MO,vH,UM,SF,VK,PS,Rh,V5,Xa,W4]) Tryz.func121 (args2 fun a b hw hp=>by
 simp[pE,iU,cL] at hp
 have hc:=u6 a.row
 have hp':am cO a.row<=1073741824:=by omega
 by_cases hM:eG a.row
 · have h1:=Jn hM
   have h2:=LZ a.row
   by_cases hD:ai b.row
   · by_cases hl:(cell b.row 13).ZY= -1
     · simp[sL,pE,iU,lD,iB,gq,iw,show Φ 194=mMB (fun _ d=>ai d) cg from rfl,show Φ 195=mMB (fun _ d=>ai d) bZ from rfl,show Φ 196=mMB (fun _ d=>ai d) getM from rfl,show Φ 197=mMB (fun _ d=>ai d) bJ from rfl,show Φ 198=mMB (fun _ d=>ai d) bP from rfl,show Φ 199=mMB (fun _ d=>ai d) aX from rfl,show Φ 200=mMB (fun _ d=>ai d) b8 from rfl,cL,mB,br,aF,mMB,RSh.cells,bw,doM,au,hM,hD,hl,hp,hp']
     · by_cases o1:(cell b.row 0).ZY=1
       · cases hd:(cg (cT a.row) b.row).2<;>simp[sL,pE,iU,lD,iB,gq,iw,show Φ 194=mMB (fun _ d=>ai d) cg from rfl,show Φ 195=mMB (fun _ d=>ai d) bZ from rfl,show Φ 196=mMB (fun _ d=>ai d) getM from rfl,show Φ 197=mMB (fun _ d=>ai d) bJ from rfl,show Φ 198=mMB (fun _ d=>ai d) bP from rfl,show Φ 199=mMB (fun _ d=>ai d) aX from rfl,show Φ 200=mMB (fun _ d=>ai d) b8 from rfl,cL,mB,br,aF,mMB,RSh.cells,bw,doM,opM,au,hM,hD,hl,o1,hd,cj,fE,hc,hp,hp',h1,h2]
       by_cases o2:(cell b.row 0).ZY=2
       · cases hd:(bZ (cT a.row) b.row).2<;>simp[sL,pE,iU,lD,iB,gq,iw,show Φ 194=mMB (fun _ d=>ai d) cg from rfl,show Φ 195=mMB (fun _ d=>ai d) bZ from rfl,show Φ 196=mMB (fun _ d=>ai d) getM from rfl,show Φ 197=mMB (fun _ d=>ai d) bJ from rfl,show Φ 198=mMB (fun _ d=>ai d) bP from rfl,show Φ 199=mMB (fun _ d=>ai d) aX from rfl,show Φ 200=mMB (fun _ d=>ai d) b8 from rfl,cL,mB,br,aF,mMB,RSh.cells,bw,doM,opM,au,hM,hD,hl,o2,hd,cj,fE,hc,hp,hp',h1,h2]
       by_cases o3:(cell b.row 0).ZY=3
       · cases hd:(getM (cT a.row) b.row).2<;>simp[sL,pE,iU,lD,iB,gq,iw,show Φ 194=mMB (fun _ d=>ai d) cg from rfl,show Φ 195=mMB (fun _ d=>ai d) bZ from rfl,show Φ 196=mMB (fun _ d=>ai d) getM from rfl,show Φ 197=mMB (fun _ d=>ai d) bJ from rfl,show Φ 198=mMB (fun _ d=>ai d) bP from rfl,show Φ 199=mMB (fun _ d=>ai d) aX from rfl,show Φ 200=mMB (fun _ d=>ai d) b8 from rfl,cL,mB,br,aF,mMB,RSh.cells,bw,doM,opM,au,hM,hD,hl,o3,hd,cj,fE,hc,hp,hp',h1,h2]
       by_cases o4:(cell b.row 0).ZY=4
       · have e:(cell (cT a.row) 6).ae=als (cell a.row 6).ae:=rfl
         have e':=kl aj (cell a.row 6).ae (cell b.row 10).ae
         cases hd:eqR (aH aj) (cell b.row 10).ae (cell a.row 6).ae<;>simp[sL,pE,iU,lD,iB,gq,iw,show Φ 194=mMB (fun _ d=>ai d) cg from rfl,show Φ 195=mMB (fun _ d=>ai d) bZ from rfl,show Φ 196=mMB (fun _ d=>ai d) getM from rfl,show Φ 197=mMB (fun _ d=>ai d) bJ from rfl,show Φ 198=mMB (fun _ d=>ai d) bP from rfl,show Φ 199=mMB (fun _ d=>ai d) aX from rfl,show Φ 200=mMB (fun _ d=>ai d) b8 from rfl,cL,mB,br,aF,mMB,RSh.cells,bw,doM,opM,au,hM,hD,hl,o4,hd,e,e',Eg,cj,fE,hc,hp,hp',h1,h2]
       by_cases o5:(cell b.row 0).ZY=5
       · cases hd:(bJ (cT a.row) b.row).2<;>simp[sL,pE,iU,lD,iB,gq,iw,show Φ 194=mMB (fun _ d=>ai d) cg from rfl,show Φ 195=mMB (fun _ d=>ai d) bZ from rfl,show Φ 196=mMB (fun _ d=>ai d) getM from rfl,show Φ 197=mMB (fun _ d=>ai d) bJ from rfl,show Φ 198=mMB (fun _ d=>ai d) bP from rfl,show Φ 199=mMB (fun _ d=>ai d) aX from rfl,show Φ 200=mMB (fun _ d=>ai d) b8 from rfl,cL,mB,br,aF,mMB,RSh.cells,bw,doM,opM,au,hM,hD,hl,o5,hd,cj,fE,hc,hp,hp',h1,h2]
       by_cases o7:(cell b.row 0).ZY=7
       · cases hd:(bP (cT a.row) b.row).2<;>simp[sL,pE,iU,lD,iB,gq,iw,show Φ 194=mMB (fun _ d=>ai d) cg from rfl,show Φ 195=mMB (fun _ d=>ai d) bZ from rfl,show Φ 196=mMB (fun _ d=>ai d) getM from rfl,show Φ 197=mMB (fun _ d=>ai d) bJ from rfl,show Φ 198=mMB (fun _ d=>ai d) bP from rfl,show Φ 199=mMB (fun _ d=>ai d) aX from rfl,show Φ 200=mMB (fun _ d=>ai d) b8 from rfl,cL,mB,br,aF,mMB,RSh.cells,bw,doM,opM,au,hM,hD,hl,o7,hd,cj,fE,hc,hp,hp',h1,h2]
       by_cases o8:(cell b.row 0).ZY=8
       · cases hd:(aX (cT a.row) b.row).2<;>simp[sL,pE,iU,lD,iB,gq,iw,show Φ 194=mMB (fun _ d=>ai d) cg from rfl,show Φ 195=mMB (fun _ d=>ai d) bZ from rfl,show Φ 196=mMB (fun _ d=>ai d) getM from rfl,show Φ 197=mMB (fun _ d=>ai d) bJ from rfl,show Φ 198=mMB (fun _ d=>ai d) bP from rfl,show Φ 199=mMB (fun _ d=>ai d) aX from rfl,show Φ 200=mMB (fun _ d=>ai d) b8 from rfl,cL,mB,br,aF,mMB,RSh.cells,bw,doM,opM,au,hM,hD,hl,o8,hd,cj,fE,hc,hp,hp',h1,h2]
       by_cases o9:(cell b.row 0).ZY=9
       · cases hd:(b8 (cT a.row) b.row).2<;>simp[sL,pE,iU,lD,iB,gq,iw,show Φ 194=mMB (fun _ d=>ai d) cg from rfl,show Φ 195=mMB (fun _ d=>ai d) bZ from rfl,show Φ 196=mMB (fun _ d=>ai d) getM from rfl,show Φ 197=mMB (fun _ d=>ai d) bJ from rfl,show Φ 198=mMB (fun _ d=>ai d) bP from rfl,show Φ 199=mMB (fun _ d=>ai d) aX from rfl,show Φ 200=mMB (fun _ d=>ai d) b8 from rfl,cL,mB,br,aF,mMB,RSh.cells,bw,doM,opM,au,hM,hD,hl,o9,hd,cj,fE,hc,hp,hp',h1,h2]
       simp[sL,pE,iU,lD,iB,gq,iw,show Φ 194=mMB (fun _ d=>ai d) cg from rfl,show Φ 195=mMB (fun _ d=>ai d) bZ from rfl,show Φ 196=mMB (fun _ d=>ai d) getM from rfl,show Φ 197=mMB (fun _ d=>ai d) bJ from rfl,show Φ 198=mMB (fun _ d=>ai d) bP from rfl,show Φ 199=mMB (fun _ d=>ai d) aX from rfl,show Φ 200=mMB (fun _ d=>ai d) b8 from rfl,cL,mB,br,aF,mMB,RSh.cells,bw,doM,opM,au,hM,hD,hl,o1,o2,o3,o4,o5,o7,o8,o9,fE,hp,hp']
   · simp[sL,pE,iU,lD,iB,gq,iw,show Φ 194=mMB (fun _ d=>ai d) cg from rfl,show Φ 195=mMB (fun _ d=>ai d) bZ from rfl,show Φ 196=mMB (fun _ d=>ai d) getM from rfl,show Φ 197=mMB (fun _ d=>ai d) bJ from rfl,show Φ 198=mMB (fun _ d=>ai d) bP from rfl,show Φ 199=mMB (fun _ d=>ai d) aX from rfl,show Φ 200=mMB (fun _ d=>ai d) b8 from rfl,cL,mB,br,aF,mMB,RSh.cells,bw,doM,au,hM,hD,hp,hp']
 · simp[sL,pE,iU,lD,iB,gq,iw,show Φ 194=mMB (fun _ d=>ai d) cg from rfl,show Φ 195=mMB (fun _ d=>ai d) bZ from rfl,show Φ 196=mMB (fun _ d=>ai d) getM from rfl,show Φ 197=mMB (fun _ d=>ai d) bJ from rfl,show Φ 198=mMB (fun _ d=>ai d) bP from rfl,show Φ 199=mMB (fun _ d=>ai d) aX from rfl,show Φ 200=mMB (fun _ d=>ai d) b8 from rfl,cL,mB,br,aF,mMB,RSh.cells,bw,au,hM,hp,hp'])
theorem JZ{l:List (List D)}{i:Nat}(h:i<l.length):l.drop i=ag l i::l.drop (i+1):=by
 rw[fu h,List.drop_eq_getElem_cons h]
theorem Dt{m:List D}{l:List (List D)}{i:Nat}(h:i<l.length):runM m (l.drop i) i=bif (bw m (ag l i)).2 then runM (bw m (ag l i)).1 (l.drop (i+1)) (i+1) else(m,i):=by
 rw[JZ h];rfl
theorem Ek(m:List D)(l:List (List D)):runM m (l.drop l.length) l.length=(m,l.length):=by
 rw[List.drop_of_length_le (le_refl _)];rfl
theorem AJ(m d:List D):aL (bw m d).1=(bw m d).1:=by
 show iX (bw m d)
 unfold bw
 exact ib (BV _ _) rfl
theorem DW(m d:List D):am cO (bw m d).1<=am cO m+8*(1+am dg d):=by
 unfold bw
 cases hM:tt (eG m∧(doM (cT m) d).2=true)
 · show am cO (cT m)<=_
   rw[u6];omega
 · rw[bW] at hM
   have h:=hM.2
   show am cO (doM (cT m) d).1<=_
   unfold doM at h⊢
   cases hD:tt (¬ai d∨(cell d 13).ZY= -1)
   · rw[bM] at hD
     have:=WR (Jn hM.1) (Classical.not_not.1 fun q=>hD (.inl q))
     unfold ko at this
     rw[u6] at this;exact this
   · rw[hD] at h;cases h
def KX(a b:D)(v:List D):Prop:=∃(i:Nat) (m:List D),v=[.int i,cell m 0,cell m 1,cell m 2,cell m 3,cell m 4,cell m 10,cell m 5,cell m 6,cell m 7,cell m 8,cell m 9]∧i<=b.ae.length∧aL m=m∧runM (cT a.row) b.ae 0=runM m (b.ae.drop i) i∧am cO m<=am cO a.row+8*(i+aD (am dg) (b.ae.take i))
theorem yj(a b:D):KX a b [.int 0,cell (cT a.row) 0,cell (cT a.row) 1,cell (cT a.row) 2,cell (cT a.row) 3,cell (cT a.row) 4,cell (cT a.row) 10,cell (cT a.row) 5,cell (cT a.row) 6,cell (cT a.row) 7,cell (cT a.row) 8,cell (cT a.row) 9]:=
 ⟨0,cT a.row,rfl,by omega,rfl,rfl,by rw[u6];omega⟩
theorem yA{a b:D}{i:Nat}{m:List D}(h:i<b.ae.length)(hr:runM (cT a.row) b.ae 0=runM m (b.ae.drop i) i)(hz:am cO m<=am cO a.row+8*(i+aD (am dg) (b.ae.take i)))(hd:(bw m (ag b.ae i)).2=true):
 KX a b [.int (↑(i+1)),cell (bw m (ag b.ae i)).1 0,cell (bw m (ag b.ae i)).1 1,cell (bw m (ag b.ae i)).1 2,cell (bw m (ag b.ae i)).1 3,cell (bw m (ag b.ae i)).1 4,cell (bw m (ag b.ae i)).1 10,cell (bw m (ag b.ae i)).1 5,cell (bw m (ag b.ae i)).1 6,cell (bw m (ag b.ae i)).1 7,cell (bw m (ag b.ae i)).1 8,cell (bw m (ag b.ae i)).1 9]:=by
 refine⟨i+1,_,rfl,h,AJ _ _,by rw[hr,Dt h,hd];rfl,?_⟩
 have h1:=dC (am dg) h
 have h2:=DW m (ag b.ae i)
 omega
theorem Y5:GG g55:=gde (vc:=v55) (hs:=[⟨3,[0,2,3,4,5,6,7],[],true⟩]) [Jd,G5] (by simp[MG,Ux]) Tryz.func55 (args2 fun a b hw hp=>by
 simp[g55,Df,cu] at hp
 show v55.wp Φ _ [a,b] _
 unfold v55
 rw[aJ]
 refine⟨by simp[Df,pW,sY,cu,br,cL];omega,?_⟩
 refine wp_loop' (KX a b) (fun v=>b.ae.length - (cell v 0).ZY.toNat) (by simpa[Df,pW,sY,cu,br,cL] using yj a b) ?_
 simp only[cA,cz]
 intro d0 d1 d2 d3 d4 d5 d6 d7 d8 d9 d10 d11
 refine bS fun _=> ?_
 rintro⟨i,m,hd,hi,hm,hr,hz⟩
 simp only[List.cons.injEq,and_true] at hd
 obtain⟨rfl,rfl,rfl,rfl,rfl,rfl,rfl,rfl,rfl,rfl,rfl,rfl⟩:=hd
 rcases lt_or_ge i b.ae.length with h|h
 · have h1:=dC (am dg) h
   have h2:=bO (am dg) (xs:=b.ae) (i:=i+1)
   have h3:am cO m<=268435456:=by omega
   have h4:am dg (ag b.ae i)<=1048576:=by omega
   have hr':=hr
   rw[Dt h] at hr'
   cases hd:(bw m (ag b.ae i)).2
   · rw[hd,cond_false] at hr'
     simp[g55,Df,pW,sY,cu,br,cL,RSh.cells,cj,hm,af,h,h3,h4,hd,hr']
   · have hw:=yA h hr hz hd
     have e:IntKind.i64.wrap ((i:Int)+1)=((i+1:Nat):Int):=by rw[w64 (by omega) (by omega)];simp
     simp[Df,pW,sY,cu,br,cL,cj,hm,af,h,h3,h4,hd,e]
     exact⟨hw,by omega⟩
 · have:i=b.ae.length:=by omega
   subst this
   rw[Ek] at hr
   simp[g55,Df,pW,sY,cu,br,cL,RSh.cells,cj,hm,hr])
theorem YG:GG g52:=gde (vc:=v52) (hs:=[⟨3,[0,2,3,4,5,6,7],[],true⟩]) [Jr,pE] (by simp[MO,RT]) Tryz.func52 (args2 fun a b hw hp=>by
 simp[g52,DM,cu] at hp
 show v52.wp Φ _ [a,b] _
 unfold v52
 rw[aJ]
 refine⟨by simp[DM,iB,iU,cu,br,cL];omega,?_⟩
 refine wp_loop' (KX a b) (fun v=>b.ae.length - (cell v 0).ZY.toNat) (by simpa[DM,iB,iU,cu,br,cL] using yj a b) ?_
 simp only[cA,cz]
 intro d0 d1 d2 d3 d4 d5 d6 d7 d8 d9 d10 d11
 refine bS fun _=> ?_
 rintro⟨i,m,hd,hi,hm,hr,hz⟩
 simp only[List.cons.injEq,and_true] at hd
 obtain⟨rfl,rfl,rfl,rfl,rfl,rfl,rfl,rfl,rfl,rfl,rfl,rfl⟩:=hd
 rcases lt_or_ge i b.ae.length with h|h
 · have h1:=dC (am dg) h
   have h2:=bO (am dg) (xs:=b.ae) (i:=i+1)
   have h3:am cO m<=268435456:=by omega
   have h4:am dg (ag b.ae i)<=1048576:=by omega
   have hr':=hr
   rw[Dt h] at hr'
   cases hd:(bw m (ag b.ae i)).2
   · rw[hd,cond_false] at hr'
     simp[g52,DM,iB,iU,cu,br,cL,RSh.cells,cj,hm,af,h,h3,h4,hd,hr']
   · have hw:=yA h hr hz hd
     have e:IntKind.i64.wrap ((i:Int)+1)=((i+1:Nat):Int):=by rw[w64 (by omega) (by omega)];simp
     simp[DM,iB,iU,cu,br,cL,cj,hm,af,h,h3,h4,hd,e]
     exact⟨hw,by omega⟩
 · have:i=b.ae.length:=by omega
   subst this
   rw[Ek] at hr
   simp[g52,DM,iB,iU,cu,br,cL,RSh.cells,cj,hm,hr])
theorem rG(l:List (List D)):(j7 l).length<=l.length:=by rw[j7,i0];exact nN _ _
theorem Er{l:List (List D)}{r:List D}(h:r∈j7 l):0<=(cell r 0).ZY∧(cell r 0).ZY<l.length:=xt ((uE _ _).mem_iff.1 h)
theorem C7{l:List (List D)}{n:Nat}{r:List D}(h:r∈fH l n):∃i:Nat,i<n∧r=[.int i]:=by
 obtain⟨i,hi,_,rfl⟩:=rV h
 exact⟨i,hi,rfl⟩
theorem RD:GG g72:=gde (vc:=v72) [] (by simp) Tryz.func72 (args1 fun a hw hp=>by
 simp[g72,A4,dI] at hp
 refine kG (Φ:=Φ) (N:=a.ae.length) rfl (fun _ _=>by simp) (by omega) (fun i x=>x.ae=stS (ltP a.ae) (fH a.ae i)) (by simp[chunk,stS,fH,ti]) (fun i x hi _ hx=> ?_) fun x _ hx p=>by
  simp[g72,RSh.cells,A4,dI,hx,j7]
 have hl:x.ae.length<=i:=by rw[hx,i0];exact nN _ _
 have hin:∀k,k<x.ae.length->∃j:Nat,j<i∧ag x.ae k=[.int j]:=fun k hk=>C7 ((uE _ _).mem_iff.1 (by rw[<-hx];exact iG hk))
 rw[aJ]
 refine⟨by simp[hi],?_⟩
 rw[aO]
 refine⟨fun h=> ?_,fun h=> ?_⟩
 · simp[af] at h
   rw[dO,dD]
   refine⟨x,by simp,?_⟩
   rw[hx,iI,if_neg (by rw[Bool.not_eq_true',decide_eq_false_iff_not];exact fun hn=>hn h)]
   simp
 · simp[af] at h
   refine IP (Φ:=Φ) (L:=x.ae) rfl (by omega) (ltP a.ae [.int i]) (by simp) (fun k hk=> ?_) (fun k hk=> ?_) fun q=> ?_
   · rcases Nat.eq_zero_or_pos k with h0|h0
     · subst h0;simp
     · obtain⟨j,hj,hr⟩:=hin (k - 1) (by omega)
       simp[Ea,hi]
       rw[w64 (by omega) (by omega),show(k:Int) - 1=((k - 1:Nat):Int) by omega,af,hr]
       simp
       omega
   · rcases Nat.eq_zero_or_pos k with h0|h0
     · subst h0;simp
     · obtain⟨j,hj,hr⟩:=hin (k - 1) (by omega)
       simp
       rw[w64 (by omega) (by omega),show(k:Int) - 1=((k - 1:Nat):Int) by omega,af,hr]
       simp[af,ltP,wn,hr]
       rw[Bool.eq_iff_iff,bW]
       simp
       exact fun _=>decide_eq_true_iff.symm
   · have hq:=ln (ltP a.ae [.int i]) x.ae x.ae.length
     generalize hm:posR (ltP a.ae [.int i]) x.ae x.ae.length=m at*
     simp
     rw[Nat.min_eq_left hq]
     refine⟨by simp[al];omega,?_⟩
     rw[cU (show(0:Nat)≠1 by decide),dD]
     refine⟨_,rfl,?_⟩
     rw[iI,if_pos (by rw[Bool.not_eq_true',decide_eq_false_iff_not];exact h),vC,<-hx,jY,hm]
     rw[take_of_length_le (l:=x.ae.drop m) (by simp)]
     simp[chunk])
theorem ZL:GG g57:=gde (vc:=v57) (hs:=[⟨3,[],[],true⟩]) [g75] (by simp[Wz]) Tryz.func57 (args1 fun a hw hp=>by
 simp[g57,No,nc] at hp
 have hO:Φ 75=dI:=rfl
 have hol:=rG a.ae
 unfold v57
 rw[aJ]
 refine⟨by simp[hO,dI,hp],?_⟩
 refine fC (Φ:=Φ) (N:=(j7 a.ae).length) rfl (fun _ _=>by simp[hO,dI]) (by omega) (fun i x=>x.ae=((j7 a.ae).take i).map fun r=>wP (atP a.ae r)) rfl (fun i x hi _ hx=> ?_) fun x _ hx p=>by
  rw[take_of_length_le (le_refl _)] at hx
  simp[g57,RSh.cells,No,nc,hx]
 have hl:x.ae.length=i:=by rw[hx,length_map,length_take];omega
 obtain⟨q1,q2⟩:=Er (iG hi)
 obtain⟨j,hj⟩:∃j:Nat,(cell (ag (j7 a.ae) i) 0).ZY=j:=⟨_,(Int.toNat_of_nonneg q1).symm⟩
 rw[hj] at q2
 simp[hO,dI,af,hi,hj,al,hl]
 refine⟨by omega,?_⟩
 rw[<-map_take,lG (fun r=>wP (atP a.ae r)) hi,<-hx]
 simp[chunk,wP,atP,hj])
theorem EH(p:List D->Nat)(l:List (List D)):aD (fun r=>p (atP l r)) (j7 l)<=aD p l:=by
 rw[j7,Gb (uE _ _)]
 have:∀n,n<=l.length->aD (fun r=>p (atP l r)) (fH l n)<=aD p (l.take n):=by
  intro n
  induction n with
  |zero=>intro _;simp[fH,ti,aD]
  |succ n ih=>
   intro hn
   have:=ih (by omega)
   rw[iI,bI,dC _ (by omega)]
   have e:aD (fun r=>p (atP l r)) [[.int n]]=p (ag l n):=by simp[aD,atP]
   split
   · rw[e];omega
   · simp only[aD];omega
 have:=this l.length (le_refl _)
 rwa[take_of_length_le (le_refl _)] at this
theorem Am(r:List D):(cell r 18).ae.length+aD (am dg) (cell r 18).ae<=am fG r:=by
 simp only[aw,aA,szD,bf,zero_add,reduceAdd]
 omega
theorem Zo:GG g56:=gde (vc:=v56) [IH,Jf] (by simp[IW,MF]) Tryz.func56 (args1 fun a hw hp=>by
 simp[g56,JX,pC] at hp
 have h:=KB a.row
 by_cases hC:jz a.row
 · have h2:=hC.2.2.1
   simp only[In] at h2
   obtain⟨n,hn⟩:∃n:Nat,(cell a.row 2).ZY=n:=⟨(cell a.row 2).ZY.toNat,by omega⟩
   simp[v56,g56,JX,mN,zR,pC,mB,br,RSh.cells,kT,au,hC,hn,wY,al]
   omega
 · simp[v56,g56,JX,mN,zR,pC,mB,br,RSh.cells,kT,au,hC])
theorem Yk:GG g53:=gde (vc:=v53) (hs:=[⟨5,[1,2,3,4,5,6,7,8,9,10,11,12,13,14,15,16,17,18,19,20,21,22,23,24,26,27],[1000000],false⟩]) [g85,JD] (by simp[O8,MU]) Tryz.func53 (args1 fun a hw hp=>by
 simp[g53,C5,pC] at hp
 have h:=KB a.row
 by_cases hC:jz a.row
 · have h2:=hC.2.2.1
   simp only[In] at h2
   obtain⟨n,hn⟩:∃n:Nat,(cell a.row 2).ZY=n:=⟨(cell a.row 2).ZY.toNat,by omega⟩
   unfold v53
   rw[aJ,aO]
   refine⟨by simp[C5,lC,sX,pC,mB,br],fun q=>by simp[C5,lC,sX,pC,mB,br,hC] at q,fun _=> ?_⟩
   rw[aJ]
   refine⟨by simp[C5,lC,sX,pC,mB,br];omega,?_⟩
   refine wp_loop' (fun v=>∃(i:Nat) (x:D),v=[.int i,.sl [],x,.sl [],.sl []]∧i<=n∧x.ae=replicate i [.sl [],.bool false]) (fun v=>n - (cell v 0).ZY.toNat) ⟨0,.sl [],by simp,by omega,rfl⟩ ?_
   simp only[cA,cz]
   intro d0 d1 d2 d3 d4
   refine bS fun _=> ?_
   rintro⟨i,x,hd,hi,hx⟩
   simp only[List.cons.injEq,and_true] at hd
   obtain⟨rfl,rfl,rfl,rfl,rfl⟩:=hd
   rcases lt_or_ge i n with q|q
   · have e:IntKind.i64.wrap ((i:Int)+1)=((i+1:Nat):Int):=by rw[w64 (by omega) (by omega)];simp
     simp[hn,q,hx,e,al,chunk]
     exact⟨by omega,⟨i+1,_,⟨by simp,rfl⟩,by omega,by rw[D.aQ,List.replicate_succ']⟩,by omega⟩
   · have:i=n:=by omega
     subst this
     simp[g53,C5,lC,sX,pC,mB,br,RSh.cells,kT,au,hC,hn,wY,hx]
 · simp[v53,g53,C5,lC,sX,pC,mB,br,RSh.cells,kT,au,hC])
theorem Zc:GG g54:=gde (vc:=v54) [g72,Kb] (by simp[RD,WV]) Tryz.func54 (args1 fun a hw hp=>by
 simp[g54,FN,m8] at hp
 have h0:=Am a.row
 have hol:=rG (cell a.row 18).ae
 unfold v54
 rw[aJ]
 refine⟨by simp[FN,A4,Ar,m8,dI,br];omega,?_⟩
 refine kG (Φ:=Φ) (N:=(j7 (cell a.row 18).ae).length) rfl (fun _ _=>by simp[FN,A4,Ar,m8,dI,br]) (by omega) (fun i x=>x.ae=((j7 (cell a.row 18).ae).take i).map fun r=>jw (atP (cell a.row 18).ae r)) (by simp[chunk]) (fun i x hi _ hx=> ?_) fun x _ hx p=>by
  rw[take_of_length_le (le_refl _)] at hx
  simp[g54,RSh.cells,FN,m8,hx]
 have hl:x.ae.length=i:=by rw[hx,length_map,length_take];omega
 obtain⟨q1,q2⟩:=Er (iG hi)
 obtain⟨j,hj⟩:∃j:Nat,(cell (ag (j7 (cell a.row 18).ae) i) 0).ZY=j:=⟨_,(Int.toNat_of_nonneg q1).symm⟩
 rw[hj] at q2
 have h1:=cb (p:=am dg) (show j<(cell a.row 18).ae.length by omega)
 simp[FN,A4,Ar,m8,dI,br,af,hi,hj,al,hl]
 refine⟨by omega,by omega,?_⟩
 rw[<-map_take,lG (fun r=>jw (atP (cell a.row 18).ae r)) hi,<-hx,atP,hj]
 rfl)
theorem Kq(l:List (List D)):als (als l)=als l:=by
 rw[lu,lu,List.map_map];rfl
theorem IK(x:List D)(l:List (List D))(i:Nat):aH aj x (ag (als l) i)=aH aj x (ag l i):=by
 rcases lt_or_ge i l.length with h|h
 · rw[jW h,um]
 · have e:∀l:List (List D),l.length<=i->ag l i=[]:=fun l h=>by simp[ag,h]
   rw[e _ (by simpa using h),e _ h]
theorem vt(l x:List (List D)):eqR (aH aj) (als l) x=eqR (aH aj) l x:=by
 rw[kl aj,Eg,kl aj]
theorem SM(m d:List D):opM m (jw d)=opM m d:=by
 have e2:bZ m (jw d)=bZ m d:=by
  show(bif tt (_∨aH aj (atL m d) (bn (aG d))=false) then _ else _)=_
  rw[um];rfl
 have e3:getM m (jw d)=getM m d:=by
  show(aL m,bif tt ((cell d 9).ZY=6) then tt (_∧(als (cell d 10).ae).length=0) else tt (_∧(als (cell d 10).ae).length=1∧aH aj _ (ag (als (cell d 10).ae) 0)=true))=_
  rw[fR,IK];rfl
 have e5:bJ m (jw d)=bJ m d:=by
  show(_,eqR (aH aj) (stS ltA (als (als (cell d 10).ae))) _)=_
  rw[Kq];rfl
 have e7:bP m (jw d)=bP m d:=by
  show(bif tt (_∨aH aj _ (bn (aG d))=false) then _ else _)=_
  rw[um];rfl
 have e8:aX m (jw d)=aX m d:=by
  show(bif tt _ then(_,tt (_∧(als (cell d 10).ae).length=0)) else bif tt (_∨_∨_∨eqR (aH aj) (als (cell d 10).ae) _=false) then _ else _)=_
  rw[fR,vt];rfl
 have e9:b8 m (jw d)=b8 m d:=by
  show(bif tt _ then _ else(_,bif tt _ then tt (_∧eqR (aH aj) (als (cell d 10).ae) _=true) else bif tt _ then tt (_∧(als (cell d 10).ae).length=0) else tt (_∧(als (cell d 10).ae).length=0)))=_
  rw[fR,vt];rfl
 show(bif tt _ then cg m d else bif tt _ then bZ m (jw d) else bif tt _ then getM m (jw d) else bif tt _ then(aL m,eqR (aH aj) (als (cell d 10).ae) _) else bif tt _ then bJ m (jw d) else bif tt _ then bP m (jw d) else bif tt _ then aX m (jw d) else bif tt _ then b8 m (jw d) else _)=_
 rw[e2,e3,e5,e7,e8,e9,vt];rfl
theorem Ho(m d:List D):bw m (jw d)=bw m d:=by
 have e:∀m,doM m (jw d)=doM m d:=fun m=>by
  show(bif tt (¬ai d∨(cell d 13).ZY= -1) then _ else opM m (jw d))=_
  rw[SM];rfl
 unfold bw
 rw[e]
theorem H1(m d:List D):bw m (wP d)=bw m d:=by
 have e:∀m,doM m (wP d)=doM m d:=fun m=>rfl
 unfold bw
 rw[e]
theorem run_map{f g:List D->List D}(h:∀m d,bw m (f d)=bw m (g d)):∀(l:List (List D))(m:List D)(k:Nat),runM m (l.map f) k=runM m (l.map g) k
 |[],_,_=>rfl
 |x::l,m,k=>by
  simp only[map_cons,runM,h,run_map h l]
theorem OY(d:List D):am dg (jw d)=am dg d:=by
 simp only[aw,aA,szD,bf,zero_add,reduceAdd,jw,aq,ay,D.aQ,fR,ve]
theorem Nv(d:List D):am dg (wP d)=am dg d:=by
 simp only[aw,aA,szD,bf,zero_add,reduceAdd,wP,aq,ay,D.aQ]
theorem sy{p:List D->Nat}{f:List D->List D}:∀l:List (List D),aD p (l.map f)=aD (fun r=>p (f r)) l
 |[]=>rfl
 |x::l=>by simp only[map_cons,aD,sy l]
theorem A0(c:List D):aL (kT c)=kT c:=by
 unfold kT
 cases tt (jz c)<;>rfl
theorem LG(c:List D):am cO (kT c)<=1048576:=by
 by_cases h:jz c
 · have e:kT c=[cell c 0,cell c 1,cell c 2,cell c 3,cell c 4,.sl (cell c 5).ae,.sl [],.sl (replicate (cell c 2).ZY.toNat [.sl [],.bool false]),.sl [],.sl [],.int 0]:=by unfold kT;simp only[au,h,if_true]
   have h2:=h.2.2.1
   have h5:=h.2.2.2.2.2
   simp only[In] at h2
   have hb:DE (kT c)<=18:=by
    have e5:DE (kT c)=(cell c 5).ae.length+aD (am [.str]) (cell c 5).ae:=by rw[e];rfl
    have hn:∀i,i<(cell c 5).ae.length->am [.str] (ag (cell c 5).ae i)<=8:=fun i hi=>by
     have:=(h5.1 i hi).1.2
     simpa[aw,aA,szD] using this
    have h3:=h5.2.1
    rw[e5]
    generalize (cell c 5).ae=l at*
    match l,h3,hn with
    |[],_,_=>simp[aD]
    |[x],_,hn=>have:=hn 0 (by simp);simp[aD] at*;omega
    |[x,y],_,hn=>have h0:=hn 0 (by simp);have h1:=hn 1 (by simp);simp[aD] at*;omega
   have hs:szL de (cell (kT c) 7).ae<=4:=by
    have e7:(cell (kT c) 7).ae=replicate (cell c 2).ZY.toNat [.sl [],.bool false]:=by rw[e];rfl
    rw[e7]
    have:(cell c 2).ZY.toNat=1∨(cell c 2).ZY.toNat=2:=by omega
    rcases this with q|q<;>rw[q]<;>decide
   have e6:(cell (kT c) 6).ae=[]:=by rw[e];rfl
   have e8:(cell (kT c) 8).ae=[]:=by rw[e];rfl
   have e9:(cell (kT c) 9).ae=[]:=by rw[e];rfl
   rw[rM,e6,e8,e9]
   simp only[szL,length_nil,aD] at*
   omega
 · have e:kT c=[.int 0,.int 0,.int 0,.int 0,.int 0,.sl [],.sl [],.sl [],.sl [],.sl [],.int 0]:=by unfold kT;simp only[au,h,if_false]
   rw[e];decide
theorem RQ(r:List D):am gZ r<=am fG r:=by
 simp only[aw,aA,szD,bf,zero_add,reduceAdd]
 omega
theorem ZJ:GG g12:=gde (vc:=v12) [g55,g56,g57] (by simp[Y5,Zo,ZL]) Tryz.func12 (args1 fun a hw hp=>by
 simp[g12,IL,pZ] at hp
 have h0:=Am a.row
 have h1:=LG a.row
 have h2:=rG (cell a.row 18).ae
 have h3:=EH (am dg) (cell a.row 18).ae
 have h4:=RQ a.row
 have e:runM (cT (kT a.row)) ((j7 (cell a.row 18).ae).map fun r=>wP (atP (cell a.row 18).ae r)) 0=wX a.row:=
  run_map (f:=fun r=>wP (atP (cell a.row 18).ae r)) (g:=fun r=>jw (atP (cell a.row 18).ae r)) (fun m d=>by rw[H1,Ho]) _ _ _
 simp[v12,g12,IL,Df,JX,No,pZ,cu,pC,nc,RSh.cells,cj,A0,e,sy,Nv,h1]
 omega)
theorem ZO:GG g11:=gde (vc:=v11) [g52,g53,g54] (by simp[YG,Yk,Zc]) Tryz.func11 (args1 fun a hw hp=>by
 simp[g11,HQ,pZ] at hp
 have h0:=Am a.row
 have h1:=LG a.row
 have h2:=rG (cell a.row 18).ae
 have h3:=EH (am dg) (cell a.row 18).ae
 have h4:=RQ a.row
 simp[v11,g11,HQ,DM,C5,FN,pZ,cu,pC,m8,RSh.cells,cj,A0,wX,sy,OY,h1,hp]
 omega)
theorem ZU:GG g18:=gd (vc:=v18) [g12,g40,g74,g75,g76] (by simp[ZJ,Yt,ZM,Wz,YL]) Tryz.func18 (args1 fun a hw hp=>by
 simp[g18,HV,mBw] at hp
 have h0:=Am a.row
 by_cases hW:iO a.row<;>by_cases hT:iH (cell a.row 18).ae
 · by_cases hN:(wX a.row).2=(j7 (cell a.row 18).ae).length
   · cases hA:jX a.row (wX a.row).1<;>simp[v18,g18,HV,IL,CV,Kw,Od,HF,mBw,pZ,mB,dI,eE,ji,hW,hT,hN,hA,hp]
     all_goals omega
   · simp[v18,g18,HV,IL,CV,Kw,Od,HF,mBw,pZ,mB,dI,eE,ji,hW,hT,hN,hp]
     omega
 all_goals simp[v18,g18,HV,IL,CV,Kw,Od,HF,mBw,pZ,mB,dI,eE,ji,hW,hT,hp])
theorem Zx:GG g17:=gd (vc:=v17) [g11,g28,g71,g72,g73] (by simp[ZO,ZN,Zz,RD,ZB]) Tryz.func17 (args1 fun a hw hp=>by
 simp[g17,Hz,mBw] at hp
 have h0:=Am a.row
 by_cases hW:iO a.row<;>by_cases hT:iH (cell a.row 18).ae
 · by_cases hN:(wX a.row).2=(j7 (cell a.row 18).ae).length
   · cases hA:jX a.row (wX a.row).1<;>simp[v17,g17,Hz,HQ,tY,Ky,A4,BU,mBw,pZ,mB,dI,eE,ji,hW,hT,hN,hA,hp]
     all_goals omega
   · simp[v17,g17,Hz,HQ,tY,Ky,A4,BU,mBw,pZ,mB,dI,eE,ji,hW,hT,hN,hp]
     omega
 all_goals simp[v17,g17,Hz,HQ,tY,Ky,A4,BU,mBw,pZ,mB,dI,eE,ji,hW,hT,hp])
theorem ok5:GG g5:=gd (vc:=v5) [g6,g8.x,g10,g17,g18] (by simp[ok6,cW.x ok8,Zb,Zx,ZU]) Tryz.func5 (args1 fun a hw hp=>by
 simp[v5,g5,Φ5,Φ6,
  Φ8,UD,Hz,HV,
  Ff,dY,dK,aN,mBw,cS,eS,kc fG]
 intro h1
 obtain⟨h2,h3⟩:=OA h1
 simp only[Zg,mkW]
 have e1:=Zl a.row
 omega)
end Go.Proofs.YtlkidecpmfhheaaGreat

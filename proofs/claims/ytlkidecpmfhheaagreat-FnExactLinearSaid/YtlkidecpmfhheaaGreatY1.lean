import Derived.Test.YtlkidecpmfhheaaGreatX3
import Derived.Test.YtlkidecpmfhheaaGreatX4
import Derived.Test.YtlkidecpmfhheaaGreatS7
set_option linter.all false
open Int (eq_ofNat_of_zero_le)
open List (map_cons map_nil length_append length_flatMap flatMap_cons)
open Nat (mod_lt mod_eq_of_lt le_refl)
open Bool (cond_eq_ite or_eq_true and_eq_true not_eq_true')
namespace Go.Proofs.YtlkidecpmfhheaaGreat
open Go.Vx
theorem gf(xs:List (List D)):Go.Vx.rowAt xs 0=ag xs 0:=rfl
theorem En:GG DJ:=gd (vc:=v232) [] (by simp) Tryz.func232 (args2 fun a b hw hp=>by
 simp[v232,DJ,tz,dB,partOf]
 refine⟨fun h=>by simp[h],fun h1 h2=>⟨by omega,?_⟩⟩
 rw[bM _ |>.mpr (by omega)];rfl)
theorem EB:GG Cj:=gd (vc:=WT) [] (by simp) Tryz.func301 (args2 fun a b hw hp=>by
 simp[WT,Cj,tA,dB,partOf]
 refine⟨fun h=>by simp[h],fun h1 h2=>⟨by omega,?_⟩⟩
 rw[bM _ |>.mpr (by omega)];rfl)
theorem VS:GG Ou:=gd (vc:=v236) [] (by simp) Tryz.func236 (mZ fun a b c hw hp=>by
 simp[v236,Ou,LS,jB,yQ]
 exact⟨fun h=>by rw[if_pos h],fun h=>by rw[if_neg h]⟩)
theorem Sj:GG Pm:=gd (vc:=Wj) [] (by simp) Tryz.func254 (mZ fun a b c hw hp=>by
 simp[Wj,Pm,Mk,jB,yQ]
 exact⟨fun h=>by rw[if_pos h],fun h=>by rw[if_neg h]⟩)
theorem LD:GG IN:=gd (vc:=Uu) [Ou] (by simp[VS]) Tryz.func169 (args2 fun a b hw hp=>by
 simp[Uu,IN,m9,LS,jC,jB])
theorem My:GG GM:=gd (vc:=TF) [Pm] (by simp[Sj]) Tryz.func186 (args2 fun a b hw hp=>by
 simp[TF,GM,n8,Mk,jC,jB])
theorem W2:GG Pw:=gd (vc:=VZ) [] (by simp) Tryz.func235 (args2 fun a b hw hp=>by
 simp[VZ,Pw,show Φ 235=mB _ from rfl,mB,Bef]
 rw[Bool.eq_iff_iff];simp)
theorem Wr:GG Nq:=gd (vc:=Tm) [] (by simp) Tryz.func253 (args2 fun a b hw hp=>by
 simp[Tm,Nq,show Φ 253=mB _ from rfl,mB,Bef]
 rw[Bool.eq_iff_iff];simp)
theorem TE:GG M4:=gd (vc:=Vb) [] (by simp) Tryz.func166 (args1 fun a hw hp=>by
 simp[Vb,M4,od,mB,iP]
 rw[Bool.eq_iff_iff];simp)
theorem Wn:GG NT:=gd (vc:=v183) [] (by simp) Tryz.func183 (args1 fun a hw hp=>by
 simp[v183,NT,BH,mB,iP]
 rw[Bool.eq_iff_iff];simp)
theorem S7:GG Nc:=gd (vc:=TD) [] (by simp) Tryz.func158 (args1 fun a hw hp=>by
 simp[TD,Nc,LM,kp,chunk]
 by_cases h1:a.ZY=1
 · simp[h1]
 · by_cases h3:a.ZY=3
   · simp[h3]
   · by_cases h7:a.ZY=7
     · simp[h7]
     · by_cases h8:a.ZY=8
       · simp[h8]
       · by_cases h9:a.ZY=9
         · simp[h9]
         · simp[h1,h3,h7,h8,h9])
theorem U4:GG KV:=gd (vc:=v160) [] (by simp) Tryz.func160 (args1 fun a hw hp=>by
 simp[KV,nA,gc,In] at hp
 obtain⟨n,hn⟩:=eq_ofNat_of_zero_le hp.1
 have h6:n=0∨n=1∨n=2∨n=3∨n=4∨n=5∨n=6:=by omega
 rcases h6 with rfl|rfl|rfl|rfl|rfl|rfl|rfl<;>simp[v160,KV,nA,gc,fm,chunk,hn,Go.Vx.rowAt])
theorem Rk:GG OP:=gd (vc:=v228) [sU] (by simp[wx]) Tryz.func228 (args1 fun a hw hp=>by
 simp[v228,OP,p9,fQ,mB,aN,gJ,aR,a7,bA,bE,bl,cD]
 rw[Bool.eq_iff_iff];simp[j0]
 intro _ _ _ h i hi;simp[h] at hi)
theorem Si:GG Og:=gd (vc:=v157) (hs:=[⟨2,[0],[],false⟩]) [] (by simp) Tryz.func157 (args2 fun a b hw hp=>by
 simp[Og] at hw
 show v157.wp Φ (fun l=>l=[.bool (tt (∃j,j<a.ae.length∧(cell (ag a.ae j) 0).ZY=b.ZY))]) [a,b] _
 refine j5 (s:=0) (N:=a.ae.length) (fun i=>(cell (ag a.ae i) 0).ZY=b.ZY) rfl (fun d=>by simp) (l7 hw.1.1) (by omega) (fun i _ hi _=> ?_) (fun i _ hi _ hp q=> ?_) fun h i q=> ?_
 · simp[af,hi]
 · simp only[mG,map_cons,map_nil,B1]
   rw[bW _ |>.mpr ⟨i,hi,hp⟩]
 · simp only[mG,map_cons,map_nil,B1]
   rw[bM _ |>.mpr fun⟨j,hj,hp⟩=>h j (by omega) hj hp])
theorem RP:GG Nb:=gd (vc:=Yn) (hs:=[⟨4,[0],[],false⟩]) [] (by simp) Tryz.func303 (args2 fun a b hw hp=>by
 simp[Nb] at hw
 exact oD (Φ:=Φ) (a:=a) (b:=b) (p:=aH [.int .i64]) (tests:=[]) (t:=.op (.bin .neq .i64) [.op (.fld 0) [mkE (.var 0) (.var 2)],.op (.fld 0) [mkE (.var 1) (.var 2)]]) hw.1.1
  (fun i h1 h2=>⟨trivial,by simp[af,aR,a7,bA,bE,bl]⟩) _)
theorem gS(xs:List (List D)){i:Nat}(h1:0<i):Go.Vx.rowAt xs ((i:Int) - 1)=ag xs (i - 1):=by
 rw[show((i:Int) - 1)=((i - 1:Nat):Int) by omega,Go.Vx.af]
theorem iJ{i:Nat}(h:i<=140737488355328):IntKind.i64.wrap ((i:Int) - 1)=(i:Int) - 1:=w64 (by omega) (by omega)
theorem UU:GG NU:=gd (vc:=Ry) (hs:=[⟨2,[0],[],false⟩]) [HB] (by simp[GT]) Tryz.func224 (args1 fun a hw hp=>by
 simp[NU,al] at hw
 show Ry.wp Φ (fun l=>l=[.bool (tt (Aa a.ae))]) [a] _
 refine cq (s:=1) (N:=a.ae.length) (fun i=>Op.bytesLess (cell (ag a.ae (i - 1)) 0).ao.toList (cell (ag a.ae i) 0).ao.toList=true) rfl (fun d=>by simp) (by omega) (by omega) (fun h i h1 h2=>h i h2 h1) (fun i h1 hi _=> ?_) fun h i q=> ?_
 · simp[show Φ 224=mB _ from rfl,D3,mB,yB,af,hi,gS a.ae (i:=i) (by omega),iJ (i:=i) (by omega)]
   omega
 · simp
   exact fun i hi h1=>h i h1 hi)
theorem Wl:GG MX:=gd (vc:=Uc) (hs:=[⟨2,[0],[],false⟩]) [] (by simp) Tryz.func240 (args1 fun a hw hp=>by
 simp[MX,al] at hw
 show Uc.wp Φ (fun l=>l=[.bool (tt (Aa a.ae))]) [a] _
 refine cq (s:=1) (N:=a.ae.length) (fun i=>Op.bytesLess (cell (ag a.ae (i - 1)) 0).ao.toList (cell (ag a.ae i) 0).ao.toList=true) rfl (fun d=>by simp) (by omega) (by omega) (fun h i h1 h2=>h i h2 h1) (fun i h1 hi _=> ?_) fun h i q=> ?_
 · simp[show Φ 240=mB _ from rfl,mB,af,hi,gS a.ae (i:=i) (by omega),iJ (i:=i) (by omega)]
   omega
 · simp
   exact fun i hi h1=>h i h1 hi)
theorem Rm:GG Oh:=gd (vc:=VH) (hs:=[⟨2,[0],[],false⟩]) [FT,NU] (by simp[MI,UU]) Tryz.func153 (args1 fun a hw hp=>by
 simp[Oh,al] at hw
 show VH.wp Φ (fun l=>l=[.bool (tt (ByP a.ae))]) [a] _
 refine cq (s:=0) (N:=a.ae.length) (fun i=>kM (cell (ag a.ae i) 0).ao) rfl (fun d=>by simp) (by omega) (by omega) (fun h i h1 h2=>h.1 i h2) (fun i h1 hi _=> ?_) fun h i q=> ?_
 · simp[show Φ 153=mB _ from rfl,AG,show Φ 224=mB _ from rfl,mB,af,hi]
 · simp[show Φ 153=mB _ from rfl,AG,show Φ 224=mB _ from rfl,mB,ByP]
   exact⟨fun h1=>⟨fun i hi=>h i (by omega) hi,by omega,h1.2⟩,fun h1=>⟨by omega,h1.2.2⟩⟩)
theorem Rw:GG MZ:=gd (vc:=v173) (hs:=[⟨2,[0],[],false⟩]) [CB,MX] (by simp[Mz,Wl]) Tryz.func173 (args1 fun a hw hp=>by
 simp[MZ,al] at hw
 show v173.wp Φ (fun l=>l=[.bool (tt (ByP a.ae))]) [a] _
 refine df (s:=0) (N:=a.ae.length) (fun i=>kM (cell (ag a.ae i) 0).ao) rfl (fun d=>by simp) (by omega) (by omega) (fun h i h1 h2=>h.1 i h2) (fun i h1 hi _=> ?_) fun h i q=> ?_
 · simp[show Φ 173=mB _ from rfl,xT,show Φ 240=mB _ from rfl,mB,af,hi]
 · simp[show Φ 173=mB _ from rfl,xT,show Φ 240=mB _ from rfl,mB,ByP]
   exact⟨fun h1=>⟨fun i hi=>h i (by omega) hi,by omega,h1.2⟩,fun h1=>⟨by omega,h1.2.2⟩⟩)
theorem O8:GG g85:=gd (vc:=v85) [g86,Oh] (by simp[wV,Rm]) Tryz.func85 (args1 fun a hw hp=>by
 simp[v85,g85,lC,gF,show Φ 153=mB _ from rfl,mB,jz,In]
 simp only[and_assoc])
theorem IW:GG IH:=gd (vc:=SP) [qN,MZ] (by simp[mV,Rw]) Tryz.func103 (args1 fun a hw hp=>by
 simp[SP,IH,mN,dX,show Φ 173=mB _ from rfl,mB,jz,In]
 simp only[and_assoc])
theorem GP(h:Nat)(b:UInt8):hstep h b<4294967296:=by unfold hstep;exact mod_lt _ (by decide)
theorem ur(l:List UInt8):∀h:Nat,h<4294967296->l.foldl hstep h<4294967296:=by
 induction l with
 |nil=>intro h hh;exact hh
 |cons b l ih=>intro h _;rw[List.foldl_cons];exact ih _ (GP h b)
theorem AT{α:Type}(f:Nat->α->Nat)(z:α){l:List α}{i:Nat}(hi:i<l.length)(h:Nat):(l.take (i+1)).foldl f h=f ((l.take i).foldl f h) (l[i]?.getD z):=by
 rw[List.take_add_one,List.getElem?_eq_getElem hi,List.foldl_append]
 simp only[Option.toList_some,List.foldl_cons,List.foldl_nil,Option.getD_some]
theorem xc{l:List UInt8}{i:Nat}(hi:i<l.length)(h:Nat):(l.take (i+1)).foldl hstep h=hstep ((l.take i).foldl hstep h) (l[i]?.getD 0):=AT hstep 0 hi h
theorem zX(l:List UInt8):vd l<4294967296:=ur l _ (by decide)
theorem DB{a b:Nat}(ha:a<4294967296)(hb:b<4294967296):a^^^b<4294967296:=Nat.xor_lt_two_pow (n:=32) ha hb
theorem Mr{a b:Nat}(ha:a<4294967296)(hb:b<4294967296):lV .xor .i64 (a:Int) (b:Int)= .int ((a^^^b:Nat):Int):=by
 have h:(BitVec.ofInt 64 (a:Int)^^^BitVec.ofInt 64 (b:Int)).toNat=a^^^b:=by
  simp[BitVec.toNat_xor,mod_eq_of_lt (show a<18446744073709551616 by omega),mod_eq_of_lt (show b<18446744073709551616 by omega)]
 have h2:=DB ha hb
 show D.int (IntKind.i64.wrap ((BitVec.ofInt 64 (a:Int)^^^BitVec.ofInt 64 (b:Int)).toNat:Int))=_
 rw[h,w64 (by omega) (by omega)]
theorem TS{a:Nat}(ha:a<9223372036854775808):lV .and .i64 (a:Int) 4294967295= .int ((a % 4294967296:Nat):Int):=by
 have h:(BitVec.ofInt 64 (a:Int)&&& BitVec.ofInt 64 4294967295).toNat=a % 4294967296:=by
  have e:BitVec.ofInt 64 4294967295=BitVec.ofNat 64 4294967295:=rfl
  rw[e,BitVec.toNat_and,BitVec.toNat_ofNat]
  simp[mod_eq_of_lt (show a<18446744073709551616 by omega)]
  exact Nat.and_two_pow_sub_one_eq_mod a 32
 have h2:a % 4294967296<4294967296:=mod_lt _ (by decide)
 show D.int (IntKind.i64.wrap ((BitVec.ofInt 64 (a:Int)&&& BitVec.ofInt 64 4294967295).toNat:Int))=_
 rw[h,w64 (by omega) (by omega)]
theorem wrap32{n:Nat}(h:n<4294967296):IntKind.u32.wrap (n:Int)=n:=by
 unfold IntKind.wrap
 simp[IntKind.signed,IntKind.bits]
 omega
theorem Lu(n:Nat):IntKind.u32.wrap (n:Int)=((n % 4294967296:Nat):Int):=by
 unfold IntKind.wrap
 simp[IntKind.signed,IntKind.bits]
theorem D5(b:UInt8):b.toNat<256:=b.toNat_lt
theorem Ro{a b:Nat}(ha:a<4294967296)(hb:b<4294967296):lV .xor .u32 (a:Int) (b:Int)= .int ((a^^^b:Nat):Int):=by
 have h:(BitVec.ofInt 32 (a:Int)^^^BitVec.ofInt 32 (b:Int)).toNat=a^^^b:=by
  simp[BitVec.toNat_xor,mod_eq_of_lt ha,mod_eq_of_lt hb]
 have h2:=DB ha hb
 show D.int (IntKind.u32.wrap ((BitVec.ofInt 32 (a:Int)^^^BitVec.ofInt 32 (b:Int)).toNat:Int))=_
 rw[h,wrap32 h2]
theorem SS:GG O2:=gd (vc:=TC) [] (by simp) Tryz.func298 (args1 fun a hw hp=>by
 simp[O2,al] at hw
 show TC.wp Φ (fun l=>l=[.int (vd (lby a.ao))]) [a] _
 refine fC (N:=a.ao.size) rfl (fun d d'=>by simp) (by omega) (fun i x=>x= .int (((lby a.ao).take i).foldl hstep 2166136261:Nat)) (by simp) (fun i x hi _ hx=> ?_) fun x _ hx p=> ?_
 · subst hx
   have h1:=xc (l:=lby a.ao) (i:=i) hi 2166136261
   have h2:=ur ((lby a.ao).take i) 2166136261 (by decide)
   have h3:(a.ao.toList[i]?.getD 0)=((lby a.ao)[i]?.getD 0):=by rw[ByteArray.toList_eq];rfl
   simp[hi]
   rw[h1,h3]
   generalize ((lby a.ao).take i).foldl hstep 2166136261=h at h2⊢
   generalize (lby a.ao)[i]?.getD 0=b
   have hb:=D5 b
   have hx:=DB h2 (show b.toNat<4294967296 by omega)
   rw[w64 (show(-9223372036854775808:Int)<=(b.toNat:Int) by omega) (by omega),Mr h2 (by omega),D.aI,show(((h^^^b.toNat:Nat):Int)*16777619)=(((h^^^b.toNat)*16777619:Nat):Int) by simp,w64 (by omega) (by omega),TS (by omega)]
   rfl
 · subst hx
   have e:(lby a.ao).take a.ao.size=lby a.ao:=List.take_of_length_le (le_refl _)
   simp[vd,e])
theorem Td:GG OI:=gd (vc:=U6) [] (by simp) Tryz.func328 (args1 fun a hw hp=>by
 simp[OI,al] at hw
 show U6.wp Φ (fun l=>l=[.int (vd (lby a.ao))]) [a] _
 refine fC (N:=a.ao.size) rfl (fun d d'=>by simp) (by omega) (fun i x=>x= .int (((lby a.ao).take i).foldl hstep 2166136261:Nat)) (by simp) (fun i x hi _ hx=> ?_) fun x _ hx p=> ?_
 · subst hx
   have h1:=xc (l:=lby a.ao) (i:=i) hi 2166136261
   have h2:=ur ((lby a.ao).take i) 2166136261 (by decide)
   have h3:(a.ao.toList[i]?.getD 0)=((lby a.ao)[i]?.getD 0):=by rw[ByteArray.toList_eq];rfl
   simp[hi]
   rw[h1,h3]
   generalize ((lby a.ao).take i).foldl hstep 2166136261=h at h2⊢
   generalize (lby a.ao)[i]?.getD 0=b
   have hb:=D5 b
   rw[wrap32 (show b.toNat<4294967296 by omega),Ro h2 (by omega),D.aI,show(((h^^^b.toNat:Nat):Int)*16777619)=(((h^^^b.toNat)*16777619:Nat):Int) by simp,Lu]
   simp only[hstep]
 · subst hx
   have e:(lby a.ao).take a.ao.size=lby a.ao:=List.take_of_length_le (le_refl _)
   have h2:=ur (lby a.ao) 2166136261 (by decide)
   simp[vd,e]
   exact w64 (by omega) (by omega))
theorem Ev{h:Nat}(hh:h<4294967296):lV .rem .i64 (lV .xor .i64 (h:Int) ((h:Int).fdiv (2^min 16 IntKind.i64.bits))).ZY 32= .int (GQ h:Nat):=by
 have e:(h:Int).fdiv (2^min 16 IntKind.i64.bits)=((h / 65536:Nat):Int):=by
  rw[show min 16 IntKind.i64.bits=16 from rfl,show((2:Int)^16)=((65536:Nat):Int) from rfl]
  exact(Int.ofNat_fdiv h 65536).symm
 have h2:h / 65536<4294967296:=Nat.lt_of_le_of_lt (Nat.div_le_self _ _) hh
 rw[e,Mr hh h2,D.aI]
 show D.int (((h^^^h / 65536:Nat):Int).tmod 32)=_
 unfold GQ
 rw[show(32:Int)=((32:Nat):Int) from rfl,<-Int.ofNat_tmod]
theorem Bp:GG Bn:=gd (vc:=v233) [O2,JO] (by simp[SS,Uv]) Tryz.func233 (args1 fun a hw hp=>by
 have h:=zX (lby (ew a.ae))
 have e:=Ev h
 simp[v233,Bn,mI,show Φ 298=FH from rfl,HJ,eZ,FH,oN,iY] at e⊢
 exact e)
theorem Bf:GG AA:=gd (vc:=RV) [OI,K7] (by simp[Td,Wi]) Tryz.func306 (args1 fun a hw hp=>by
 have h:=zX (lby (ew a.ae))
 have e:=Ev h
 simp[RV,AA,pf,show Φ 328=FH from rfl,IG,eZ,FH,oN,iY] at e⊢
 exact e)
theorem UC:GG Pj:=gd (vc:=TQ) [DJ,Bn] (by simp[En,Bp]) Tryz.func231 (args2 fun a b hw hp=>by
 simp[TQ,Pj,IU,tz,mI,oQ,dB,eZ])
theorem S8:GG NA:=gd (vc:=Ti) [Cj,AA] (by simp[EB,Bf]) Tryz.func305 (args2 fun a b hw hp=>by
 simp[Ti,NA,GO,tA,pf,oQ,dB,eZ])
theorem sw{f n:Int}(h:0<n):partOf f n<n:=by
 unfold partOf
 by_cases hc:n<1∨f<0
 · rw[bW _ |>.mpr hc];exact h
 · rw[bM _ |>.mpr hc]
   exact Int.tmod_lt_of_pos _ h
theorem x8(f n:Int):0<=partOf f n:=by
 unfold partOf
 by_cases hc:n<1∨f<0
 · rw[bW _ |>.mpr hc];simp
 · rw[bM _ |>.mpr hc]
   exact Int.tmod_nonneg _ (by omega)
theorem Ts:GG Nm:=gde (vc:=Sx) [DJ,Bn] (by simp[En,Bp]) Tryz.func165 (args2 fun a b hw hp=>by
 simp[Sx,Nm,nK,tz,mI,eN,dB,eZ,lw,E7]
 simp only[au,cond_eq_ite,or_eq_true,and_eq_true,not_eq_true',bW,bM];grind)
theorem SG:GG N0:=gde (vc:=Wm) [Cj,AA] (by simp[EB,Bf]) Tryz.func250 (mZ fun a b c hw hp=>by
 simp[Wm,N0,L8,tA,pf,ug,dB,eZ,y7,E7]
 simp only[au,cond_eq_ite,or_eq_true,and_eq_true,not_eq_true',bW,bM];grind)
theorem Tx:GG Oc:=gd (vc:=v182) [N0] (by simp[SG]) Tryz.func182 (args2 fun a b hw hp=>by
 simp[v182,Oc,Ah,L8,eN,ug,lw,y7]
 simp only[au,cond_eq_ite,or_eq_true,and_eq_true,not_eq_true',bW,bM];grind)
theorem Uq:GG Rb:=gd (vc:=SW) (hs:=[⟨2,[0],[],false⟩,⟨7,[0],[],false⟩]) [At,tP,Bn] (by simp[xR,pm,Bp]) Tryz.func294 (args1 fun a hw hp=>by
 show SW.wp Φ (fun l=>l=[.bool (tt (kC a.row))]) [a] _
 have hl:=el hw.1 1 rfl
 refine bT (Φ:=Φ) (N:=(cell a.row 1).ae.length) rfl (fun _=>by simp) hl (fun i=>∀j,j<i->(kV (ag (cell a.row 1).ae j)∧iY (cell (ag (cell a.row 1).ae j) 0).ae=(cell a.row 0).ZY)∧∀m,m<j->eqR (aH aC) (cell (ag (cell a.row 1).ae m) 0).ae (cell (ag (cell a.row 1).ae j) 0).ae=false) (by omega) (fun i hi hI=> ?_) (fun hI p=> ?_)
 · rw[aJ,aO]
   refine⟨by simp[vz,gK,dz,mI,mB,aF,eZ,af,hi],fun hc=> ?_,fun hc=> ?_⟩
   · have:¬kC a.row:=fun hp=>by
      have:=hp.2.1 i hi
      simp[vz,gK,dz,mI,mB,aF,eZ,af] at hc
      grind
     simp[bM _ |>.mpr this]
   · simp[vz,gK,dz,mI,mB,aF,eZ,af] at hc
     refine bT (Φ:=Φ) (N:=i) rfl (fun _=>by simp) (by omega) (fun m=>∀q,q<m->eqR (aH aC) (cell (ag (cell a.row 1).ae q) 0).ae (cell (ag (cell a.row 1).ae i) 0).ae=false) (by omega) (fun m hm hJ=> ?_) (fun hJ p=> ?_)
     · simp[vz,gK,dz,mI,mB,aF,eZ,af,hi,show m<(cell a.row 1).ae.length by omega]
       refine⟨fun h=>fun hp=> ?_,fun h=>ce hJ h⟩
       have:=hp.2.2 i hi m hm
       rw[h] at this;cases this
     · rw[dO,cU (by decide)]
       simp
       exact ce hI ⟨hc,hJ⟩
 · simp[kC]
   exact fun _=>⟨fun i hi=>(hI i hi).1,fun k hk m hm=>(hI k hk).2 m hm⟩)
theorem PU:GG Sz:=gd (vc:=Vg) (hs:=[⟨2,[0],[],false⟩]) [Co,AA,On] (by simp[zV,Bf,V4]) Tryz.func300 (args1 fun a hw hp=>by
 show Vg.wp Φ (fun l=>l=[.bool (tt (kC a.row))]) [a] _
 have hl:=el hw.1 1 rfl
 refine df (s:=0) (N:=(cell a.row 1).ae.length) (fun j=>kV (ag (cell a.row 1).ae j)∧iY (cell (ag (cell a.row 1).ae j) 0).ae=(cell a.row 0).ZY) rfl (fun d=>by simp) hl (by omega) (fun h i h1 h2=>h.2.1 i h2) (fun i h1 hi _=> ?_) fun h i q=> ?_
 · simp[Bv,jy,pf,LY,mB,eZ,zn,af,hi]
   grind
 · simp[Bv,jy,pf,LY,mB,eZ,zn,kC]
   exact fun _ _ i hi=>h i (by omega) hi)
def lH(p:List D)(i n:Int)(k:Nat):Prop:=kC (ag (cell p 2).ae k)∧partOf (cell (ag (cell p 2).ae k) 0).ZY n=i∧(0<k->(cell (ag (cell p 2).ae (k - 1)) 0).ZY<(cell (ag (cell p 2).ae k) 0).ZY)
theorem W9:GG Ri:=gd (vc:=Ua) (hs:=[⟨2,[0],[],false⟩]) [g86,DJ,Rb] (by simp[wV,En,Uq]) Tryz.func225 (mZ fun a b c hw hp=>by
 show Ua.wp Φ (fun l=>l=[.bool (tt (nL a.row b.ZY c.ZY))]) [a,b,c] _
 have hl:=el hw.1 2 rfl
 refine cq (s:=0) (N:=(cell a.row 2).ae.length) (lH a.row b.ZY c.ZY) rfl (fun d=>by simp) hl (by omega) (fun h i h1 h2=>h.1 i h2) (fun i h1 hi _=> ?_) fun h i q=> ?_
 · by_cases h0:0<i
   · simp[AK,gF,tz,vz,mB,dB,af,hi,gS _ h0,iJ (i:=i) (by omega),h0,lH]
     grind
   · have:i=0:=by omega
     subst this
     simp[AK,gF,tz,vz,mB,dB,gf,hi,lH]
     grind
 · simp[AK,gF,tz,vz,mB,dB,nL,In]
   have h':∀k,k<(cell a.row 2).ae.length->lH a.row b.ZY c.ZY k:=fun k hk=>h k (by omega) hk
   simp only[lH] at h'
   grind)
theorem VY:GG RW:=gd (vc:=SB) (hs:=[⟨2,[0],[],false⟩]) [qN,Sz,Cj] (by simp[mV,PU,EB]) Tryz.func241 (mZ fun a b c hw hp=>by
 show SB.wp Φ (fun l=>l=[.bool (tt (nL a.row b.ZY c.ZY))]) [a,b,c] _
 have hl:=el hw.1 2 rfl
 refine df (s:=0) (N:=(cell a.row 2).ae.length) (lH a.row b.ZY c.ZY) rfl (fun d=>by simp) hl (by omega) (fun h i h1 h2=>h.1 i h2) (fun i h1 hi _=> ?_) fun h i q=> ?_
 · by_cases h0:0<i
   · simp[u7,dX,Bv,tA,mB,dB,af,hi,gS _ h0,iJ (i:=i) (by omega),h0,lH]
     grind
   · have:i=0:=by omega
     subst this
     simp[u7,dX,Bv,tA,mB,dB,gf,hi,lH]
     grind
 · simp[u7,dX,Bv,tA,mB,dB,nL,In]
   have h':∀k,k<(cell a.row 2).ae.length->lH a.row b.ZY c.ZY k:=fun k hk=>h k (by omega) hk
   simp only[lH] at h'
   grind)
theorem Wg:GG Nf:=gd (vc:=v154) (hs:=[⟨2,[0],[],false⟩]) [g86,Ri] (by simp[wV,W9]) Tryz.func154 (args1 fun a hw hp=>by
 simp[Nf,al] at hw
 show v154.wp Φ (fun l=>l=[.bool (tt (je a.ae))]) [a] _
 refine cq (s:=0) (N:=a.ae.length) (fun i=>nL (ag a.ae i) i a.ae.length) rfl (fun d=>by simp) (by omega) (by omega) (fun h i h1 h2=>h.2 i h2) (fun i h1 hi _=> ?_) fun h i q=> ?_
 · simp[pc,gF,AK,mB,af,hi]
 · simp[pc,gF,AK,mB,je,In]
   grind)
theorem RN:GG MW:=gd (vc:=OL) (hs:=[⟨4,[0],[],false⟩]) [qN,RW] (by simp[mV,VY]) Tryz.func174 (args1 fun a hw hp=>by
 simp[MW,al] at hw
 show OL.wp Φ (fun l=>l=[.bool (tt (je a.ae))]) [a] _
 unfold OL
 rw[aJ,aO]
 refine⟨by simp[nM,dX,u7,mB],fun hc=> ?_,fun hc=> ?_⟩
 · simp[nM,dX,u7,mB] at hc
   have:¬je a.ae:=fun h=>by have:=h.1;simp only[In] at this;omega
   simp[bM _ |>.mpr this]
 · simp[nM,dX,u7,mB] at hc
   refine df (s:=0) (N:=a.ae.length) (fun i=>nL (ag a.ae i) i a.ae.length) rfl (fun d=>by simp) (by omega) (by omega) (fun h i h1 h2=>h.2 i h2) (fun i h1 hi _=> ?_) fun h i q=> ?_
   · simp[nM,dX,u7,mB,af,hi]
   · simp[je,In]
     grind)
theorem D6:GG CR:=gd (vc:=Tl) [At] (by simp[xR]) Tryz.func155 (args2 fun a b hw hp=>by
 simp[Tl,CR,dF,gK,mB,iS,bY])
theorem EV:GG D0:=gd (vc:=Vv) [Co] (by simp[zV]) Tryz.func176 (args2 fun a b hw hp=>by
 simp[Vv,D0,eB,jy,mB,iS,bY])
theorem NG:GG g88:=gd (vc:=v88) (hs:=[⟨2,[0],[],false⟩]) [At] (by simp[xR]) Tryz.func88 (args1 fun a hw hp=>by
 simp[g88,al] at hw
 show v88.wp Φ (fun l=>l=[.bool (tt (kS a.ae))]) [a] _
 refine cq (s:=0) (N:=a.ae.length) (fun i=>kV (ag a.ae i)) rfl (fun d=>by simp) (by omega) (by omega) (fun h i h1 h2=>h i h2) (fun i h1 hi _=> ?_) fun h i q=> ?_
 · simp[j8,gK,mB,af,hi]
 · simp
   exact fun i hi=>h i (by omega) hi)
theorem Ej:GG FR:=gd (vc:=v107) (hs:=[⟨2,[0],[],false⟩]) [Co] (by simp[zV]) Tryz.func107 (args1 fun a hw hp=>by
 simp[FR,al] at hw
 show v107.wp Φ (fun l=>l=[.bool (tt (kS a.ae))]) [a] _
 refine df (s:=0) (N:=a.ae.length) (fun i=>kV (ag a.ae i)) rfl (fun d=>by simp) (by omega) (by omega) (fun h i h1 h2=>h i h2) (fun i h1 hi _=> ?_) fun h i q=> ?_
 · simp[mK,jy,mB,af,hi]
 · simp
   exact fun i hi=>h i (by omega) hi)
theorem Vo:GG g89:=gd (vc:=v89) (hs:=[⟨2,[0],[],false⟩]) [At] (by simp[xR]) Tryz.func89 (args1 fun a hw hp=>by
 show v89.wp Φ (fun l=>l=[.bool (tt (tW a.row))]) [a] _
 have hl:=el hw.1 0 rfl
 refine cq (s:=0) (N:=(cell a.row 0).ae.length) (fun i=>kV (ag (cell a.row 0).ae i)) rfl (fun d=>by simp) hl (by omega) (fun h i h1 h2=>h.2.2 i h2) (fun i h1 hi _=> ?_) fun h i q=> ?_
 · simp[oK,gK,mB,af,hi]
 · have h':kS (cell a.row 0).ae:=fun k hk=>h k (by omega) hk
   cases hb:(cell a.row 1).ZZ<;>simp[tW,hb,h']
   all_goals grind)
theorem RF:GG OD:=gd (vc:=U1) [FR] (by simp[Ej]) Tryz.func177 (args1 fun a hw hp=>by
 cases hb:(cell a.row 1).ZZ<;>simp[U1,OD,show Φ 177=mB _ from rfl,mK,mB,tW,hb,bY]
 · grind
 · have e:(cell a.row 0).ae.length=0->kS (cell a.row 0).ae:=fun h i hi=>by omega
   grind)
theorem Md:GG JS:=gd (vc:=Uf) (hs:=[⟨2,[0],[],false⟩]) [OD] (by simp[RF]) Tryz.func106 (args2 fun a b hw hp=>by
 simp[JS,al] at hw
 show Uf.wp Φ (fun l=>l=[.bool (tt (tD a.ae (cell b.row 2).ZY))]) [a,b] _
 refine df (s:=0) (N:=a.ae.length) (fun i=>tW (ag a.ae i)) rfl (fun d=>by simp) (by omega) (by omega) (fun h i h1 h2=>h.1 i h2) (fun i h1 hi _=> ?_) fun h i q=> ?_
 · simp[pe,show Φ 177=mB _ from rfl,mB,af,hi]
 · simp[tD]
   exact fun _ i hi=>h i (by omega) hi)
theorem Vy:GG Ox:=gd (vc:=T8) [qN] (by simp[mV]) Tryz.func244 (args2 fun a b hw hp=>by
 simp[T8,Ox,show Φ 244=mB _ from rfl,dX,mB,AS,In,bY]
 grind)
theorem Mu:GG IV:=gd (vc:=UG) [qN,Ox] (by simp[mV,Vy]) Tryz.func179 (args1 fun a hw hp=>by
 simp[UG,IV,iR,dX,show Φ 244=mB _ from rfl,mB,ai,In,bY]
 grind)
theorem ZT{xs:List (List D)}{c:Int}:(∃j,j<xs.length∧(cell (ag xs j) 0).ZY=c)↔∃r,r∈xs∧(cell r 0).ZY=c:=by
 constructor
 · rintro⟨j,hj,h⟩;exact⟨_,iG hj,h⟩
 · rintro⟨r,hr,h⟩
   obtain⟨j,hj,e⟩:=List.getElem_of_mem hr
   exact⟨j,hj,by rw[fu hj,e];exact h⟩
theorem Fh{op c:Int}:(∃j,j<(kp 0 [.int op]).ae.length∧(cell (ag (kp 0 [.int op]).ae j) 0).ZY=c)↔AS op c:=by
 rw[ZT]
 simp only[kp,dM,aq,D.aI,D.aQ,AS,In]
 by_cases h1:op=1
 · simp[h1];omega
 by_cases h3:op=3
 · simp[h3];omega
 by_cases h7:op=7
 · simp[h7];omega
 by_cases h8:op=8
 · simp[h8];omega
 by_cases h9:op=9
 · simp[h9];omega
 simp[h1,h3,h7,h8,h9];omega
theorem Cl{d:D}:kp 0 [d]=kp 0 [.int d.ZY]:=by simp[kp]
theorem WQ:GG g90:=gd (vc:=v90) [g86,Og,Nc] (by simp[wV,Si,S7]) Tryz.func90 (args1 fun a hw hp=>by
 have e:=Fh (op:=(cell a.row 0).ZY) (c:=(cell a.row 9).ZY)
 have e2:= @Cl (cell a.row 0)
 simp[v90,g90,lD,show Φ 157=IY from rfl,LM,gF,mB,IY,ai,In,bY,e2,e]
 have e3:(kp 1000 [cell a.row 0]).ZZ=true:=by simp[kp]
 grind)
theorem RH:GG Ss:=gd (vc:=Re) (hs:=[⟨2,[0],[],false⟩]) [] (by simp) Tryz.func326 (args2 fun a b hw hp=>by
 show Re.wp Φ (fun l=>l=[.int (dQ a.row b.ZY)]) [a,b] _
 have hl:=el hw.1 2 rfl
 refine j5 (s:=0) (N:=(cell a.row 2).ae.length) (fun i=>(cell (ag (cell a.row 2).ae i) 0).ZY=b.ZY) rfl (fun d=>by simp) hl (by omega) (fun i _ hi _=> ?_) (fun i _ hi hj hp q=> ?_) fun h i q=> ?_
 · simp[af,hi]
 · simp[dQ,iK (p:=fun c=>(cell c 0).ZY=b.ZY) hi hj hp]
 · simp[dQ,f7 (p:=fun c=>(cell c 0).ZY=b.ZY) h])
theorem P8:GG U7:=gd (vc:=P4) (hs:=[⟨2,[0],[],false⟩]) [] (by simp) Tryz.func296 (args2 fun a b hw hp=>by
 show P4.wp Φ (fun l=>l=[.int (dQ a.row b.ZY)]) [a,b] _
 have hl:=el hw.1 2 rfl
 refine j5 (s:=0) (N:=(cell a.row 2).ae.length) (fun i=>(cell (ag (cell a.row 2).ae i) 0).ZY=b.ZY) rfl (fun d=>by simp) hl (by omega) (fun i _ hi _=> ?_) (fun i _ hi hj hp q=> ?_) fun h i q=> ?_
 · simp[af,hi]
 · simp[dQ,iK (p:=fun c=>(cell c 0).ZY=b.ZY) hi hj hp]
 · simp[dQ,f7 (p:=fun c=>(cell c 0).ZY=b.ZY) h])
theorem WO:GG Vf:=gd (vc:=UF) (hs:=[⟨2,[0],[],false⟩]) [tP] (by simp[pm]) Tryz.func297 (args2 fun a b hw hp=>by
 show UF.wp Φ (fun l=>l=[.int (qn (cell a.row 1).ae b.ae)]) [a,b] _
 have hl:=el hw.1 1 rfl
 refine j5 (s:=0) (N:=(cell a.row 1).ae.length) (fun i=>eqR (aH aC) (cell (ag (cell a.row 1).ae i) 0).ae b.ae=true) rfl (fun d=>by simp) hl (by omega) (fun i _ hi _=> ?_) (fun i _ hi hj hp q=> ?_) fun h i q=> ?_
 · simp[af,hi,EF,dz,mW,aF]
 · simp[qn,iK (p:=fun c=>eqR (aH aC) (cell c 0).ae b.ae=true) hi hj hp]
 · simp[qn,f7 (p:=fun c=>eqR (aH aC) (cell c 0).ae b.ae=true) h])
theorem Rl:GG Ni:=gd (vc:=W5) [FJ] (by simp[EK]) Tryz.func327 (args2 fun a b hw hp=>by
 simp[W5,Ni,Ep,Bz,mW,bu,qn])
theorem Hq:GG Ga:=gd (vc:=Uy) (hs:=[⟨2,[0],[],false⟩]) [zH] (by simp[uL]) Tryz.func252 (args2 fun a b hw hp=>by
 simp[Ga,al] at hw
 show Uy.wp Φ (fun l=>l=[.int (eR (fun g=>eqR (aH aC) (cell g 1).ae b.ae=true) a.ae 0)]) [a,b] _
 refine Bt (s:=0) (N:=a.ae.length) (fun i=>eqR (aH aC) (cell (ag a.ae i) 1).ae b.ae=true) rfl (fun d=>by simp) (by omega) (by omega) (fun i _ hi _=> ?_) (fun i _ hi hj hp q=> ?_) fun h i q=> ?_
 · simp[af,hi,qk,kJ,cJ,aF]
 · simp[iK (p:=fun c=>eqR (aH aC) (cell c 1).ae b.ae=true) hi hj hp]
 · simp[f7 (p:=fun c=>eqR (aH aC) (cell c 1).ae b.ae=true) h])
theorem vM(p:List D)(f:Int)(h:¬dQ p f<0):0<=dQ p f∧dQ p f<(cell p 2).ae.length:=by
 unfold dQ at h⊢
 rcases aZ (fun c=>(cell c 0).ZY=f) (cell p 2).ae with ⟨e,_⟩|⟨i,hi,e,_⟩<;>rw[e] at h⊢<;>omega
theorem Eb(l s:List (List D))(h:¬qn l s<0):(0<=qn l s∧qn l s<l.length)∧(cell (ag l (qn l s).toNat) 0).ae.length=s.length:=by
 unfold qn at h⊢
 rcases aZ (fun r=>eqR (aH aC) (cell r 0).ae s=true) l with ⟨e,_⟩|⟨i,hi,e,hp,_⟩<;>rw[e] at h⊢
 · omega
 · exact⟨by omega,(j0.1 hp).1⟩
theorem PV:GG FV:=gd (vc:=Ly) [oH,Bn,U7,Vf] (by simp[mX,Bp,P8,WO]) Tryz.func230 (args2 fun a b hw hp=>by
 simp[FV,yn,eK] at hp
 by_cases h1:dQ a.row (iY b.ae)<0
 · simp[Ly,FV,yn,eh,mI,Iv,EF,eK,bN,eZ,gG,mW,mr,h1]
 · have h2:=vM _ _ h1
   by_cases h3:qn (cell (ag (cell a.row 2).ae (dQ a.row (iY b.ae)).toNat) 1).ae b.ae<0
   · simp[Ly,FV,yn,eh,mI,Iv,EF,eK,bN,eZ,gG,mW,mr,h1,h2,h3,Go.Vx.rowAt]
   · obtain⟨h4,h5⟩:=Eb _ _ h3
     simp[Ly,FV,yn,eh,mI,Iv,EF,eK,bN,eZ,gG,mW,mr,h1,h2,h3,h4,Go.Vx.rowAt,bn]
     omega)
theorem Tq:GG Gr:=gd (vc:=Kd) [pB,AA,Ss,Ni] (by simp[ny,Bf,RH,Rl]) Tryz.func304 (args2 fun a b hw hp=>by
 simp[Gr,xl,eK] at hp
 by_cases h1:dQ a.row (iY b.ae)<0
 · simp[Kd,Gr,xl,gp,pf,Js,Ep,eK,bN,eZ,gG,mW,mr,h1]
 · have h2:=vM _ _ h1
   by_cases h3:qn (cell (ag (cell a.row 2).ae (dQ a.row (iY b.ae)).toNat) 1).ae b.ae<0
   · simp[Kd,Gr,xl,gp,pf,Js,Ep,eK,bN,eZ,gG,mW,mr,h1,h2,h3,Go.Vx.rowAt]
   · obtain⟨h4,h5⟩:=Eb _ _ h3
     simp[Kd,Gr,xl,gp,pf,Js,Ep,eK,bN,eZ,gG,mW,mr,h1,h2,h3,h4,Go.Vx.rowAt,bn]
     omega)
theorem U9:GG HT:=gd (vc:=OB) [FV,Pj] (by simp[PV,UC]) Tryz.func161 (args2 fun a b hw hp=>by
 simp[HT,mS,dJ] at hp
 by_cases h1:a.ae=[]
 · simp[OB,HT,mS,yn,IU,dJ,eK,oQ,tC,h1]
 · have h0:a.ae.length≠0:=by simpa using h1
   have h2:=sw (f:=iY b.ae) (n:=a.ae.length) (by omega)
   have h3:=x8 (iY b.ae) a.ae.length
   simp[OB,HT,mS,yn,IU,dJ,eK,oQ,tC,h1,h2,h3,Go.Vx.rowAt,hp])
theorem VO:GG Hr:=gd (vc:=Po) [Gr,NA] (by simp[Tq,S8]) Tryz.func247 (args2 fun a b hw hp=>by
 simp[Hr,qS,dJ] at hp
 by_cases h1:a.ae=[]
 · simp[Po,Hr,qS,xl,GO,dJ,eK,oQ,tC,h1]
 · have h0:a.ae.length≠0:=by simpa using h1
   have h2:=sw (f:=iY b.ae) (n:=a.ae.length) (by omega)
   have h3:=x8 (iY b.ae) a.ae.length
   simp[Po,Hr,qS,xl,GO,dJ,eK,oQ,tC,h1,h2,h3,Go.Vx.rowAt,hp])
theorem VP:GG Pg:=gd (vc:=V0) [pO,u0,zH,Nb] (by simp[qm,xm,uL,RP]) Tryz.func245 (args2 fun a b hw hp=>by
 simp[V0,Pg,ru,fa,iT,kJ,show Φ 303=aF [.int .i64] from rfl,aN,aF,aR,a7,bA,bE,bl,cD]
 rw[Bool.eq_iff_iff]
 simp[and_assoc])
def seenAt(t:List D)(i:Nat):Prop:=0<=(cell (ag (cell t 8).ae i) 0).ZY
theorem Up:GG Sg:=gd (vc:=v229) (hs:=[⟨2,[0],[],false⟩]) [g86] (by simp[wV]) Tryz.func229 (args1 fun a hw hp=>by
 show v229.wp Φ (fun l=>l=[.bool (tt (uY a.row))]) [a] _
 have hl:=el hw.1 8 rfl
 refine cq (s:=0) (N:=(cell a.row 8).ae.length) (seenAt a.row) rfl (fun d=>by simp) hl (by omega) (fun h i h1 h2=>h.1 i h2) (fun i h1 hi _=> ?_) fun h i q=> ?_
 · simp[af,hi,seenAt]
 · have h':∀i,i<(cell a.row 8).ae.length->0<=(cell (ag (cell a.row 8).ae i) 0).ZY:=fun i hi=>h i (by omega) hi
   simp[qg,gF,mB,uY,In,bY]
   grind)
theorem TH:GG T5:=gd (vc:=P5) (hs:=[⟨2,[0],[],false⟩]) [qN,FR] (by simp[mV,Ej]) Tryz.func246 (args1 fun a hw hp=>by
 show P5.wp Φ (fun l=>l=[.bool (tt (Aj a.row))]) [a] _
 have hl:=el hw.1 8 rfl
 refine cq (s:=0) (N:=(cell a.row 8).ae.length) (seenAt a.row) rfl (fun d=>by simp) hl (by omega) (fun h i h1 h2=>h.1 i h2) (fun i h1 hi _=> ?_) fun h i q=> ?_
 · simp[af,hi,seenAt]
 · have h':∀i,i<(cell a.row 8).ae.length->0<=(cell (ag (cell a.row 8).ae i) 0).ZY:=fun i hi=>h i (by omega) hi
   simp[qO,dX,mK,mB,Aj,In,bY]
   grind)
theorem Wa:GG tZ:=gd (vc:=v159) [g86,g88,At,B6,OP,Sg] (by simp[wV,NG,xR,ED,Rk,Up]) Tryz.func159 (args2 fun a b hw hp=>by
 rw[show(fun l=>l=dG (fun c=>Φ tZ.f c [a,b]) 0 tZ.ax)=fun l=>l=[.bool (tt (cV a.row b.ZY))] from rfl]
 by_cases h0:(cell a.row 0).ZY=0
 · simp[v159,tZ,jv,gF,j8,gK,il,p9,qg,mB,cV,In,bY,gB,aG,h0]
   grind
 by_cases h1:(cell a.row 0).ZY=1
 · simp[v159,tZ,jv,gF,j8,gK,il,p9,qg,mB,cV,In,bY,gB,aG,h1]
   grind
 by_cases h2:(cell a.row 0).ZY=2
 · simp[v159,tZ,jv,gF,j8,gK,il,p9,qg,mB,cV,In,bY,gB,aG,h2]
   grind
 by_cases h3:(cell a.row 0).ZY=3
 · simp[v159,tZ,jv,gF,j8,gK,il,p9,qg,mB,cV,In,bY,gB,aG,h3]
   grind
 by_cases h4:(cell a.row 0).ZY=4
 · simp[v159,tZ,jv,gF,j8,gK,il,p9,qg,mB,cV,In,bY,gB,aG,h4]
   grind
 by_cases h5:(cell a.row 0).ZY=5
 · simp[v159,tZ,jv,gF,j8,gK,il,p9,qg,mB,cV,In,bY,gB,aG,h5]
   grind
 by_cases h6:(cell a.row 0).ZY=6
 · simp[v159,tZ,jv,gF,j8,gK,il,p9,qg,mB,cV,In,bY,gB,aG,h6]
   grind
 · simp[v159,tZ,jv,gF,j8,gK,il,p9,qg,mB,cV,In,bY,gB,aG,h0,h1,h2,h3,h4,h5,h6]
   grind)
theorem kH{p:List D->List D->Bool}{xs:List (List D)}:(eqR p xs []=true)↔xs=[]:=by cases xs<;>simp[eqR]
theorem iL(xs:List (List D)):eqR (aH aC) xs xs=true:=n6 (fun x=>kc _ x) xs
theorem kB(xs:List (List D)):eqR (aH [.int .i64]) xs xs=true:=n6 (fun x=>kc _ x) xs
theorem kL(xs:List (List D)):eqR (aH aj) xs xs=true:=n6 (fun x=>kc _ x) xs
theorem Lv{xs:List (List D)}(h:xs=[]):kS xs:=fun i hi=>by subst h;simp at hi
theorem Vd:GG tO:=gd (vc:=y9) [qN,Co,A3,Pg,T5] (by simp[mV,zV,EY,VP,TH]) Tryz.func180 (args2 fun a b hw hp=>by
 rw[show(fun l=>l=dG (fun c=>Φ tO.f c [a,b]) 0 tO.ax)=fun l=>l=[.bool (tt (cV a.row b.ZY))] from rfl]
 have hA:(cell a.row 9).ae=[]->kS (cell a.row 9).ae:=Lv
 by_cases h0:(cell a.row 0).ZY=0
 · simp[y9,tO,k8,dX,jy,kv,ru,qO,mB,aN,cV,In,bY,gB,aG,gJ,aR,a7,bA,bE,bl,cD,kH,iL,kB,kL,h0]
   grind
 by_cases h1:(cell a.row 0).ZY=1
 · simp[y9,tO,k8,dX,jy,kv,ru,qO,mB,aN,cV,In,bY,gB,aG,gJ,aR,a7,bA,bE,bl,cD,kH,iL,kB,kL,h1]
   grind
 by_cases h2:(cell a.row 0).ZY=2
 · simp[y9,tO,k8,dX,jy,kv,ru,qO,mB,aN,cV,In,bY,gB,aG,gJ,aR,a7,bA,bE,bl,cD,kH,iL,kB,kL,h2]
   grind
 by_cases h3:(cell a.row 0).ZY=3
 · simp[y9,tO,k8,dX,jy,kv,ru,qO,mB,aN,cV,In,bY,gB,aG,gJ,aR,a7,bA,bE,bl,cD,kH,iL,kB,kL,Aj,uY,h3]
   grind
 by_cases h4:(cell a.row 0).ZY=4
 · simp[y9,tO,k8,dX,jy,kv,ru,qO,mB,aN,cV,In,bY,gB,aG,gJ,aR,a7,bA,bE,bl,cD,kH,iL,kB,kL,h4]
   grind
 by_cases h5:(cell a.row 0).ZY=5
 · simp[y9,tO,k8,dX,jy,kv,ru,qO,mB,aN,cV,In,bY,gB,aG,gJ,aR,a7,bA,bE,bl,cD,kH,iL,kB,kL,h5]
   grind
 by_cases h6:(cell a.row 0).ZY=6
 · simp[y9,tO,k8,dX,jy,kv,ru,qO,mB,aN,cV,In,bY,gB,aG,gJ,aR,a7,bA,bE,bl,cD,kH,iL,kB,kL,h6]
   grind
 · simp[y9,tO,k8,dX,jy,kv,ru,qO,mB,aN,cV,In,bY,gB,aG,gJ,h0,h1,h2,h3,h4,h5,h6]
   grind)
theorem E2{i:Nat}(h0:0<i):((i:Int) - 1).tdiv 2=((i - 1) / 2:Nat):=by
 rw[show((i:Int) - 1)=((i - 1:Nat):Int) by omega]
 exact(Int.ofNat_tdiv (i - 1) 2).symm
def lA(l:List (List D))(i:Nat):Prop:=0<=(cell (ag l i) 0).ZY∧0<=(cell (ag l i) 1).ZY∧(0<i->¬Bef (ag l i) (ag l ((i - 1) / 2)))
theorem Wh:GG NM:=gd (vc:=v168) (hs:=[⟨2,[0],[],false⟩]) [Pw] (by simp[W2]) Tryz.func168 (args1 fun a hw hp=>by
 simp[NM,al] at hw
 show v168.wp Φ (fun l=>l=[.bool (tt (nD a.ae))]) [a] _
 refine cq (s:=0) (N:=a.ae.length) (lA a.ae) rfl (fun d=>by simp) (by omega) (by omega) (fun h i h1 h2=>h.2 i h2) (fun i h1 hi _=> ?_) fun h i q=> ?_
 · by_cases h0:0<i
   · obtain⟨m,hm⟩:∃m,m=(i - 1) / 2:=⟨_,rfl⟩
     have e1:=E2 h0
     rw[<-hm] at e1
     have e2:IntKind.i64.wrap (m:Int)=m:=w64 (by omega) (by omega)
     have hmi:m<a.ae.length:=by omega
     simp[wB,show Φ 235=mB _ from rfl,mB,af,hi,e1,e2,iJ (i:=i) (by omega),h0,lA,<-hm,hmi]
     grind
   · have:i=0:=by omega
     subst this
     simp[wB,show Φ 235=mB _ from rfl,mB,gf,hi,lA]
     grind
 · have h':∀i,i<a.ae.length->lA a.ae i:=fun i hi=>h i (by omega) hi
   simp only[lA] at h'
   simp[nD]
   grind)
theorem SX:GG M8:=gd (vc:=WP) (hs:=[⟨2,[0],[],false⟩]) [Nq] (by simp[Wr]) Tryz.func185 (args1 fun a hw hp=>by
 simp[M8,al] at hw
 show WP.wp Φ (fun l=>l=[.bool (tt (nD a.ae))]) [a] _
 refine df (s:=0) (N:=a.ae.length) (lA a.ae) rfl (fun d=>by simp) (by omega) (by omega) (fun h i h1 h2=>h.2 i h2) (fun i h1 hi _=> ?_) fun h i q=> ?_
 · by_cases h0:0<i
   · obtain⟨m,hm⟩:∃m,m=(i - 1) / 2:=⟨_,rfl⟩
     have e1:=E2 h0
     rw[<-hm] at e1
     have e2:IntKind.i64.wrap (m:Int)=m:=w64 (by omega) (by omega)
     have hmi:m<a.ae.length:=by omega
     simp[vL,show Φ 253=mB _ from rfl,mB,af,hi,e1,e2,iJ (i:=i) (by omega),h0,lA,<-hm,hmi]
     grind
   · have:i=0:=by omega
     subst this
     simp[vL,show Φ 253=mB _ from rfl,mB,gf,hi,lA]
     grind
 · have h':∀i,i<a.ae.length->lA a.ae i:=fun i hi=>h i (by omega) hi
   simp only[lA] at h'
   simp[nD]
   grind)
def gT(l key by':List (List D))(i:Nat):Prop:=kV (ag l i)∧eqR (aH aC) (bX (cell (ag l i) 0).ae by') key=true∧(0<i->dv (cell (ag l (i - 1)) 0).ae (cell (ag l i) 0).ae=true)
theorem Ct{r:List D}(h:kV r):(cell r 0).ae.length<=1048576:=by have:=h.1.1.1;omega
theorem TV:GG O9:=gd (vc:=WB) (hs:=[⟨2,[0],[],false⟩]) [Co,zH,zI,CU] (by simp[zV,uL,D2,Hx]) Tryz.func307 (mZ fun a b c hw hp=>by
 simp[O9,al] at hw
 show WB.wp Φ (fun l=>l=[.bool (tt (zr a.ae b.ae c.ae))]) [a,b,c] _
 refine df (s:=0) (N:=a.ae.length) (gT a.ae b.ae c.ae) rfl (fun d=>by simp) (by omega) (by omega) (fun h i h1 h2=>h i h2) (fun i h1 hi _=> ?_) fun h i q=> ?_
 · have hal:= @Ct (ag a.ae i)
   by_cases hA:kV (ag a.ae i)
   · have hal:=hal hA
     by_cases h0:0<i
     · simp[Bk,jy,kJ,jQ,mO,mB,aF,bH,cP,af,hi,gS _ h0,iJ (i:=i) (by omega),h0,gT,hA,hal]
       grind
     · have:i=0:=by omega
       subst this
       simp[Bk,jy,kJ,jQ,mO,mB,aF,bH,cP,gf,hi,gT,hA,hal]
   · by_cases h0:0<i
     · simp[Bk,jy,kJ,jQ,mO,mB,aF,bH,cP,af,hi,gS _ h0,iJ (i:=i) (by omega),h0,gT,hA]
     · have:i=0:=by omega
       subst this
       simp[Bk,jy,kJ,jQ,mO,mB,aF,bH,cP,gf,hi,gT,hA]
 · simp
   exact fun i hi=>h i (by omega) hi)
theorem Ul:GG NF:=gd (vc:=WA) [qN,A3,O9] (by simp[mV,EY,TV]) Tryz.func251 (args2 fun a b hw hp=>by
 simp[WA,NF,show Φ 251=mB _ from rfl,dX,kv,Bk,mB,kR,In,bY,zr]
 grind)
theorem Ur:GG Vn:=gd (vc:=v234) (hs:=[⟨2,[0],[],false⟩]) [g86,At,tP,B6,yT,DH] (by simp[wV,xR,pm,ED,D7,GR]) Tryz.func234 (args2 fun a b hw hp=>by
 show v234.wp Φ (fun l=>l=[.bool (tt (kR a.row b.ae))]) [a,b] _
 have hl:=el hw.1 4 rfl
 refine cq (s:=0) (N:=(cell a.row 4).ae.length) (gT (cell a.row 4).ae (cell a.row 1).ae b.ae) rfl (fun d=>by simp) hl (by omega) (fun h i h1 h2=>h.2.2.2.2.2 i h2) (fun i h1 hi _=> ?_) fun h i q=> ?_
 · have hal:= @Ct (ag (cell a.row 4).ae i)
   by_cases hA:kV (ag (cell a.row 4).ae i)
   · have hal:=hal hA
     by_cases h0:0<i
     · cases hs:dv (cell (ag (cell a.row 4).ae (i - 1)) 0).ae (cell (ag (cell a.row 4).ae i) 0).ae<;>simp[oc,gF,gK,dz,il,fJ,lS,mB,aF,bH,cP,af,hi,gS _ h0,iJ (i:=i) (by omega),h0,gT,hA,hal,hs]
       all_goals omega
     · have:i=0:=by omega
       subst this
       simp[oc,gF,gK,dz,il,fJ,lS,mB,aF,bH,cP,gf,hi,gT,hA,hal]
   · by_cases h0:0<i
     · simp[oc,gF,gK,dz,il,fJ,lS,mB,aF,bH,cP,af,hi,gS _ h0,iJ (i:=i) (by omega),h0,gT,hA]
     · have:i=0:=by omega
       subst this
       simp[oc,gF,gK,dz,il,fJ,lS,mB,aF,bH,cP,gf,hi,gT,hA]
 · have h':∀i,i<(cell a.row 4).ae.length->gT (cell a.row 4).ae (cell a.row 1).ae b.ae i:=fun i hi=>h i (by omega) hi
   simp only[gT] at h'
   simp[oc,gF,gK,dz,il,fJ,lS,mB,aF,bH,cP,kR,In,bY]
   grind)
def qw(l by':List (List D))(i:Nat):Prop:=kR (ag l i) by'∧(0<i->(cell (ag l (i - 1)) 0).ZY<(cell (ag l i) 0).ZY)∧∀k,k<i->eqR (aH aC) (cell (ag l k) 1).ae (cell (ag l i) 1).ae=false
theorem Mg:GG Ke:=gd (vc:=v167) (hs:=[⟨2,[0],[],false⟩,⟨7,[0],[],false⟩]) [tP,Vn] (by simp[pm,Ur]) Tryz.func167 (args2 fun a b hw hp=>by
 simp[Ke,al] at hw
 show v167.wp Φ (fun l=>l=[.bool (tt (eA a.ae b.ae))]) [a,b] _
 refine bT (Φ:=Φ) (N:=a.ae.length) rfl (fun _=>by simp) (by omega) (fun i=>∀j,j<i->qw a.ae b.ae j) (by omega) (fun i hi hI=> ?_) (fun hI p=> ?_)
 · have hp0:0<i->Go.Vx.rowAt a.ae ((i:Int) - 1)=ag a.ae (i - 1):=fun h=>gS _ h
   have hq:=iJ (i:=i) (by omega)
   rw[aJ,aO]
   refine⟨by simp[iV,dz,oc,mB,aF,af,hi,hq];omega,fun hc=> ?_,fun hc=> ?_⟩
   · have:¬eA a.ae b.ae:=fun hp=>by
      have:=hp.2 i hi
      by_cases h0:0<i
      · simp[iV,dz,oc,mB,aF,af,hq,hp0 h0,h0] at hc
        grind
      · have:i=0:=by omega
        subst this
        simp[iV,dz,oc,mB,aF,gf] at hc
        grind
     simp[bM _ |>.mpr this]
   · have hc':kR (ag a.ae i) b.ae∧(0<i->(cell (ag a.ae (i - 1)) 0).ZY<(cell (ag a.ae i) 0).ZY):=by
      by_cases h0:0<i
      · simp[iV,dz,oc,mB,aF,af,hq,hp0 h0,h0] at hc
        grind
      · have:i=0:=by omega
        subst this
        simp[iV,dz,oc,mB,aF,gf] at hc
        grind
     refine bT (Φ:=Φ) (N:=i) rfl (fun _=>by simp) (by omega) (fun m=>∀q,q<m->eqR (aH aC) (cell (ag a.ae q) 1).ae (cell (ag a.ae i) 1).ae=false) (by omega) (fun m hm hJ=> ?_) (fun hJ p=> ?_)
     · simp[iV,dz,oc,mB,aF,af,hi,show m<a.ae.length by omega]
       refine⟨fun h=>fun hp=> ?_,fun h=>ce hJ h⟩
       have:=(hp.2 i hi).2.2 m hm
       rw[h] at this;cases this
     · rw[dO,cU (by decide)]
       simp
       exact ce hI ⟨hc'.1,hc'.2,hJ⟩
 · simp[eA]
   exact⟨fun h=>⟨by omega,fun i hi=>hI i hi⟩,fun h=>by omega⟩)
theorem LH:GG Kj:=gd (vc:=UP) (hs:=[⟨2,[0],[],false⟩]) [NF,Ga] (by simp[Ul,Hq]) Tryz.func184 (args2 fun a b hw hp=>by
 simp[Kj,al] at hw
 show UP.wp Φ (fun l=>l=[.bool (tt (eA a.ae b.ae))]) [a,b] _
 have first:∀i,i<a.ae.length->((eR (fun g=>eqR (aH aC) (cell g 1).ae (cell (ag a.ae i) 1).ae=true) a.ae 0=(i:Int))↔∀k,k<i->eqR (aH aC) (cell (ag a.ae k) 1).ae (cell (ag a.ae i) 1).ae=false):=fun i hi=>by
  constructor
  · intro h k hk
    rcases aZ (fun g=>eqR (aH aC) (cell g 1).ae (cell (ag a.ae i) 1).ae=true) a.ae with ⟨e,_⟩|⟨j,hj,e,_,h2⟩
    · rw[e] at h;omega
    · rw[e] at h
      have:=h2 k (by omega)
      simpa using this
  · intro h
    exact iK (p:=fun g=>eqR (aH aC) (cell g 1).ae (cell (ag a.ae i) 1).ae=true) hi (fun j _ hj=>by simpa using h j hj) (iL _)
 refine df (s:=0) (N:=a.ae.length) (fun i=>i<12∧qw a.ae b.ae i) rfl (fun d=>by simp) (by omega) (by omega) (fun h i h1 h2=>⟨by have:=h.1;omega,h.2 i h2⟩) (fun i h1 hi _=> ?_) fun h i q=> ?_
 · have hf:=first i hi
   by_cases h0:0<i
   · simp[l6,show Φ 251=mB _ from rfl,qk,mB,cJ,af,hi,gS _ h0,iJ (i:=i) (by omega),h0,qw,<-hf]
     grind
   · have:i=0:=by omega
     subst this
     have hf:eR (fun g=>eqR (aH aC) (cell g 1).ae (cell (ag a.ae 0) 1).ae=true) a.ae 0=0:=hf.2 fun k hk=>by omega
     simp[l6,show Φ 251=mB _ from rfl,qk,mB,cJ,gf,hi,qw,hf]
 · simp[eA]
   refine⟨?_,fun i hi=>(h i (by omega) hi).2⟩
   by_cases h12:a.ae.length<=12
   · exact h12
   · have:=(h 12 (by omega) (by omega)).1;omega)
theorem Dc(r:List D):(cell r 8).ae.length+aD (am dw) (cell r 8).ae<=am fG r:=by
 simp only[aw,aA,szD,bf,Nat.zero_add,Nat.reduceAdd]
 omega
def OH(w t:List D)(i:Nat):Prop:=(cell (ag (cell t 8).ae i) 0).ZY=(cell (ag (cell w 8).ae i) 1).ZY
def leP(w t:List D)(i:Nat):Prop:=(cell (ag (cell t 8).ae i) 0).ZY<=(cell (ag (cell w 8).ae i) 1).ZY
theorem B3(w t:List D):tG w t↔(∀i,i<(cell t 8).ae.length->leP w t i)∧((∀i,i<(cell t 8).ae.length->OH w t i)->eqR (aH aj) (cell t 9).ae (((cell w 8).ae.take (cell t 8).ae.length).flatMap fP)=true):=Iff.rfl
theorem kl(ks:List K)(xs ys:List (List D)):eqR (aH ks) xs ys=eqR (aH ks) ys xs:=rO (fun x y=>ox ks x y) xs ys
theorem jh{xs:List (List D)}(n:Nat)(h:xs.length+aD (am dw) xs<=1048576):((xs.take n).flatMap fP).length<=1048576:=by
 have h1:=yw (xs.take n)
 have h2:=bO (am dw) (xs:=xs) (i:=n)
 omega
theorem vS(a:D):jE 0 [a]= .sl (fP a.row):=rfl
theorem VX:GG NW:=gd (vc:=v164) (hs:=[⟨4,[0],[],false⟩]) [wy,Jl] (by simp[vH,Mv]) Tryz.func164 (args2 fun a b hw hp=>by
 simp[NW,nj,i8] at hp
 obtain⟨hsz,hle⟩:=hp
 have hst:=Dc a.row
 show v164.wp Φ (fun l=>l=[.bool (tt (tG a.row b.row))]) [a,b] _
 have hl:=el hw.2.1 8 rfl
 refine wp_loop' (fun v=>∃(i:Nat) (x:D),v=[.bool (tt (∀j,j<i->OH a.row b.row j)),.int i,x]∧i<=(cell b.row 8).ae.length∧(∀j,j<i->leP a.row b.row j)∧x.ae=((cell a.row 8).ae.take i).flatMap fP) (fun v=>(cell b.row 8).ae.length - (cell v 1).ZY.toNat) ⟨0,_,by simp;rfl,by omega,by omega,by simp[chunk]⟩ ?_
 simp only[cA,cz]
 intro d1 d2 d3
 refine bS fun _=> ?_
 rintro⟨i,x,hd,hi,hI,hx⟩
 simp only[List.cons.injEq,and_true] at hd
 obtain⟨rfl,rfl,rfl⟩:=hd
 rw[aO]
 refine⟨fun hc=> ?_,fun hc=> ?_⟩
 · simp at hc
   have hi2:i<(cell a.row 8).ae.length:=by omega
   rw[aJ,aO]
   refine⟨by simp;omega,fun hv=> ?_,fun hv=> ?_⟩
   · simp[af] at hv
     have:¬tG a.row b.row:=fun h=>by have:=h.1 i hc;omega
     simp[bM _ |>.mpr this]
   · simp[af] at hv
     have h1:=jh i (xs:=(cell a.row 8).ae) (by omega)
     have h2:=jh (i+1) (xs:=(cell a.row 8).ae) (by omega)
     rw[jk hi2,length_append] at h2
     have h3:am dw (ag (cell a.row 8).ae i)<=aD (am dw) (cell a.row 8).ae:=cb hi2
     have hv':leP a.row b.row i:=hv
     rw[aJ,aJ,dO,dD]
     have hm:(jE 1000 [.sl [ag (cell a.row 8).ae i]]).ZZ=true:=by simp[jE];omega
     refine⟨by simp;omega,by simp[af,hm,xC,vS,hx,al,-length_flatMap];omega,⟨i+1,.sl (d3.ae++fP (ag (cell a.row 8).ae i)),?_,by omega,ce hI hv',?_⟩,?_⟩
     · simp[af,w64 (show -9223372036854775808<=(i:Int)+1 by omega) (show(i:Int)+1<=9223372036854775807 by omega)]
       exact⟨⟨fun h=>ce h.1 h.2,fun h=>⟨fun j hj=>h j (by omega),h i (by omega)⟩⟩,rfl⟩
     · simp[af,xC,vS,hx,jk hi2,-length_flatMap]
     · simp[w64 (show -9223372036854775808<=(i:Int)+1 by omega) (show(i:Int)+1<=9223372036854775807 by omega)]
       omega
 · simp at hc
   have:i=(cell b.row 8).ae.length:=by omega
   subst this
   have e:=kl aj ((cell a.row 8).ae.take (cell b.row 8).ae.length |>.flatMap fP) (cell b.row 9).ae
   simp[nj,gq,xC,i8,aF,jE,hx,e,B3,bY]
   grind)
theorem Mf{t:List D}{k:Int}(h:cV t k)(h3:(cell t 0).ZY=3):In (cell t 1).ZY 0 2∧uY t:=⟨h.2.1,(h.2.2.2.2.2.2.2.2.2.2.1 h3).2.2.2.2⟩
theorem Sh:GG Nr:=gd (vc:=Nu) (hs:=[⟨6,[0],[],false⟩]) [pO,I0] (by simp[qm,LN]) Tryz.func249 (args2 fun a b hw hp=>by
 simp[Nr,tg,mBw] at hp
 obtain⟨hsz,hparts,h3,k,hk⟩:=hp
 have hst:=Dc a.row
 obtain⟨hpc,hseen⟩:=Mf hk h3
 show Nu.wp Φ (fun l=>l=[.bool (tt (vg a.row b.row))]) [a,b] _
 have hl:=el hw.2.1 8 rfl
 unfold Nu
 rw[aO]
 refine⟨fun hc=> ?_,fun hc=> ?_⟩
 · simp at hc
   have:¬vg a.row b.row:=fun h=>by
    obtain⟨s1,s2,_⟩:=h
    simp only[In] at hpc
    rcases hc with ⟨c1,c2⟩|⟨c1,c2⟩
    · have:=s2 (by omega);omega
    · exact c2 (s1 c1)
   simp[bM _ |>.mpr this]
 have hs:((cell b.row 1).ZY=2->((cell b.row 8).ae.length:Int)=(cell a.row 0).ZY)∧((cell b.row 1).ZY≠2->(cell b.row 7).ZY<(cell a.row 0).ZY):=by
  simp at hc
  simp only[In] at hpc
  refine⟨fun h=>hc.2 h,fun h=>by have:=hc.1 (by omega);omega⟩
 have hle:(cell b.row 8).ae.length<=(cell a.row 8).ae.length:=by
  simp only[gy] at hparts
  by_cases h2:(cell b.row 1).ZY=2
  · have:=hs.1 h2;omega
  · have e1:=hs.2 h2
    have e2:=(hseen.2.2 h2).1
    omega
 refine wp_loop' (fun v=>∃(i:Nat) (x:D),v=[.bool (tt (∀j,j<i->OH a.row b.row j)),x,.int i]∧i<=(cell b.row 8).ae.length∧(∀j,j<i->leP a.row b.row j)∧x.ae=((cell a.row 8).ae.take i).flatMap fP) (fun v=>(cell b.row 8).ae.length - (cell v 2).ZY.toNat) ⟨0,_,by simp;rfl,by omega,by omega,by simp[chunk]⟩ ?_
 simp only[cA,cz]
 intro d1 d2 d3
 refine bS fun _=> ?_
 rintro⟨i,x,hd,hi,hI,hx⟩
 simp only[List.cons.injEq,and_true] at hd
 obtain⟨rfl,rfl,rfl⟩:=hd
 rw[aO]
 refine⟨fun hc=> ?_,fun hc=> ?_⟩
 · simp at hc
   have hi2:i<(cell a.row 8).ae.length:=by omega
   rw[aJ,aJ,aO]
   refine⟨by simp;omega,by simp;omega,fun hv=> ?_,fun hv=> ?_⟩
   · simp[af] at hv
     have:¬vg a.row b.row:=fun h=>by have:=h.2.2.1 i hc;omega
     simp[bM _ |>.mpr this]
   · simp[af] at hv
     have h1:=jh i (xs:=(cell a.row 8).ae) (by omega)
     have h2:=jh (i+1) (xs:=(cell a.row 8).ae) (by omega)
     rw[jk hi2,length_append] at h2
     have h3:am dw (ag (cell a.row 8).ae i)<=aD (am dw) (cell a.row 8).ae:=cb hi2
     have hv':leP a.row b.row i:=hv
     rw[aJ,aJ,dO,dD]
     have hm:(jE 1000 [.sl [ag (cell a.row 8).ae i]]).ZZ=true:=by simp[jE];omega
     refine⟨by simp;omega,by simp[af,hm,As,vS,hx,al,-length_flatMap];omega,⟨i+1,.sl (d2.ae++fP (ag (cell a.row 8).ae i)),?_,by omega,ce hI hv',?_⟩,?_⟩
     · simp[af,w64 (show -9223372036854775808<=(i:Int)+1 by omega) (show(i:Int)+1<=9223372036854775807 by omega)]
       exact⟨⟨fun h=>ce h.1 h.2,fun h=>⟨fun j hj=>h j (by omega),h i (by omega)⟩⟩,rfl⟩
     · simp[af,hx,jk hi2,-length_flatMap]
     · simp[w64 (show -9223372036854775808<=(i:Int)+1 by omega) (show(i:Int)+1<=9223372036854775807 by omega)]
       omega
 · simp at hc
   have:i=(cell b.row 8).ae.length:=by omega
   subst this
   simp[tg,fa,As,mBw,aF,jE,hx,vg,B3,bY]
   grind)
theorem xI(x y:List D):aH aj [.sl (cell x 0).ae,cell x 1,cell x 2,cell x 3] y=aH aj x y:=by
 simp[aR,a7,cD,bE,bA]
theorem xy{t:List D}{k:Int}(h:cV t k)(h1:(cell t 0).ZY=1):(cell t 2).ae.length<=1048576:=by
 have:=(h.2.2.2.2.2.2.2.2.1 h1).2.1
 exact Ct (r:=aG t) this
theorem Dn{w t:List D}{k:Int}(h:cV t k)(h4:(cell t 0).ZY=4):(cell t 1).ZY<2∧tG w t:=by
 have:=h.2.2.2.2.2.2.2.2.2.2.2.1 h4
 have e8:(cell t 8).ae=[]:=List.length_eq_zero_iff.1 this.2.2.2.2.2.2.1
 have e9:(cell t 9).ae=[]:=List.length_eq_zero_iff.1 this.2.2.2.2.2.2.2
 exact⟨this.2.1,by simp[tG,e8,e9,eqR]⟩
theorem VA:GG vr:=gd (vc:=DD) [D0,u0,Hr,zH,Nr] (by simp[EV,xm,VO,uL,Sh]) Tryz.func181 (mZ fun a b c hw hp=>by
 simp[vr,l0,mBw] at hp
 obtain⟨hsz,hparts,h0,k,hk⟩:=hp
 have hop:=hk.2.2.2.2.2.2.1
 simp only[In] at hop
 rw[show(fun l=>l=dG (fun c'=>Φ vr.f c' [a,b,c]) 0 vr.ax)=fun l=>l=[.bool (tt ((cell c.row 0).ZY=fm (cell b.row 0).ZY∧jr a.row b.row c.row))] from rfl]
 by_cases h1:(cell b.row 0).ZY=1
 · have hlen:=xy hk h1
   simp[DD,vr,l0,eB,iT,qS,kJ,tg,mBw,mB,aN,dJ,aF,bY,fm,jr,h1,eqA,eqS,aG,xI]
   grind
 by_cases h2:(cell b.row 0).ZY=2
 · simp[DD,vr,l0,eB,iT,qS,kJ,tg,mBw,mB,aN,dJ,aF,bY,fm,jr,h2,eqA,eqS,aG]
 by_cases h3:(cell b.row 0).ZY=3
 · simp[DD,vr,l0,eB,iT,qS,kJ,tg,mBw,mB,aN,dJ,aF,bY,fm,jr,vg,h3,eqA,eqS,aG,hsz,hparts]
   grind
 by_cases h4:(cell b.row 0).ZY=4
 · have hs:= @Dn a.row b.row k hk h4
   have hne:¬(cell b.row 1).ZY=2:=by omega
   simp[DD,vr,l0,eB,iT,qS,kJ,tg,mBw,mB,aN,dJ,aF,bY,fm,jr,h4,eqA,eqS,aG,hs,hne]
 by_cases h5:(cell b.row 0).ZY=5
 · simp[DD,vr,l0,eB,iT,qS,kJ,tg,mBw,mB,aN,dJ,aF,bY,fm,jr,h5,eqA,eqS,aG]
 have h6:(cell b.row 0).ZY=6:=by omega
 simp[DD,vr,l0,eB,iT,qS,kJ,tg,mBw,mB,aN,dJ,aF,bY,fm,jr,h6,eqA,eqS,aG]
 grind)
theorem zK{w:List D}{k:Nat}(h:¬cV (ag (cell w 17).ae k) k):¬jL w k:=fun h'=>h h'.1
theorem vv{w:List D}{k:Nat}(h:cV (ag (cell w 17).ae k) k)(h0:(cell (ag (cell w 17).ae k) 0).ZY=0):jL w k:=⟨h,fun hn=>absurd h0 hn⟩
theorem BJ{w t d:List D}{k h:Nat}(ht:ag (cell w 17).ae k=t)(hT:cV t k)(h0:(cell t 0).ZY≠0)(hH:(cell t 11).ZY=(h:Int))(hd:ag (cell w 18).ae h=d):
 jL w k↔h<(cell w 18).ae.length∧(cell d 1).ZY=k∧(cell d 14).ZY= -1∧(cell d 0).ZY=fm (cell t 0).ZY∧((cell d 13).ZY≠ -1↔(cell t 0).ZY=1∧(cell t 1).ZY=2)∧jr w t d:=by
 subst ht
 unfold jL
 rw[hH,Int.toNat_natCast,hd]
 constructor
 · intro h;have:=h.2 h0;exact⟨by omega,this.2⟩
 · intro h;exact⟨hT,fun _=>⟨by omega,h.2⟩⟩
theorem E8{w t:List D}{k:Int}(hp:gy w)(h:cV t k)(h3:(cell t 0).ZY=3∨(cell t 0).ZY=4)(h1:(cell t 1).ZY=2->((cell t 8).ae.length:Int)=(cell w 0).ZY)(h2:(cell t 1).ZY≠2->(cell t 7).ZY<(cell w 0).ZY):(cell t 8).ae.length<=(cell w 8).ae.length:=by
 simp only[gy] at hp
 rcases h3 with h3|h4
 · obtain⟨_,hs⟩:=Mf h h3
   by_cases hc:(cell t 1).ZY=2
   · have:=h1 hc;omega
   · have e1:=h2 hc
     have e2:=(hs.2.2 hc).1
     omega
 · have:=(h.2.2.2.2.2.2.2.2.2.2.2.1 h4).2.2.2.2.2.2.1
   omega
theorem YW:GG g91:=gd (vc:=v91) [CR,tZ,KV,HT,sU,tP,NW] (by simp[D6,Wa,U4,U9,wx,pm,VX]) Tryz.func91 (args2 fun a b hw hp=>by
 simp[g91,m0,mBw] at hp
 obtain⟨hsz,hparts,hb0,hbl⟩:=hp
 obtain⟨n,hn⟩:=eq_ofNat_of_zero_le hb0
 rw[show(fun l=>l=dG (fun c'=>Φ g91.f c' [a,b]) 0 g91.ax)=fun l=>l=[.bool (tt (jL a.row b.ZY.toNat))] from rfl]
 rw[hn] at hbl⊢
 rw[Int.toNat_natCast]
 have hnl:n<(cell a.row 17).ae.length:=by omega
 obtain⟨t,ht⟩:∃t,ag (cell a.row 17).ae n=t:=⟨_,rfl⟩
 by_cases hT:cV t n
 · by_cases h0:(cell t 0).ZY=0
   · have:=vv (w:=a.row) (k:=n) (ht▸hT) (ht▸h0)
     simp[v91,m0,dF,jv,nA,mS,fQ,dz,nj,mBw,mB,gc,dJ,aN,aF,i8,hn,hnl,af,ht,hT,h0,this]
   · obtain⟨h,hH⟩:=eq_ofNat_of_zero_le hT.1
     obtain⟨d,hd⟩:∃d,ag (cell a.row 18).ae h=d:=⟨_,rfl⟩
     have e:=BJ ht hT h0 hH hd
     have hop:=hT.2.2.2.2.2.2.1
     simp only[In] at hop
     by_cases hl:h<(cell a.row 18).ae.length
     · by_cases h1:(cell t 0).ZY=1
       · have hlen:=xy hT h1
         simp[v91,m0,dF,jv,nA,mS,fQ,dz,nj,mBw,mB,gc,dJ,aN,aF,i8,hn,hnl,af,ht,hT,hH,hd,hl,e,bY,fm,jr,h1,eqA,eqS,aG,xI,hlen,In]
         grind
       by_cases h2:(cell t 0).ZY=2
       · simp[v91,m0,dF,jv,nA,mS,fQ,dz,nj,mBw,mB,gc,dJ,aN,aF,i8,hn,hnl,af,ht,hT,hH,hd,hl,e,bY,fm,jr,h2,eqA,eqS,aG,In]
         grind
       by_cases h3:(cell t 0).ZY=3
       · have hle:= @E8 a.row t n hparts hT (.inl h3)
         simp[v91,m0,dF,jv,nA,mS,fQ,dz,nj,mBw,mB,gc,dJ,aN,aF,i8,hn,hnl,af,ht,hT,hH,hd,hl,e,bY,fm,jr,h3,eqA,eqS,aG,In,hsz,hparts]
         grind
       by_cases h4:(cell t 0).ZY=4
       · have hle:= @E8 a.row t n hparts hT (.inr h4)
         simp[v91,m0,dF,jv,nA,mS,fQ,dz,nj,mBw,mB,gc,dJ,aN,aF,i8,hn,hnl,af,ht,hT,hH,hd,hl,e,bY,fm,jr,h4,eqA,eqS,aG,In,hsz,hparts]
         grind
       by_cases h5:(cell t 0).ZY=5
       · simp[v91,m0,dF,jv,nA,mS,fQ,dz,nj,mBw,mB,gc,dJ,aN,aF,i8,hn,hnl,af,ht,hT,hH,hd,hl,e,bY,fm,jr,h5,eqA,eqS,aG,In]
         grind
       have h6:(cell t 0).ZY=6:=by omega
       simp[v91,m0,dF,jv,nA,mS,fQ,dz,nj,mBw,mB,gc,dJ,aN,aF,i8,hn,hnl,af,ht,hT,hH,hd,hl,e,bY,fm,jr,h6,eqA,eqS,aG,In]
       grind
     · simp[v91,m0,dF,jv,nA,mS,fQ,dz,nj,mBw,mB,gc,dJ,aN,aF,i8,hn,hnl,af,ht,hT,h0,hH,hl,e]
 · have:=zK (w:=a.row) (k:=n) (ht▸hT)
   simp[v91,m0,dF,jv,nA,mS,fQ,dz,nj,mBw,mB,gc,dJ,aN,aF,i8,hn,hnl,af,ht,hT,this])
def zi(w:List D)(i:Nat):Prop:=ai (ag (cell w 18).ae i)∧(cell (ag (cell w 18).ae i) 12).ZY<(cell w 6).ZY∧(cell (ag (cell w 18).ae i) 13).ZY<(cell w 6).ZY∧(cell (ag (cell w 18).ae i) 14).ZY<(cell w 6).ZY
theorem RE:GG N5:=gd (vc:=Ue) (hs:=[⟨2,[0],[],false⟩,⟨8,[0],[],false⟩]) [IV,tO,vr] (by simp[Mu,Vd,VA]) Tryz.func108 (args1 fun a hw hp=>by
 simp[N5,oR,mBw] at hp
 obtain⟨hsz,hparts⟩:=hp
 show Ue.wp Φ (fun l=>l=[.bool (tt (nC a.row∧nI a.row))]) [a] _
 have hl:=el hw.1 18 rfl
 have hl':=el hw.1 17 rfl
 refine df (s:=0) (N:=(cell a.row 18).ae.length) (zi a.row) rfl (fun d=>by simp) hl (by omega) (fun h i h1 h2=>h.1 i h2) (fun i h1 hi _=> ?_) fun hD i q=> ?_
 · simp[oR,iR,k8,l0,mBw,mB,af,hi,zi]
   grind
 have hDeeds:nC a.row:=fun i hi=>hD i (by omega) hi
 refine bT (Φ:=Φ) (N:=(cell a.row 17).ae.length) rfl (fun _=>by simp) hl' (fun i=>∀j,j<i->jL a.row j) (by omega) (fun n hn hI=> ?_) (fun hI p=> ?_)
 · obtain⟨t,ht⟩:∃t,ag (cell a.row 17).ae n=t:=⟨_,rfl⟩
   have hno:¬jL a.row n->tt (nC a.row∧nI a.row)=false:=fun h=>(bM _).mpr fun h'=>h (h'.2 n hn)
   have hyes:jL a.row n->∀j,j<n+1->jL a.row j:=fun h=>ce hI h
   by_cases hT:cV t n
   · by_cases h0:(cell t 0).ZY=0
     · have:=hyes (vv (w:=a.row) (k:=n) (ht▸hT) (ht▸h0))
       simp[oR,iR,k8,l0,mBw,mB,hn,af,ht,hT,h0]
       exact this
     · obtain⟨h,hH⟩:=eq_ofNat_of_zero_le hT.1
       obtain⟨d,hd⟩:∃d,ag (cell a.row 18).ae h=d:=⟨_,rfl⟩
       have e:=BJ ht hT h0 hH hd
       by_cases hl:h<(cell a.row 18).ae.length
       · have hx:am fG a.row<=1048576∧gy a.row∧¬(cell t 0).ZY=0∧∃k,cV t k:=⟨hsz,hparts,h0,n,hT⟩
         by_cases hok:jL a.row n
         · have hy:=hyes hok
           rw[e] at hok
           simp[oR,iR,k8,l0,mBw,mB,hn,af,ht,hT,h0,hH,hd,hl,hx]
           grind
         · have hz:=hno hok
           rw[e] at hok
           simp[oR,iR,k8,l0,mBw,mB,hn,af,ht,hT,h0,hH,hd,hl,hx,hz]
           grind
       · have hz:=hno (by rw[e];exact fun h'=>hl h'.1)
         simp[oR,iR,k8,l0,mBw,mB,hn,af,ht,hT,h0,hH,hl,hz]
   · have hz:=hno (zK (w:=a.row) (k:=n) (ht▸hT))
     simp[oR,iR,k8,l0,mBw,mB,hn,af,ht,hT,hz]
 · have hTasks:nI a.row:=fun k hk=>hI k hk
   simp[bW _ |>.mpr (show nC a.row∧nI a.row from⟨hDeeds,hTasks⟩)])
def wi(w:List D)(i k:Nat):Prop:=lw (ag (cell w 17).ae k) (cell w 8).ae.length=(i:Int)↔(cell (ag (cell w 8).ae i) 0).ZY=(k:Int)
def sD(w:List D)(k:Nat):Prop:=iP (ag (cell w 17).ae k)↔(cell w 11).ZY=(k:Int)
theorem PX:GG Wx:=gd (vc:=v109) (hs:=[⟨2,[0],[],false⟩,⟨5,[0],[],false⟩,⟨12,[0],[],false⟩]) [qN,Oc,NT] (by simp[mV,Tx,Wn]) Tryz.func109 (args1 fun a hw hp=>by
 show v109.wp Φ (fun l=>l=[.bool (tt (jd a.row))]) [a] _
 have hl:=el hw.1 8 rfl
 have hl':=el hw.1 17 rfl
 refine bT (Φ:=Φ) (N:=(cell a.row 8).ae.length) rfl (fun _=>by simp) hl (fun i=>∀j,j<i->∀k,k<(cell a.row 17).ae.length->wi a.row j k) (by omega) (fun i hi hI=> ?_) (fun hI p=> ?_)
 · rw[aJ]
   refine⟨by simp[hi],?_⟩
   refine bT (Φ:=Φ) (N:=(cell a.row 17).ae.length) rfl (fun _=>by simp) hl' (fun k=>∀m,m<k->wi a.row i m) (by omega) (fun k hk hJ=> ?_) (fun hJ p=> ?_)
   · by_cases hok:wi a.row i k
     · have:=ce hJ hok
       simp only[wi] at hok
       simp[uP,dX,Ah,BH,mB,eN,af,hi,hk]
       exact⟨fun h=>absurd hok h,fun _=>this⟩
     · have hz:¬jd a.row:=fun h=>hok (h.1 i hi k hk)
       simp only[wi] at hok
       simp[uP,dX,Ah,BH,mB,eN,af,hi,hk,bM _ |>.mpr hz]
       exact fun h=>absurd h hok
   · rw[dO,cU (by decide)]
     simp
     exact ce hI hJ
 · refine df (s:=0) (N:=(cell a.row 17).ae.length) (sD a.row) rfl (fun d=>by simp) hl' (by omega) (fun h i h1 h2=>h.2.1 i h2) (fun i h1 hi _=> ?_) fun h i q=> ?_
   · simp[uP,dX,Ah,BH,mB,eN,af,hi,sD]
   · have h':∀k,k<(cell a.row 17).ae.length->sD a.row k:=fun k hk=>h k (by omega) hk
     simp[uP,dX,Ah,BH,mB,eN,jd,In]
     exact⟨fun h=>⟨hI,h',h⟩,fun h=>h.2.2⟩)
noncomputable def hold(w:List D)(k:Nat):Int:=lw (ag (cell w 17).ae k) (cell w 8).ae.length
def sG(w:List D)(i:Nat):Int:=(cell (ag (cell w 8).ae i) 0).ZY
def mA(w:List D)(k:Nat)(held:List (List D)):Prop:=held.length=(cell w 8).ae.length∧∀j,j<(cell w 8).ae.length->∃c:Int,ag held j=[.int c]∧(∀m:Nat,m<k->(hold w m=(j:Int)↔c=(m:Int)))∧ -1<=c∧c<k
def my(w:List D)(k:Nat)(gi:Int):Prop:=(∀m:Nat,m<k->(iP (ag (cell w 17).ae m)↔gi=(m:Int)))∧ -1<=gi∧gi<k
theorem Ia{xs:List (List D)}{i j:Nat}{r:List D}:ag (xs.set i r) j=if i=j∧j<xs.length then r else ag xs j:=by
 unfold ag
 simp only[List.getD_eq_getElem?_getD,List.getElem?_set]
 by_cases h:i=j
 · subst h
   by_cases hl:i<xs.length<;>simp[hl]
 · simp[h]
theorem GL{w:List D}{k i:Nat}{held:List (List D)}(h:mA w k held)(hi:i<(cell w 8).ae.length)(hk:hold w k=(i:Int))(hc:ag held i=[.int (-1)]):mA w (k+1) (held.set i [.int k]):=by
 refine⟨by simp[h.1],fun j hj=> ?_⟩
 obtain⟨c,h1,h2,h3,h4⟩:=h.2 j hj
 rw[Ia]
 by_cases e:i=j
 · subst e
   rw[if_pos ⟨rfl,by rw[h.1];exact hi⟩]
   refine⟨k,rfl,fun m hm=> ?_,by omega,by omega⟩
   rw[hc] at h1
   simp only[List.cons.injEq,D.int.injEq,and_true] at h1
   by_cases e:m=k
   · subst e;exact⟨fun _=>rfl,fun _=>hk⟩
   · have:=h2 m (by omega);omega
 · rw[if_neg fun h=>e h.1]
   refine⟨c,h1,fun m hm=> ?_,h3,by omega⟩
   by_cases e':m=k
   · subst e';omega
   · exact h2 m (by omega)
theorem Gc{w:List D}{k:Nat}{held:List (List D)}(h:mA w k held)(hk:hold w k<0):mA w (k+1) held:=by
 refine⟨h.1,fun j hj=> ?_⟩
 obtain⟨c,h1,h2,h3,h4⟩:=h.2 j hj
 refine⟨c,h1,fun m hm=> ?_,h3,by omega⟩
 by_cases e':m=k
 · subst e';omega
 · exact h2 m (by omega)
theorem Do{w:List D}{k i:Nat}{held:List (List D)}(h:mA w k held)(hi:i<(cell w 8).ae.length)(hkl:k<(cell w 17).ae.length)(hk:hold w k=(i:Int)){c:Int}(hc:ag held i=[.int c])(hne:c≠ -1):¬jd w:=fun hp=>by
 obtain⟨c',h1,h2,h3,h4⟩:=h.2 i hi
 rw[hc] at h1
 simp only[List.cons.injEq,D.int.injEq,and_true] at h1
 subst h1
 obtain⟨m,hm⟩:=eq_ofNat_of_zero_le (show 0<=c by omega)
 have e1:=(hp.1 i hi m (by omega)).1 ((h2 m (by omega)).2 hm)
 have e2:=(hp.1 i hi k hkl).1 hk
 omega
theorem tK{w:List D}{k:Nat}{gi:Int}(h:my w k gi)(hkl:k<(cell w 17).ae.length)(hk:iP (ag (cell w 17).ae k))(hne:gi≠ -1):¬jd w:=fun hp=>by
 obtain⟨m,hm⟩:=eq_ofNat_of_zero_le (show 0<=gi by have:=h.2.1;omega)
 have e1:=(hp.2.1 m (by have:=h.2.2;omega)).1 ((h.1 m (by have:=h.2.2;omega)).2 hm)
 have e2:=(hp.2.1 k hkl).1 hk
 have:=h.2.2
 omega
theorem yk{w:List D}{k:Nat}(h:my w k (-1))(hk:iP (ag (cell w 17).ae k)):my w (k+1) k:=by
 refine⟨fun m hm=> ?_,by omega,by omega⟩
 by_cases e:m=k
 · subst e;exact⟨fun _=>rfl,fun _=>hk⟩
 · have:=h.1 m (by omega)
   constructor
   · intro hg;have:=this.1 hg;omega
   · intro he;omega
theorem vX{w:List D}{k:Nat}{gi:Int}(h:my w k gi)(hk:¬iP (ag (cell w 17).ae k)):my w (k+1) gi:=by
 refine⟨fun m hm=> ?_,h.2.1,by have:=h.2.2;omega⟩
 by_cases e:m=k
 · subst e;exact⟨fun hg=>absurd hg hk,fun he=>by have:=h.2.2;omega⟩
 · exact h.1 m (by omega)
theorem GY{w:List D}{i:Nat}{held:List (List D)}(hh:yr w)(h:mA w 5 held)(hp:jd w)(hi:i<(cell w 8).ae.length):ag held i=[.int (sG w i)]:=by
 obtain⟨c,h1,h2,h3,h4⟩:=h.2 i hi
 rw[h1]
 have hin:=hh.2.1 i hi
 simp only[In] at hin
 have hlk:=hh.1
 have:c=sG w i:=by
  unfold sG
  by_cases hc:0<=c
  · obtain⟨m,hm⟩:=eq_ofNat_of_zero_le hc
    have:=(hp.1 i hi m (by omega)).1 ((h2 m (by omega)).2 hm)
    omega
  · by_cases hd:0<=(cell (ag (cell w 8).ae i) 0).ZY
    · obtain⟨m,hm⟩:=eq_ofNat_of_zero_le hd
      have:=(h2 m (by omega)).1 ((hp.1 i hi m (by omega)).2 hm)
      omega
    · omega
 rw[this]
theorem GF{w:List D}{held:List (List D)}{gi:Int}(hh:yr w)(h:mA w 5 held)(hg:my w 5 gi)(he:∀i,i<(cell w 8).ae.length->ag held i=[.int (sG w i)]):jd w↔(cell w 11).ZY=gi:=by
 have hlk:=hh.1
 constructor
 · intro hp
   have hin:=hp.2.2
   simp only[In] at hin
   by_cases hc:0<=gi
   · obtain⟨m,hm⟩:=eq_ofNat_of_zero_le hc
     have:=(hp.2.1 m (by have:=hg.2.2;omega)).1 ((hg.1 m (by have:=hg.2.2;omega)).2 hm)
     omega
   · by_cases hd:0<=(cell w 11).ZY
     · obtain⟨m,hm⟩:=eq_ofNat_of_zero_le hd
       have:=(hg.1 m (by omega)).1 ((hp.2.1 m (by omega)).2 hm)
       omega
     · have:=hg.2.1;omega
 · intro e
   refine⟨fun i hi k hk=> ?_,fun k hk=> ?_,?_⟩
   · obtain⟨c,h1,h2,h3,h4⟩:=h.2 i hi
     rw[he i hi] at h1
     simp only[List.cons.injEq,D.int.injEq,and_true] at h1
     have:=h2 k (by omega)
     rw[<-h1] at this
     exact this
   · rw[e];exact hg.1 k (by omega)
   · rw[e];exact⟨hg.2.1,by have:=hg.2.2;omega⟩
theorem ZG:GG g92:=gd (vc:=v92) (hs:=[⟨8,[0],[],false⟩,⟨20,[0],[],false⟩]) [Nm,M4] (by simp[Ts,TE]) Tryz.func92 (args1 fun a hw hp=>by
 simp[g92,mF,mBw] at hp
 obtain⟨hsz,hh⟩:=hp
 have hlk:=hh.1
 have hst:=Dc a.row
 show v92.wp Φ (fun l=>l=[.bool (tt (jd a.row))]) [a] _
 have hl:=el hw.1 8 rfl
 refine kG (N:=(cell a.row 8).ae.length) rfl (fun d d'=>by simp) hl (fun i x=>x.ae=List.replicate i [.int (-1)]) (by simp[chunk]) (fun i x hi _ hx=> ?_) fun x _ hx p=> ?_
 · simp[hx,al,chunk]
   exact⟨⟨by omega,by omega⟩,by simp[List.replicate_succ']⟩
 · have h0:mA a.row 0 x.ae:=⟨by rw[hx];simp,fun j hj=>⟨-1,by rw[hx,ag];simp[List.getD_eq_getElem?_getD,hj],fun m hm=>by omega,by omega,by omega⟩⟩
   refine wp_loop' (fun v=>∃(gi:Int) (k:Nat) (y:D),v=[.int gi,.int k,y]∧k<=5∧mA a.row k y.ae∧my a.row k gi) (fun v=>5 - (cell v 1).ZY.toNat) ⟨-1,0,x,by simp,by omega,h0,fun m hm=>by omega,by omega,by omega⟩ ?_
   simp only[cA,cz]
   intro d1 d2 d3
   refine bS fun _=> ?_
   rintro⟨gi,k,y,hd,hk,hH,hG⟩
   simp only[List.cons.injEq,and_true] at hd
   obtain⟨rfl,rfl,rfl⟩:=hd
   rw[aO]
   refine⟨fun hc=> ?_,fun hc=> ?_⟩
   · simp[hlk] at hc
     have hk5:k<5:=by omega
     have e1:IntKind.i64.wrap ((k:Int)+1)=((k+1:Nat):Int):=by rw[w64 (by omega) (by omega)];simp
     obtain⟨t,ht⟩:∃t,ag (cell a.row 17).ae k=t:=⟨_,rfl⟩
     have hhold:hold a.row k=lw t (cell a.row 8).ae.length:=by unfold hold;rw[ht]
     have hlt:hold a.row k<(cell a.row 8).ae.length:=hh.2.2 k hk5
     rw[aJ,aO]
     refine⟨by simp[hlk,af,mF,nK,od,mBw,eN,mB];omega,fun hc2=> ?_,fun hc2=> ?_⟩
     · simp[af,ht,mF,nK,od,mBw,eN,mB,<-hhold] at hc2
       obtain⟨i,hi⟩:=eq_ofNat_of_zero_le hc2
       have hin:i<(cell a.row 8).ae.length:=by omega
       obtain⟨c,h1,h2,h3,h4⟩:=hH.2 i hin
       have hyl:=hH.1
       by_cases hne:c= -1
       · subst hne
         have hput:=GL hH hin hi h1
         by_cases hg:iP t
         · by_cases hgi:gi= -1
           · subst hgi
             have hgp:=yk hG (ht▸hg)
             simp[af,ht,mF,nK,od,mBw,eN,mB,<-hhold,hi,hin,hyl,hlk,h1,hg,e1]
             exact⟨by omega,⟨k,k+1,_,⟨rfl,by simp,rfl⟩,by omega,hput,hgp⟩,by omega⟩
           · have hz:=tK hG (by omega) (ht▸hg) hgi
             simp[af,ht,mF,nK,od,mBw,eN,mB,<-hhold,hi,hin,hyl,hlk,h1,hg,hgi,e1,bM _ |>.mpr hz]
             omega
         · have hgp:=vX hG (ht▸hg)
           simp[af,ht,mF,nK,od,mBw,eN,mB,<-hhold,hi,hin,hyl,hlk,h1,hg,e1]
           exact⟨by omega,⟨gi,k+1,_,⟨rfl,by simp,rfl⟩,by omega,hput,hgp⟩,by omega⟩
       · have hz:=Do hH hin (by omega) hi h1 hne
         simp[af,ht,mF,nK,od,mBw,eN,mB,<-hhold,hi,hin,hyl,hlk,h1,hne,bM _ |>.mpr hz]
     · simp[af,ht,mF,nK,od,mBw,eN,mB,<-hhold] at hc2
       have hkeep:=Gc hH hc2
       by_cases hg:iP t
       · by_cases hgi:gi= -1
         · subst hgi
           have hgp:=yk hG (ht▸hg)
           simp[af,ht,mF,nK,od,mBw,eN,mB,hlk,hg,e1]
           exact⟨by omega,⟨k,k+1,_,⟨rfl,by simp,rfl⟩,by omega,hkeep,hgp⟩,by omega⟩
         · have hz:=tK hG (by omega) (ht▸hg) hgi
           simp[af,ht,mF,nK,od,mBw,eN,mB,hlk,hg,hgi,bM _ |>.mpr hz]
           omega
       · have hgp:=vX hG (ht▸hg)
         simp[af,ht,mF,nK,od,mBw,eN,mB,hlk,hg,e1]
         exact⟨by omega,⟨gi,k+1,_,⟨rfl,by simp,rfl⟩,by omega,hkeep,hgp⟩,by omega⟩
   · simp[hlk] at hc
     have:k=5:=by omega
     subst this
     have hyl:=hH.1
     refine cq (s:=0) (N:=(cell a.row 8).ae.length) (fun i=>ag d3.ae i=[.int (sG a.row i)]) rfl (fun d=>by simp) hl (by omega) (fun h i h1 h2=>GY hh hH h h2) (fun i h1 hi _=> ?_) fun h i q=> ?_
     · obtain⟨c,q1,_⟩:=hH.2 i hi
       simp[af,hi,hyl,q1,sG]
       constructor<;>(intro h1 h2;exact h1 h2.symm)
     · have e:=GF hh hH hG fun i hi=>h i (by omega) hi
       simp[bY,e])
theorem NI{l:List (List D)}:aD (fun c=>(cell c 1).ae.length) l<=aD (am gA) l:=zd (fun c=>by have:=Dd c;omega) l
theorem y6{l:List (List D)}:ql l<=aD (am dw) l:=zd (fun p=>by have:=Fm p;have:= @NI (cell p 2).ae;omega) l
theorem Wu:GG N2:=gd (vc:=v175) [] (by simp) Tryz.func175 (args1 fun a hw hp=>by
 simp[N2,s7,wR,al] at hw hp
 show v175.wp Φ (fun l=>l=[.int (ql a.ae)]) [a] _
 refine fC (N:=a.ae.length) rfl (fun d d'=>by simp) (by omega) (fun i x=>x= .int (ql (a.ae.take i))) (by simp[ql,aD]) (fun i x hi _ hx=> ?_) fun x _ hx p=> ?_
 · subst hx
   have hs:ql (a.ae.take (i+1))=ql (a.ae.take i)+aD (fun c=>(cell c 1).ae.length) (cell (ag a.ae i) 2).ae:=dC _ hi
   have hb:ql (a.ae.take (i+1))<=aD (am dw) a.ae:=Nat.le_trans y6 (bO _)
   have hpt:=Fm (ag a.ae i)
   have hri:am dw (ag a.ae i)<=aD (am dw) a.ae:=cb hi
   rw[aJ]
   refine⟨by simp[hi],?_⟩
   refine fC (N:=(cell (ag a.ae i) 2).ae.length) rfl (fun d d'=>by simp[af]) (by omega) (fun k x=>x= .int ((ql (a.ae.take i):Int)+(aD (fun c=>(cell c 1).ae.length) ((cell (ag a.ae i) 2).ae.take k):Nat))) (by simp[aD]) (fun k x hk _ hx=> ?_) fun x _ hx p=> ?_
   · subst hx
     have hs2:aD (fun c=>(cell c 1).ae.length) ((cell (ag a.ae i) 2).ae.take (k+1))=aD (fun c=>(cell c 1).ae.length) ((cell (ag a.ae i) 2).ae.take k)+(cell (ag (cell (ag a.ae i) 2).ae k) 1).ae.length:=dC _ hk
     have hb2:aD (fun c=>(cell c 1).ae.length) ((cell (ag a.ae i) 2).ae.take (k+1))<=aD (fun c=>(cell c 1).ae.length) (cell (ag a.ae i) 2).ae:=bO _
     simp[af,hk]
     rw[hs2,w64 (by omega) (by omega)]
     simp;omega
   · subst hx
     rw[dO,cU (by decide)]
     have e:(cell (ag a.ae i) 2).ae.take (cell (ag a.ae i) 2).ae.length=(cell (ag a.ae i) 2).ae:=List.take_of_length_le (le_refl _)
     simp[hs,e]
 · subst hx
   simp)
theorem ng(f:List D->List D)(xs:List (List D)):(xs.flatMap fun r=>[f r]).length=xs.length:=by
 induction xs with
 |nil=>rfl
 |cons x xs ih=>rw[flatMap_cons,length_append,ih];simp;omega
theorem Fg(p:List D):(fP p).length=aD (fun c=>(cell c 1).ae.length) (cell p 2).ae:=by
 unfold fP
 generalize (cell p 2).ae=xs
 induction xs with
 |nil=>rfl
 |cons x xs ih=>rw[flatMap_cons,length_append,ih,ng];rfl
theorem xo(l:List (List D)):(jR l).length=ql l:=by
 unfold jR ql
 rw[i0]
 induction l with
 |nil=>rfl
 |cons x l ih=>rw[flatMap_cons,length_append,ih,Fg];rfl
theorem Vz:GG OT:=gd (vc:=v105) (hs:=[⟨4,[0],[],false⟩]) [HX,MW,N2,D0] (by simp[L6,RN,Wu,EV]) Tryz.func105 (args1 fun a hw hp=>by
 simp[OT,na,mBw] at hp
 have hst:=Dc a.row
 have hln:=xo (cell a.row 8).ae
 have hcn:= @y6 (cell a.row 8).ae
 have hc:(cell a.row 8).ae.length+aD (am dw) (cell a.row 8).ae<=1048576:=by omega
 show v105.wp Φ (fun l=>l=[.bool (tt (ii a.row))]) [a] _
 by_cases h1:je (cell a.row 8).ae∧((cell a.row 8).ae.length:Int)=(cell a.row 0).ZY∧(ql (cell a.row 8).ae:Int)<=(cell a.row 1).ZY
 · obtain⟨h1,h2,h3⟩:=h1
   have h3':¬(cell a.row 1).ZY<(ql (cell a.row 8).ae:Int):=by omega
   unfold v105
   rw[aJ,aO]
   refine⟨by simp[na,oV,nM,s7,eB,mBw,cR,mB,wR,h1,hc],fun h=> ?_,fun _=> ?_⟩
   · simp[na,oV,nM,s7,eB,mBw,cR,mB,wR,h1,h2,h3'] at h
   rw[aJ]
   refine⟨by simp[na,oV,nM,s7,eB,mBw,cR,mB,wR,hc],?_⟩
   refine df (s:=0) (N:=(jR (cell a.row 8).ae).length) (fun i=>iS (ag (jR (cell a.row 8).ae) i)) rfl (fun d=>by simp[na,oV,nM,s7,eB,mBw,cR,mB,wR]) (by omega) (by omega) (fun h i _ hi=>h.2.2.2 i hi) (fun i _ hi _=> ?_) fun h i q=> ?_
   · simp[na,oV,nM,s7,eB,mBw,cR,mB,wR,af,hi]
   · simp[bY]
     exact⟨h1,h2,h3,fun j hj=>h j (by omega) hj⟩
 · have hz:¬ii a.row:=fun h=>h1 ⟨h.1,h.2.1,h.2.2.1⟩
   unfold v105
   rw[aJ,aO]
   refine⟨by simp[na,oV,nM,s7,eB,mBw,cR,mB,wR,hc],fun _=>by simp[bM _ |>.mpr hz],fun h=> ?_⟩
   simp[na,oV,nM,s7,eB,mBw,cR,mB,wR] at h
   exact absurd ⟨h.1.1,h.1.2,h.2⟩ h1)
theorem X9:GG g87:=gd (vc:=v87) (hs:=[⟨5,[0],[],false⟩]) [Hf,Nf,CR] (by simp[L0,Wg,D6]) Tryz.func87 (args1 fun a hw hp=>by
 simp[g87,nQ,mBw] at hp
 have hst:=Dc a.row
 have hln:=xo (cell a.row 8).ae
 have hcn:= @y6 (cell a.row 8).ae
 have hc:(cell a.row 8).ae.length+aD (am dw) (cell a.row 8).ae<=1048576:=by omega
 show v87.wp Φ (fun l=>l=[.bool (tt (ii a.row))]) [a] _
 by_cases h1:je (cell a.row 8).ae∧((cell a.row 8).ae.length:Int)=(cell a.row 0).ZY
 · obtain⟨h1,h2⟩:=h1
   unfold v87
   rw[aJ,aO]
   refine⟨by simp[nQ,pk,pc,dF,mBw,cR,mB,h1,hc],fun h=> ?_,fun _=> ?_⟩
   · simp[nQ,pk,pc,dF,mBw,cR,mB,h1,h2] at h
   rw[aJ]
   refine⟨by simp[nQ,pk,pc,dF,mBw,cR,mB,hc],?_⟩
   refine cq (s:=0) (N:=(jR (cell a.row 8).ae).length) (fun i=>iS (ag (jR (cell a.row 8).ae) i)) rfl (fun d=>by simp[nQ,pk,pc,dF,mBw,cR,mB]) (by omega) (by omega) (fun h i _ hi=>h.2.2.2 i hi) (fun i _ hi _=> ?_) fun h i q=> ?_
   · simp[nQ,pk,pc,dF,mBw,cR,mB,af,hi]
   · simp[nQ,pk,pc,dF,mBw,cR,mB,bY,hln,ii,h1,h2]
     exact fun _ j hj=>h j (by omega) (by omega)
 · have hz:¬ii a.row:=fun h=>h1 ⟨h.1,h.2.1⟩
   unfold v87
   rw[aJ,aO]
   refine⟨by simp[nQ,pk,pc,dF,mBw,cR,mB,hc],fun _=>by simp[bM _ |>.mpr hz],fun h=> ?_⟩
   simp[nQ,pk,pc,dF,mBw,cR,mB] at h
   exact absurd h h1)
theorem Ih(xs:List (List D)):Go.Vx.rowAt xs 4=ag xs 4:=rfl
def jF(w:List D)(j:Nat):List D:=ag (cell w 14).ae j
def uh(w g:List D)(j:Nat):Prop:=(cell (jF w j) 1).ZY=(cell g 0).ZY∧(cell (jF w j) 0).ZY=yQ (cell g 2).ZY (cell g 3).ZY (cell w 3).ZY (cell w 4).ZY
def oq(w g:List D)(i:Nat):Prop:=((cell (ag (cell w 17).ae 4) 0).ZY=6∧(cell (ag (cell w 17).ae 4) 10).ZY=(cell g 0).ZY)∨∃j,j<i∧uh w g j
theorem rm{w g:List D}:oq w g 0↔((cell (ag (cell w 17).ae 4) 0).ZY=6∧(cell (ag (cell w 17).ae 4) 10).ZY=(cell g 0).ZY):=
 ⟨fun h=>h.elim id fun⟨j,hj,_⟩=>absurd hj (by omega),.inl⟩
theorem qi{w g:List D}{i:Nat}:oq w g (i+1)↔(oq w g i∨uh w g i):=by
 constructor
 · rintro(h|⟨j,hj,h⟩)
   · exact .inl (.inl h)
   · by_cases e:j=i
     · exact .inr (e▸h)
     · exact .inl (.inr ⟨j,by omega,h⟩)
 · rintro((h|⟨j,hj,h⟩)|h)
   · exact .inl h
   · exact .inr ⟨j,by omega,h⟩
   · exact .inr ⟨i,by omega,h⟩
theorem k9{w g:List D}:oq w g (cell w 14).ae.length↔y1 w g:=Iff.rfl
def un(w:List D)(i:Nat):Prop:=(cell (jF w i) 1).ZY<(cell w 13).ZY∧∀k,k<i->(cell (jF w k) 1).ZY≠(cell (jF w i) 1).ZY
def jZ(w:List D)(i:Nat):Prop:=y1 w (ag (cell w 12).ae i)∧(cell (ag (cell w 12).ae i) 2).ZY<=(cell w 7).ZY∧(cell (ag (cell w 12).ae i) 3).ZY<=(cell w 7).ZY∧(cell (ag (cell w 12).ae i) 0).ZY<(cell w 13).ZY
theorem XM:GG g93:=gd (vc:=v93) (hs:=[⟨4,[0],[],false⟩,⟨9,[0],[],false⟩,⟨14,[0],[],false⟩]) [Ke,NM,IN] (by simp[Mg,Wh,LD]) Tryz.func93 (args1 fun a hw hp=>by
 simp[g93,rH,mBw] at hp
 obtain⟨_,h5⟩:=hp
 show v93.wp Φ (fun l=>l=[.bool (tt (fc a.row))]) [a] _
 unfold v93
 by_cases h1:eA (cell a.row 12).ae (cell a.row 5).ae∧nD (cell a.row 14).ae
 · obtain⟨h1,h2⟩:=h1
   have hl12:=h1.1
   have hl14:=h2.1
   rw[aJ,aO]
   refine⟨by simp[rH,iV,wB,m9,mBw,mB,jC],fun h=> ?_,fun _=> ?_⟩
   · simp[rH,iV,wB,m9,mBw,mB,jC,h1,h2] at h
   refine bT (Φ:=Φ) (N:=(cell a.row 14).ae.length) rfl (fun _=>by simp) (by omega) (fun i=>∀j,j<i->un a.row j) (by omega) (fun i hi hI=> ?_) (fun hH p=> ?_)
   · have hz:¬un a.row i->¬fc a.row:=fun h h'=>h (h'.2.2.1 i hi)
     rw[aJ,aO]
     refine⟨by simp[hi],fun h=> ?_,fun hc=> ?_⟩
     · simp[af] at h
       have hz:=hz fun h'=>by have:=h'.1;simp only[jF] at this;omega
       simp[bM _ |>.mpr hz]
     · simp[af] at hc
       refine cq (s:=0) (N:=i) (fun k=>(cell (jF a.row k) 1).ZY≠(cell (jF a.row i) 1).ZY) rfl (fun d=>by simp) (by omega) (by omega) (fun h k _ hk=>(h.2.2.1 i hi).2 k hk) (fun k _ hk _=> ?_) fun h k q=> ?_
       · simp[af,hi,jF]
         omega
       · rw[dO,cU (by decide)]
         simp
         exact ce hI ⟨by simp only[jF];omega,fun k hk=>h k (by omega) hk⟩
   refine bT (Φ:=Φ) (N:=(cell a.row 12).ae.length) rfl (fun _=>by simp) (by omega) (fun i=>∀j,j<i->jZ a.row j) (by omega) (fun i hi hI=> ?_) (fun hG p=> ?_)
   · have hz:¬jZ a.row i->¬fc a.row:=fun h h'=>h (h'.2.2.2 i hi)
     rw[aJ,aJ]
     refine⟨by simp[hi],by simp[h5],?_⟩
     refine fC (N:=(cell a.row 14).ae.length) rfl (fun d d'=>by simp) (by omega) (fun k x=>x= .bool (tt (oq a.row (ag (cell a.row 12).ae i) k))) (by simp[af,rm,Ih]) (fun k x hk _ hx=> ?_) fun x _ hx p=> ?_
     · subst hx
       simp[rH,iV,wB,m9,mBw,mB,jC,af,hk,qi,uh,jF,bY]
     · subst hx
       by_cases hok:jZ a.row i
       · have:=ce hI hok
         obtain⟨k1,k2,k3,k4⟩:=hok
         have k1':=k9.2 k1
         simp[af,k1',cU (show(0:Nat)≠1 by decide)]
         grind
       · have hz:=bM _ |>.mpr (hz hok)
         simp[af,hz,k9]
         simp only[jZ] at hok
         grind
   · have:fc a.row:=⟨h1,h2,hH,hG⟩
     simp[bW _ |>.mpr this]
 · have hz:¬fc a.row:=fun h=>h1 ⟨h.1,h.2.1⟩
   rw[aJ,aO]
   refine⟨by simp[rH,iV,wB,m9,mBw,mB,jC],fun _=>by simp[bM _ |>.mpr hz],fun h=> ?_⟩
   simp[rH,iV,wB,m9,mBw,mB,jC] at h
   exact absurd h h1)
theorem UL:GG N1:=gd (vc:=M9) (hs:=[⟨4,[0],[],false⟩,⟨18,[0],[],false⟩,⟨23,[0],[],false⟩]) [Kj,M8,GM] (by simp[LH,SX,My]) Tryz.func110 (args1 fun a hw hp=>by
 simp[N1,qv,mBw] at hp
 obtain⟨_,h5⟩:=hp
 show M9.wp Φ (fun l=>l=[.bool (tt (fc a.row))]) [a] _
 unfold M9
 by_cases h1:eA (cell a.row 12).ae (cell a.row 5).ae∧nD (cell a.row 14).ae
 · obtain⟨h1,h2⟩:=h1
   have hl12:=h1.1
   have hl14:=h2.1
   rw[aJ,aO]
   refine⟨by simp[qv,l6,vL,n8,mBw,mB,jC],fun h=> ?_,fun _=> ?_⟩
   · simp[qv,l6,vL,n8,mBw,mB,jC,h1,h2] at h
   refine bT (Φ:=Φ) (N:=(cell a.row 12).ae.length) rfl (fun _=>by simp) (by omega) (fun i=>∀j,j<i->jZ a.row j) (by omega) (fun i hi hI=> ?_) (fun hG p=> ?_)
   · have hz:¬jZ a.row i->¬fc a.row:=fun h h'=>h (h'.2.2.2 i hi)
     rw[aJ,aO]
     refine⟨by simp[hi],fun h=> ?_,fun hc=> ?_⟩
     · simp[af] at h
       have hz:=hz fun h'=>by simp only[jZ] at h';omega
       simp[bM _ |>.mpr hz]
     rw[aJ]
     refine⟨by simp[h5],?_⟩
     refine fC (N:=(cell a.row 14).ae.length) rfl (fun d d'=>by simp) (by omega) (fun k x=>x= .bool (tt (oq a.row (ag (cell a.row 12).ae i) k))) (by simp[af,rm,Ih]) (fun k x hk _ hx=> ?_) fun x _ hx p=> ?_
     · subst hx
       simp[qv,l6,vL,n8,mBw,mB,jC,af,hk,qi,uh,jF,bY]
     · subst hx
       simp[af] at hc
       by_cases hok:y1 a.row (ag (cell a.row 12).ae i)
       · have:=ce (p:=fun j=>jZ a.row j) hI (show jZ a.row i from⟨hok,by omega,by omega,by omega⟩)
         simp[k9,hok,cU (show(0:Nat)≠1 by decide)]
         exact this
       · have hz:=bM _ |>.mpr (hz fun h=>hok h.1)
         simp[hz,k9,hok]
   refine bT (Φ:=Φ) (N:=(cell a.row 14).ae.length) rfl (fun _=>by simp) (by omega) (fun i=>∀j,j<i->un a.row j) (by omega) (fun i hi hI=> ?_) (fun hH p=> ?_)
   · have hz:¬un a.row i->¬fc a.row:=fun h h'=>h (h'.2.2.1 i hi)
     rw[aJ,aO]
     refine⟨by simp[hi],fun h=> ?_,fun hc=> ?_⟩
     · simp[af] at h
       have hz:=hz fun h'=>by have:=h'.1;simp only[jF] at this;omega
       simp[bM _ |>.mpr hz]
     · simp[af] at hc
       rw[aJ]
       refine⟨by simp;omega,?_⟩
       refine cq (s:=0) (N:=i) (fun k=>(cell (jF a.row k) 1).ZY≠(cell (jF a.row i) 1).ZY) rfl (fun d=>by simp;omega) (by omega) (by omega) (fun h k _ hk=>(h.2.2.1 i hi).2 k hk) (fun k _ hk _=> ?_) fun h k q=> ?_
       · simp[af,hi,jF,sO hk]
         omega
       · rw[dO,cU (by decide)]
         simp
         exact ce hI ⟨by simp only[jF];omega,fun k hk=>h k (by omega) hk⟩
   · have:fc a.row:=⟨h1,h2,hH,hG⟩
     simp[bW _ |>.mpr this]
 · have hz:¬fc a.row:=fun h=>h1 ⟨h.1,h.2.1⟩
   rw[aJ,aO]
   refine⟨by simp[qv,l6,vL,n8,mBw,mB,jC],fun _=>by simp[bM _ |>.mpr hz],fun h=> ?_⟩
   simp[qv,l6,vL,n8,mBw,mB,jC] at h
   exact absurd h h1)
theorem Fk{w:List D}{k:Nat}(hs:je (cell w 8).ae)(hp:gy w)(hk:jL w k):lw (ag (cell w 17).ae k) (cell w 8).ae.length<(cell w 8).ae.length:=by
 obtain⟨t,ht⟩:∃t,ag (cell w 17).ae k=t:=⟨_,rfl⟩
 have hn:=hs.1
 simp only[In] at hn
 simp only[gy] at hp
 unfold lw
 simp only[au,ht]
 have h1:=fun f=> @sw f (cell w 8).ae.length (by omega)
 split
 · omega
 split
 · exact h1 _
 split
 · exact h1 _
 split
 · rename_i h
   have h0:(cell t 0).ZY≠0:=by omega
   have:=(hk.2 (ht▸h0)).2.2.2.2.2
   rw[ht] at this
   have:=(this.2.2.2.1 h.1).2.1 (by omega)
   omega
 · omega
theorem K6{w:List D}(hs:ii w)(h5:(cell w 17).ae.length=5)(ht:∀k,k<5->jL w k):yr w:=
 ⟨h5,fun i hi=>(hs.1.2 i hi).2.1,fun k hk=>Fk hs.1 hs.2.1 (ht k hk)⟩
theorem Yt:GG g40:=gd (vc:=v40) [IH,qN,OT,JS,FR,N5,Wx,N1] (by simp[IW,mV,Vz,Md,Ej,RE,PX,UL]) Tryz.func40 (args1 fun a hw hp=>by
 simp[g40,CV,mBw] at hp
 show v40.wp Φ (fun l=>l=[.bool (tt (iO a.row))]) [a] _
 have hparts:ii a.row->gy a.row:=fun h=>h.2.1
 by_cases hc:jz a.row∧0<=(cell a.row 6).ZY∧0<=(cell a.row 13).ZY∧In (cell a.row 7).ZY 0 99899∧(cell a.row 17).ae.length=5
 · obtain⟨c1,c2,c3,c4,c5⟩:=hc
   have c2':¬(cell a.row 6).ZY<0:=by omega
   have c3':¬(cell a.row 13).ZY<0:=by omega
   have c4':=c4
   simp only[In] at c4'
   simp[v40,CV,mN,dX,na,pe,mK,oR,uP,qv,mBw,mB,hp,bY,c1,c2',c3',c4,c4',c5,In]
   simp only[iO,In]
   grind
 · have hz:¬iO a.row:=fun h=>hc ⟨h.1,h.2.1,h.2.2.1,h.2.2.2.1,h.2.2.2.2.2.2.1⟩
   unfold v40
   rw[aJ,aO]
   refine⟨by simp[CV,mN,dX,na,pe,mK,oR,uP,qv,mBw,mB],fun _=>by simp[bM _ |>.mpr hz],fun h=> ?_⟩
   simp[CV,mN,dX,na,pe,mK,oR,uP,qv,mBw,mB] at h
   simp only[In] at hc
   exact absurd ⟨h.1.1.1.1,h.1.1.1.2,h.1.1.2,h.1.2,by omega⟩ hc)
theorem ZN:GG g28:=gd (vc:=v28) (hs:=[⟨4,[0],[],false⟩,⟨9,[0],[],false⟩,⟨15,[0],[],false⟩]) [g85,g86,g87,g88,g89,g90,g91,g92,g93] (by simp[O8,wV,X9,NG,Vo,WQ,YW,ZG,XM]) Tryz.func28 (args1 fun a hw hp=>by
 simp[g28,tY,mBw] at hp
 show v28.wp Φ (fun l=>l=[.bool (tt (iO a.row))]) [a] _
 have hparts:ii a.row->gy a.row:=fun h=>h.2.1
 have hl9:=el hw.1 9 rfl
 have hl17:=el hw.1 17 rfl
 have hl18:=el hw.1 18 rfl
 unfold v28
 by_cases hc:jz a.row∧0<=(cell a.row 6).ZY∧0<=(cell a.row 13).ZY∧In (cell a.row 7).ZY 0 99899∧ii a.row∧((cell a.row 9).ae.length:Int)=(cell a.row 2).ZY∧(cell a.row 17).ae.length=5∧kS (cell a.row 10).ae∧kS (cell a.row 16).ae
 · obtain⟨c1,c2,c3,c4,c5,c6,c7,c8,c9⟩:=hc
   have c2':¬(cell a.row 6).ZY<0:=by omega
   have c3':¬(cell a.row 13).ZY<0:=by omega
   have hpt:=hparts c5
   rw[aJ,aO]
   refine⟨by simp[tY,lC,gF,nQ,j8,oK,lD,m0,mF,rH,mBw,mB,hp],fun h=> ?_,fun _=> ?_⟩
   · simp[tY,lC,gF,nQ,j8,oK,lD,m0,mF,rH,mBw,mB,c1,c2',c3',c4,c5,c6,c7,c8,c9] at h
     simp only[In] at c4
     exfalso;omega
   refine cq (s:=0) (N:=(cell a.row 9).ae.length) (fun i=>tW (ag (cell a.row 9).ae i)) rfl (fun d=>by simp) hl9 (by omega) (fun h i _ hi=>h.2.2.2.2.2.1.1 i hi) (fun i _ hi _=> ?_) fun hS i q=> ?_
   · simp[tY,lC,gF,nQ,j8,oK,lD,m0,mF,rH,mBw,mB,af,hi]
   refine df (s:=0) (N:=(cell a.row 18).ae.length) (zi a.row) rfl (fun d=>by simp) hl18 (by omega) (fun h i _ hi=>h.2.2.2.2.2.2.2.2.2.1 i hi) (fun i _ hi _=> ?_) fun hD i q=> ?_
   · simp[tY,lC,gF,nQ,j8,oK,lD,m0,mF,rH,mBw,mB,af,hi,zi]
     grind
   refine cq (s:=0) (N:=(cell a.row 17).ae.length) (jL a.row) rfl (fun d=>by simp) hl17 (by omega) (fun h i _ hi=>h.2.2.2.2.2.2.2.2.2.2.1 i hi) (fun i _ hi _=> ?_) fun hT i q=> ?_
   · simp[tY,lC,gF,nQ,j8,oK,lD,m0,mF,rH,mBw,mB,hp,hpt,hi]
   have hh:yr a.row:=K6 c5 c7 fun k hk=>hT k (by omega) (by omega)
   have hS':tD (cell a.row 9).ae (cell a.row 2).ZY:=⟨fun i hi=>hS i (by omega) hi,c6⟩
   have hD':nC a.row:=fun i hi=>hD i (by omega) hi
   have hT':nI a.row:=fun i hi=>hT i (by omega) hi
   simp[tY,lC,gF,nQ,j8,oK,lD,m0,mF,rH,mBw,mB,hp,hh,c7,bY]
   simp only[iO,In] at c4⊢
   grind
 · have hz:¬iO a.row:=fun h=>hc ⟨h.1,h.2.1,h.2.2.1,h.2.2.2.1,h.2.2.2.2.1,h.2.2.2.2.2.1.2,h.2.2.2.2.2.2.1,h.2.2.2.2.2.2.2.1,h.2.2.2.2.2.2.2.2.1⟩
   rw[aJ,aO]
   refine⟨by simp[tY,lC,gF,nQ,j8,oK,lD,m0,mF,rH,mBw,mB,hp],fun _=>by simp[bM _ |>.mpr hz],fun h=> ?_⟩
   simp[tY,lC,gF,nQ,j8,oK,lD,m0,mF,rH,mBw,mB] at h
   simp only[In] at hc
   exact absurd ⟨h.1.1.1.1.1.1.1.1,h.1.1.1.1.1.1.1.2,h.1.1.1.1.1.1.2,h.1.1.1.1.1.2,h.1.1.1.1.2,h.1.1.1.2,by omega,h.1.2,h.2⟩ hc)
end Go.Proofs.YtlkidecpmfhheaaGreat

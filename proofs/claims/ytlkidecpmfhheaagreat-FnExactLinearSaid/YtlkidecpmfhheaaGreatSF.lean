import Derived.Test.YtlkidecpmfhheaaGreatSM
set_option linter.all false
namespace Go.Proofs.YtlkidecpmfhheaaGreat
open Go.Vx
theorem Rd:GG NE:=gd (vc:=YN) (hs:=[⟨4,[0],[],false⟩]) [] (by simp) Tryz.func189 (args2 fun a b hw hp=>by
 simp[NE] at hw
 exact oD (Φ:=Φ) (a:=a) (b:=b) (p:=aH [.int .i64]) (tests:=[]) (t:=.op (.bin .neq .i64) [.op (.fld 0) [mkE (.var 0) (.var 2)],.op (.fld 0) [mkE (.var 1) (.var 2)]]) hw.1.1
  (fun i h1 h2=>⟨trivial,by simp[af,aR,a7,bA,bE,bl]⟩) _)
theorem VR:GG Pp:=gd (vc:=YA) (hs:=[⟨4,[0],[],false⟩]) [] (by simp) Tryz.func111 (args2 fun a b hw hp=>by
 simp[Pp] at hw
 exact oD (Φ:=Φ) (a:=a) (b:=b) (p:=aH [.str]) (tests:=[]) (t:=.op (.eF .neq) [.op (.fld 0) [mkE (.var 0) (.var 2)],.op (.fld 0) [mkE (.var 1) (.var 2)]]) hw.1.1
  (fun i h1 h2=>⟨trivial,by simp[af,aR,a7,bA,bE,bl]⟩) _)
theorem SU:GG O4:=gd (vc:=v152) [] (by simp) Tryz.func152 (args2 fun a b hw hp=>by
 simp[O4,show Φ 152=dT [.int .i64] from rfl,dT,cS] at hw hp
 exact HS (fun _=>rfl) hw.1.1 hp _)
theorem Zv:GG g77:=gd (vc:=v77) (hs:=[⟨5,[1],[],false⟩]) [] (by simp) Tryz.func77 (args2 fun a b hw hp=>by
 simp[g77,show Φ 77=dT [.str] from rfl,dT,cS] at hw hp
 exact Pk hw.1.1 hw.1.2 hp _)
theorem RZ:GG Oy:=gd (vc:=Y4) [] (by simp) Tryz.func172 (args1 fun a hw hp=>by
 simp[Oy,show Φ 172=dN [.int .i64] from rfl,dN,dH] at hw hp
 exact zE (Φ:=Φ) (a:=a) (tests:=[]) (src:=mkE (.var 0) (.var 1)) (bytes:=(TT 3).bytes) (tid:=3) (ks:=[.int .i64]) (ks':=[.int .i64]) (by decide) rfl (fun _=>rfl) (fun i x hi=>⟨trivial,fun j hj=>by
  have hj0:j=0:=by simp at hj;omega
  subst hj0
  simp only[dZ,bF,aq,ay,D.aI,af,D.fj,cw,cnD]⟩) hp _)
theorem ZP:GG g94:=gd (vc:=v94) [] (by simp) Tryz.func94 (args1 fun a hw hp=>by
 simp[g94,show Φ 94=dN [.str] from rfl,dN,dH] at hw hp
 exact zE (Φ:=Φ) (a:=a) (tests:=[]) (src:=mkE (.var 0) (.var 1)) (bytes:=(TT 9).bytes) (tid:=9) (ks:=[.str]) (ks':=[.str]) (by decide) rfl (fun _=>rfl) (fun i x hi=>⟨trivial,fun j hj=>by
  have hj0:j=0:=by simp at hj;omega
  subst hj0
  simp only[dZ,bF,aq,ay,D.aI,af,D.fj,cw,cnD]⟩) hp _)
theorem Un:GG NK:=gd (vc:=Vj) [] (by simp[]) Tryz.func256 (args2 fun a b hw hp=>by
 simp[Vj,MV,aN,aF,NK,aR,a7,bA,bE,bl,cD]
 simp+contextual<;>(intros;simp_all))
theorem BF:GG Ds:=gd (vc:=Yx) (hs:=[⟨4,[0],[],false⟩]) [NK] (by simpa using Un) Tryz.func188 (args2 fun a b hw hp=>by
 simp[Ds] at hw
 exact gv (Φ:=Φ) (a:=a) (b:=b) (p:=aH aC) (tests:=[.op (.fn 256 1000) [mkE (.var 0) (.var 2),mkE (.var 1) (.var 2)]]) (t:=.op (.fn 256 0) [mkE (.var 0) (.var 2),mkE (.var 1) (.var 2)]) hw.1.1
  (fun i h1 h2=>by simp only[ci,dq,b9,aS,a8,jG,dZ,bF,MV,aN,fV,dM,aq,ay,D.aI,D.aK,af,aq,ay,D.fj];exact⟨⟨trivial,trivial⟩,trivial⟩) _)
theorem Jc:GG Is:=gd (vc:=US) [Ds] (by simp[BF]) Tryz.func114 (args2 fun a b hw hp=>by
 simp[US,Em,Bu,aN,aF,Is,aR,a7,bA,bE,bl,cD]
 simp+contextual<;>(intros;simp_all))
theorem CM:GG g46:=gd (vc:=v46) (hs:=[⟨4,[0],[],false⟩]) [Is] (by simpa using Jc) Tryz.func46 (args2 fun a b hw hp=>by
 simp[g46] at hw
 exact gv (Φ:=Φ) (a:=a) (b:=b) (p:=aH aj) (tests:=[.op (.fn 114 1000) [mkE (.var 0) (.var 2),mkE (.var 1) (.var 2)]]) (t:=.op (.fn 114 0) [mkE (.var 0) (.var 2),mkE (.var 1) (.var 2)]) hw.1.1
  (fun i h1 h2=>by simp only[ci,dq,b9,aS,a8,jG,dZ,bF,Em,aN,fV,dM,aq,ay,D.aI,D.aK,af,aq,ay,D.fj];exact⟨⟨trivial,trivial⟩,trivial⟩) _)
theorem T6:GG OQ:=gd (vc:=PZ) [g46] (by simp[CM]) Tryz.func255 (args2 fun a b hw hp=>by
 simp[PZ,LW,CQ,aN,aF,OQ,aR,a7,bA,bE,bl,cD]
 simp+contextual<;>(intros;simp_all))
theorem Us:GG NC:=gd (vc:=WL) [g46] (by simp[CM]) Tryz.func113 (args2 fun a b hw hp=>by
 simp[WL,MH,CQ,aN,aF,NC,aR,a7,bA,bE,bl,cD]
 simp+contextual<;>(intros;simp_all))
theorem UZ:GG NR:=gd (vc:=SH) [] (by simp[]) Tryz.func116 (args2 fun a b hw hp=>by
 simp[SH,L7,aN,aF,NR,aR,a7,bA,bE,bl,cD]
 simp+contextual<;>(intros;simp_all))
theorem Ra:GG NH:=gd (vc:=v222) [] (by simp[]) Tryz.func222 (args2 fun a b hw hp=>by
 simp[NH,show Φ 222=dY cf from rfl,dY,cS] at hw hp
 have:=fL (Φ:=Φ) (env:=[a,b]) (B:=fun _ _=>False) [.s (.op (.fld 0) [.var 0]),.s (.op (.fld 1) [.var 0])] [(cell a.row 0).ao.size,(cell a.row 1).ao.size] (.var 1) b.ZY (by simp+contextual [pQ,hw,dT,dY,cS,szD]) rfl (by simp) hp.1 hp.2
 have e:am cf a.row=eW [(cell a.row 0).ao.size,(cell a.row 1).ao.size]:=by simp[aw,aA,szD,eW]<;>omega
 show v222.wp Φ (fun l=>l=[.int (szM (am cf a.row) b.ZY)]) [a,b] _
 rw[e]
 exact this)
theorem zW:GG DT:=gd (vc:=YS) (hs:=[⟨5,[1],[],false⟩]) [NH] (by simpa using Ra) Tryz.func151 (args2 fun a b hw hp=>by
 simp[DT,xw,dT,cS] at hw hp
 exact mD (c:=222) (ks:=cf) rfl hw.1.1 hp _)
theorem Pl:GG g80:=gd (vc:=v80) [DT] (by simp[zW]) Tryz.func80 (args2 fun a b hw hp=>by
 simp[g80,M3,dY,cS] at hw hp
 have:=fL (Φ:=Φ) (env:=[a,b]) (B:=fun _ _=>False) [.c 151 (.op (.fld 0) [.var 0]),.s (.op (.fld 3) [.var 0])] [szD (.sl 238 cf) (cell a.row 0),(cell a.row 3).ao.size] (.var 1) b.ZY (by simp+contextual [pQ,hw,xw,dT,dY,cS,szD]) rfl (by simp) hp.1 hp.2
 have e:am bo a.row=eW [szD (.sl 238 cf) (cell a.row 0),(cell a.row 3).ao.size]:=by simp[aw,aA,szD,eW]<;>omega
 show v80.wp Φ (fun l=>l=[.int (szM (am bo a.row) b.ZY)]) [a,b] _
 rw[e]
 exact this)
theorem DX:GG g22:=gd (vc:=v22) (hs:=[⟨5,[1],[],false⟩]) [g80] (by simpa using Pl) Tryz.func22 (args2 fun a b hw hp=>by
 simp[g22,Ac,dT,cS] at hw hp
 exact mD (c:=80) (ks:=bo) rfl hw.1.1 hp _)
theorem Rg:GG O0:=gd (vc:=T4) [g22] (by simp[DX]) Tryz.func221 (args2 fun a b hw hp=>by
 simp[O0,show Φ 221=dY fb from rfl,dY,cS] at hw hp
 have:=fL (Φ:=Φ) (env:=[a,b]) (B:=fun _ _=>False) [.c 22 (.op (.fld 1) [.var 0])] [szD (.sl 114 bo) (cell a.row 1)] (.var 1) b.ZY (by simp+contextual [pQ,hw,Ac,dT,dY,cS,szD]) rfl (by simp) hp.1 hp.2
 have e:am fb a.row=eW [szD (.sl 114 bo) (cell a.row 1)]:=by simp[aw,aA,szD,eW]<;>omega
 show T4.wp Φ (fun l=>l=[.int (szM (am fb a.row) b.ZY)]) [a,b] _
 rw[e]
 exact this)
theorem ZI:GG g79:=gd (vc:=v79) [g22] (by simp[DX]) Tryz.func79 (args2 fun a b hw hp=>by
 simp[g79,show Φ 79=dY kI from rfl,dY,cS] at hw hp
 have:=fL (Φ:=Φ) (env:=[a,b]) (B:=fun _ _=>False) [.c 22 (.op (.fld 0) [.var 0])] [szD (.sl 114 bo) (cell a.row 0)] (.var 1) b.ZY (by simp+contextual [pQ,hw,Ac,dT,dY,cS,szD]) rfl (by simp) hp.1 hp.2
 have e:am kI a.row=eW [szD (.sl 114 bo) (cell a.row 0)]:=by simp[aw,aA,szD,eW]<;>omega
 show v79.wp Φ (fun l=>l=[.int (szM (am kI a.row) b.ZY)]) [a,b] _
 rw[e]
 exact this)
theorem So:GG KS:=gd (vc:=Ta) [] (by simp[]) Tryz.func238 (args1 fun a hw hp=>by
 simp[KS,ML,dK,eS,aw,aA,szD] at hp
 simp[Ta,ML,dK,dN,eS,dH,aw,aA,szD,KS,cw,fA,cnD]<;>omega)
theorem Ce:GG Dr:=gd (vc:=v171) [KS] (by simpa using So) Tryz.func171 (args1 fun a hw hp=>by
 simp[Dr,yE,dN,dH] at hw hp
 exact lz (Φ:=Φ) (a:=a) (c:=238) (bytes:=(TT 220).bytes) (tid:=220) (ks:=cf) (ks':=aC) (by decide) rfl (fun _=>rfl) rfl hp _)
theorem OW:GG g97:=gd (vc:=v97) [Dr] (by simp[Ce]) Tryz.func97 (args1 fun a hw hp=>by
 simp[g97,Kx,dK,eS,aw,aA,szD] at hp
 simp[v97,Kx,yE,dK,dN,eS,dH,aw,aA,szD,g97,cw,fA,cnD]<;>omega)
theorem De:GG g34:=gd (vc:=v34) [g97] (by simpa using OW) Tryz.func34 (args1 fun a hw hp=>by
 simp[g34,Be,dN,dH] at hw hp
 exact lz (Φ:=Φ) (a:=a) (c:=97) (bytes:=(TT 135).bytes) (tid:=135) (ks:=bo) (ks':=aj) (by decide) rfl (fun _=>rfl) rfl hp _)
theorem R7:GG J1:=gd (vc:=UX) [g34] (by simp[De]) Tryz.func237 (args1 fun a hw hp=>by
 simp[J1,MD,dK,eS,aw,aA,szD] at hp
 simp[UX,MD,Be,dK,dN,eS,dH,aw,aA,szD,J1,cw,fA,cnD]<;>omega)
theorem XT:GG g96:=gd (vc:=v96) [g34] (by simp[De]) Tryz.func96 (args1 fun a hw hp=>by
 simp[g96,V9,dK,eS,aw,aA,szD] at hp
 simp[v96,V9,Be,dK,dN,eS,dH,aw,aA,szD,g96,cw,fA,cnD]<;>omega)
theorem Za:GG g99:=gd (vc:=v99) [] (by simp[]) Tryz.func99 (args1 fun a hw hp=>by
 simp[g99,Wf,dK,eS,aw,aA,szD] at hp
 simp[v99,Wf,dK,dN,eS,dH,aw,aA,szD,g99,cw,fA,cnD]<;>omega)
theorem WN:GG Px:=gd (vc:=YP) (hs:=[⟨4,[0],[],false⟩]) [OQ] (by simpa using T6) Tryz.func187 (args2 fun a b hw hp=>by
 simp[Px] at hw
 exact gv (Φ:=Φ) (a:=a) (b:=b) (p:=aH gA) (tests:=[.op (.fn 255 1000) [mkE (.var 0) (.var 2),mkE (.var 1) (.var 2)]]) (t:=.op (.fn 255 0) [mkE (.var 0) (.var 2),mkE (.var 1) (.var 2)]) hw.1.1
  (fun i h1 h2=>by simp only[ci,dq,b9,aS,a8,jG,dZ,bF,LW,aN,fV,dM,aq,ay,D.aI,D.aK,af,aq,ay,D.fj];exact⟨⟨trivial,trivial⟩,trivial⟩) _)
theorem Zn:GG g45:=gd (vc:=v45) (hs:=[⟨4,[0],[],false⟩]) [NC] (by simpa using Us) Tryz.func45 (args2 fun a b hw hp=>by
 simp[g45] at hw
 exact gv (Φ:=Φ) (a:=a) (b:=b) (p:=aH de) (tests:=[.op (.fn 113 1000) [mkE (.var 0) (.var 2),mkE (.var 1) (.var 2)]]) (t:=.op (.fn 113 0) [mkE (.var 0) (.var 2),mkE (.var 1) (.var 2)]) hw.1.1
  (fun i h1 h2=>by simp only[ci,dq,b9,aS,a8,jG,dZ,bF,MH,aN,fV,dM,aq,ay,D.aI,D.aK,af,aq,ay,D.fj];exact⟨⟨trivial,trivial⟩,trivial⟩) _)
theorem Yw:GG g48:=gd (vc:=v48) (hs:=[⟨4,[0],[],false⟩]) [NR] (by simpa using UZ) Tryz.func48 (args2 fun a b hw hp=>by
 simp[g48] at hw
 exact gv (Φ:=Φ) (a:=a) (b:=b) (p:=aH pz) (tests:=[.op (.fn 116 1000) [mkE (.var 0) (.var 2),mkE (.var 1) (.var 2)]]) (t:=.op (.fn 116 0) [mkE (.var 0) (.var 2),mkE (.var 1) (.var 2)]) hw.1.1
  (fun i h1 h2=>by simp only[ci,dq,b9,aS,a8,jG,dZ,bF,L7,aN,fV,dM,aq,ay,D.aI,D.aK,af,aq,ay,D.fj];exact⟨⟨trivial,trivial⟩,trivial⟩) _)
theorem W3:GG N6:=gd (vc:=YF) (hs:=[⟨5,[1],[],false⟩]) [O0] (by simpa using Rg) Tryz.func150 (args2 fun a b hw hp=>by
 simp[N6,MM,dT,cS] at hw hp
 exact mD (c:=221) (ks:=fb) rfl hw.1.1 hp _)
theorem Zd:GG g21:=gd (vc:=v21) (hs:=[⟨5,[1],[],false⟩]) [g79] (by simpa using ZI) Tryz.func21 (args2 fun a b hw hp=>by
 simp[g21,RB,dT,cS] at hw hp
 exact mD (c:=79) (ks:=kI) rfl hw.1.1 hp _)
theorem Yp:GG g24:=gd (vc:=v24) [] (by simp) Tryz.func24 (args2 fun a b hw hp=>by
 simp[g24,RL,dT,cS] at hw hp
 exact HS (fun _=>rfl) hw.1.1 hp _)
theorem Uk:GG Pq:=gd (vc:=ZF) [J1] (by simpa using R7) Tryz.func170 (args1 fun a hw hp=>by
 simp[Pq,LK,dN,dH] at hw hp
 exact lz (Φ:=Φ) (a:=a) (c:=237) (bytes:=(TT 218).bytes) (tid:=218) (ks:=fb) (ks':=gA) (by decide) rfl (fun _=>rfl) rfl hp _)
theorem Y6:GG g33:=gd (vc:=v33) [g96] (by simpa using XT) Tryz.func33 (args1 fun a hw hp=>by
 simp[g33,TN,dN,dH] at hw hp
 exact lz (Φ:=Φ) (a:=a) (c:=96) (bytes:=(TT 132).bytes) (tid:=132) (ks:=kI) (ks':=de) (by decide) rfl (fun _=>rfl) rfl hp _)
theorem XR:GG g36:=gd (vc:=v36) [g99] (by simpa using Za) Tryz.func36 (args1 fun a hw hp=>by
 simp[g36,VN,dN,dH] at hw hp
 exact lz (Φ:=Φ) (a:=a) (c:=99) (bytes:=(TT 143).bytes) (tid:=143) (ks:=jm) (ks':=pz) (by decide) rfl (fun _=>rfl) rfl hp _)
theorem WU:GG Pc:=gd (vc:=Ug) [Px] (by simp[WN]) Tryz.func112 (args2 fun a b hw hp=>by
 simp[Ug,Mh,show Φ 187=aF gA from rfl,aN,aF,Pc,aR,a7,bA,bE,bl,cD]
 simp+contextual<;>(intros;simp_all))
theorem YZ:GG g78:=gd (vc:=v78) [N6] (by simp[W3]) Tryz.func78 (args2 fun a b hw hp=>by
 simp[g78,show Φ 78=dY gW from rfl,dY,cS] at hw hp
 have:=fL (Φ:=Φ) (env:=[a,b]) (B:=fun _ _=>False) [.c 150 (.op (.fld 2) [.var 0])] [szD (.sl 236 fb) (cell a.row 2)] (.var 1) b.ZY (by simp+contextual [pQ,hw,MM,dT,dY,cS,szD]) rfl (by simp) hp.1 hp.2
 have e:am gW a.row=eW [szD (.sl 236 fb) (cell a.row 2)]:=by simp[aw,aA,szD,eW]<;>omega
 show v78.wp Φ (fun l=>l=[.int (szM (am gW a.row) b.ZY)]) [a,b] _
 rw[e]
 exact this)
theorem Ym:GG g95:=gd (vc:=v95) [Pq] (by simp[Uk]) Tryz.func95 (args1 fun a hw hp=>by
 simp[g95,Sl,dK,eS,aw,aA,szD] at hp
 simp[v95,Sl,LK,dK,dN,eS,dH,aw,aA,szD,g95,cw,fA,cnD]<;>omega)
theorem Ze:GG g44:=gd (vc:=v44) (hs:=[⟨4,[0],[],false⟩]) [Pc] (by simpa using WU) Tryz.func44 (args2 fun a b hw hp=>by
 simp[g44] at hw
 exact gv (Φ:=Φ) (a:=a) (b:=b) (p:=aH dw) (tests:=[.op (.fn 112 1000) [mkE (.var 0) (.var 2),mkE (.var 1) (.var 2)]]) (t:=.op (.fn 112 0) [mkE (.var 0) (.var 2),mkE (.var 1) (.var 2)]) hw.1.1
  (fun i h1 h2=>by simp only[ci,dq,b9,aS,a8,jG,dZ,bF,Mh,aN,fV,dM,aq,ay,D.aI,D.aK,af,aq,ay,D.fj];exact⟨⟨trivial,trivial⟩,trivial⟩) _)
theorem Ya:GG g20:=gd (vc:=v20) (hs:=[⟨5,[1],[],false⟩]) [g78] (by simpa using YZ) Tryz.func20 (args2 fun a b hw hp=>by
 simp[g20,Tz,dT,cS] at hw hp
 exact mD (c:=78) (ks:=gW) rfl hw.1.1 hp _)
theorem Y2:GG g32:=gd (vc:=v32) [g95] (by simpa using Ym) Tryz.func32 (args1 fun a hw hp=>by
 simp[g32,Sm,dN,dH] at hw hp
 exact lz (Φ:=Φ) (a:=a) (c:=95) (bytes:=(TT 147).bytes) (tid:=147) (ks:=gW) (ks':=dw) (by decide) rfl (fun _=>rfl) rfl hp _)
theorem VE:GG N3:=gd (vc:=v117) [g46,Ds] (by simp[CM,BF]) Tryz.func117 (args2 fun a b hw hp=>by
 simp[v117,MB,CQ,Bu,aN,aF,N3,aR,a7,bA,bE,bl,cD]
 simp+contextual<;>(intros;simp_all))
theorem Yu:GG g82:=gd (vc:=v82) [g22,DT] (by simp[DX,zW]) Tryz.func82 (args2 fun a b hw hp=>by
 simp[g82,show Φ 82=dY fk from rfl,dY,cS] at hw hp
 have:=fL (Φ:=Φ) (env:=[a,b]) (B:=fun _ _=>False) [.c 151 (.op (.fld 1) [.var 0]),.c 22 (.op (.fld 3) [.var 0])] [szD (.sl 238 cf) (cell a.row 1),szD (.sl 114 bo) (cell a.row 3)] (.var 1) b.ZY (by simp+contextual [pQ,hw,Ac,xw,dT,dY,cS,szD]) rfl (by simp) hp.1 hp.2
 have e:am fk a.row=eW [szD (.sl 238 cf) (cell a.row 1),szD (.sl 114 bo) (cell a.row 3)]:=by simp[aw,aA,szD,eW]<;>omega
 show v82.wp Φ (fun l=>l=[.int (szM (am fk a.row) b.ZY)]) [a,b] _
 rw[e]
 exact this)
theorem TL:GG J3:=gd (vc:=PQ) [g34,Dr] (by simp[De,Ce]) Tryz.func100 (args1 fun a hw hp=>by
 simp[J3,L9,dK,eS,aw,aA,szD] at hp
 simp[PQ,L9,Be,yE,dK,dN,eS,dH,aw,aA,szD,J3,cw,fA,cnD]<;>omega)
theorem Yc:GG g49:=gd (vc:=v49) (hs:=[⟨4,[0],[],false⟩]) [N3] (by simpa using VE) Tryz.func49 (args2 fun a b hw hp=>by
 simp[g49] at hw
 exact gv (Φ:=Φ) (a:=a) (b:=b) (p:=aH py) (tests:=[.op (.fn 117 1000) [mkE (.var 0) (.var 2),mkE (.var 1) (.var 2)]]) (t:=.op (.fn 117 0) [mkE (.var 0) (.var 2),mkE (.var 1) (.var 2)]) hw.1.1
  (fun i h1 h2=>by simp only[ci,dq,b9,aS,a8,jG,dZ,bF,MB,aN,fV,dM,aq,ay,D.aI,D.aK,af,aq,ay,D.fj];exact⟨⟨trivial,trivial⟩,trivial⟩) _)
theorem XD:GG g25:=gd (vc:=v25) (hs:=[⟨5,[1],[],false⟩]) [g82] (by simpa using Yu) Tryz.func25 (args2 fun a b hw hp=>by
 simp[g25,Ub,dT,cS] at hw hp
 exact mD (c:=82) (ks:=fk) rfl hw.1.1 hp _)
theorem XI:GG g37:=gd (vc:=v37) [J3] (by simpa using TL) Tryz.func37 (args1 fun a hw hp=>by
 simp[g37,Uj,dN,dH] at hw hp
 exact lz (Φ:=Φ) (a:=a) (c:=100) (bytes:=(TT 157).bytes) (tid:=157) (ks:=fk) (ks':=py) (by decide) rfl (fun _=>rfl) rfl hp _)
theorem UA:GG Pn:=gd (vc:=Vw) [g46,Ds] (by simp[CM,BF]) Tryz.func115 (args2 fun a b hw hp=>by
 simp[Vw,Mw,CQ,Bu,aN,aF,Pn,aR,a7,bA,bE,bl,cD]
 simp+contextual<;>(intros;simp_all))
theorem YR:GG g81:=gd (vc:=v81) [g22,DT] (by simp[DX,zW]) Tryz.func81 (args2 fun a b hw hp=>by
 simp[g81,show Φ 81=dY fq from rfl,dY,cS] at hw hp
 have:=fL (Φ:=Φ) (env:=[a,b]) (B:=fun _ _=>False) [.c 151 (.op (.fld 1) [.var 0]),.c 22 (.op (.fld 4) [.var 0])] [szD (.sl 238 cf) (cell a.row 1),szD (.sl 114 bo) (cell a.row 4)] (.var 1) b.ZY (by simp+contextual [pQ,hw,Ac,xw,dT,dY,cS,szD]) rfl (by simp) hp.1 hp.2
 have e:am fq a.row=eW [szD (.sl 238 cf) (cell a.row 1),szD (.sl 114 bo) (cell a.row 4)]:=by simp[aw,aA,szD,eW]<;>omega
 show v81.wp Φ (fun l=>l=[.int (szM (am fq a.row) b.ZY)]) [a,b] _
 rw[e]
 exact this)
theorem Yi:GG g98:=gd (vc:=v98) [g34,Dr] (by simp[De,Ce]) Tryz.func98 (args1 fun a hw hp=>by
 simp[g98,VF,dK,eS,aw,aA,szD] at hp
 simp[v98,VF,Be,yE,dK,dN,eS,dH,aw,aA,szD,g98,cw,fA,cnD]<;>omega)
theorem Yq:GG g47:=gd (vc:=v47) (hs:=[⟨4,[0],[],false⟩]) [Pn] (by simpa using UA) Tryz.func47 (args2 fun a b hw hp=>by
 simp[g47] at hw
 exact gv (Φ:=Φ) (a:=a) (b:=b) (p:=aH aM) (tests:=[.op (.fn 115 1000) [mkE (.var 0) (.var 2),mkE (.var 1) (.var 2)]]) (t:=.op (.fn 115 0) [mkE (.var 0) (.var 2),mkE (.var 1) (.var 2)]) hw.1.1
  (fun i h1 h2=>by simp only[ci,dq,b9,aS,a8,jG,dZ,bF,Mw,aN,fV,dM,aq,ay,D.aI,D.aK,af,aq,ay,D.fj];exact⟨⟨trivial,trivial⟩,trivial⟩) _)
theorem Yl:GG g23:=gd (vc:=v23) (hs:=[⟨5,[1],[],false⟩]) [g81] (by simpa using YR) Tryz.func23 (args2 fun a b hw hp=>by
 simp[g23,Rp,dT,cS] at hw hp
 exact mD (c:=81) (ks:=fq) rfl hw.1.1 hp _)
theorem Yv:GG g35:=gd (vc:=v35) [g98] (by simpa using Yi) Tryz.func35 (args1 fun a hw hp=>by
 simp[g35,UR,dN,dH] at hw hp
 exact lz (Φ:=Φ) (a:=a) (c:=98) (bytes:=(TT 152).bytes) (tid:=152) (ks:=fq) (ks':=aM) (by decide) rfl (fun _=>rfl) rfl hp _)
theorem Zs:GG g43:=gd (vc:=v43) [Pp] (by simp[VR]) Tryz.func43 (args2 fun a b hw hp=>by
 simp[v43,Vh,show Φ 111=aF [.str] from rfl,aN,aF,g43,aR,a7,bA,bE,bl,cD]
 simp+contextual<;>(intros;simp_all))
theorem Yo:GG g19:=gd (vc:=v19) [g77] (by simp[Zv]) Tryz.func19 (args2 fun a b hw hp=>by
 simp[g19,Sc,dY,cS] at hw hp
 have:=fL (Φ:=Φ) (env:=[a,b]) (B:=fun _ _=>False) [.c 77 (.op (.fld 5) [.var 0])] [szD (.sl 9 [.str]) (cell a.row 5)] (.var 1) b.ZY (by simp+contextual [pQ,hw,show Φ 77=dT [.str] from rfl,dT,dY,cS,szD]) rfl (by simp) hp.1 hp.2
 have e:am oe a.row=eW [szD (.sl 9 [.str]) (cell a.row 5)]:=by simp[aw,aA,szD,eW]<;>omega
 show v19.wp Φ (fun l=>l=[.int (szM (am oe a.row) b.ZY)]) [a,b] _
 rw[e]
 exact this)
theorem Zj:GG g31:=gd (vc:=v31) [g94] (by simp[ZP]) Tryz.func31 (args1 fun a hw hp=>by
 simp[g31,Nk,dK,eS,aw,aA,szD] at hp
 simp[v31,Nk,show Φ 94=dN [.str] from rfl,dK,dN,eS,dH,aw,aA,szD,g31,cw,fA,cnD]<;>omega)
theorem Tf:GG Pu:=gd (vc:=T9) [g46,Is,Ds,NE] (by simp[CM,Jc,BF,Rd]) Tryz.func118 (args2 fun a b hw hp=>by
 simp[T9,LF,CQ,Em,Bu,show Φ 189=aF [.int .i64] from rfl,aN,aF,Pu,aR,a7,bA,bE,bl,cD]
 simp+contextual<;>(intros;simp_all))
theorem Ys:GG g83:=gd (vc:=v83) [g22,g80,DT,O4] (by simp[DX,Pl,zW,SU]) Tryz.func83 (args2 fun a b hw hp=>by
 simp[g83,show Φ 83=dY gV from rfl,dY,cS] at hw hp
 have:=fL (Φ:=Φ) (env:=[a,b]) (B:=fun _ _=>False) [.c 80 (.op .mk [.op (.fld 2) [.var 0],.op (.fld 3) [.var 0],.op (.fld 4) [.var 0],.op (.fld 5) [.var 0]]),.c 151 (.op (.fld 6) [.var 0]),.c 152 (.op (.fld 8) [.var 0]),.c 22 (.op (.fld 9) [.var 0])] [am bo [cell a.row 2,cell a.row 3,cell a.row 4,cell a.row 5],szD (.sl 238 cf) (cell a.row 6),szD (.sl 3 [.int .i64]) (cell a.row 8),szD (.sl 114 bo) (cell a.row 9)] (.var 1) b.ZY (by simp+contextual [pQ,hw,Ac,M3,xw,show Φ 152=dT [.int .i64] from rfl,dT,dY,cS,szD]) rfl (by simp) hp.1 hp.2
 have e:am gV a.row=eW [am bo [cell a.row 2,cell a.row 3,cell a.row 4,cell a.row 5],szD (.sl 238 cf) (cell a.row 6),szD (.sl 3 [.int .i64]) (cell a.row 8),szD (.sl 114 bo) (cell a.row 9)]:=by simp[aw,aA,szD,eW]<;>omega
 show v83.wp Φ (fun l=>l=[.int (szM (am gV a.row) b.ZY)]) [a,b] _
 rw[e]
 exact this)
theorem TK:GG Ls:=gd (vc:=PY) [g34,g97,Dr,Oy] (by simp[De,OW,Ce,RZ]) Tryz.func101 (args1 fun a hw hp=>by
 simp[Ls,ME,dK,eS,aw,aA,szD] at hp
 simp[PY,ME,Be,Kx,yE,show Φ 172=dN [.int .i64] from rfl,dK,dN,eS,dH,aw,aA,szD,Ls,cw,fA,cnD]<;>omega)
theorem ZA:GG g50:=gd (vc:=v50) (hs:=[⟨4,[0],[],false⟩]) [Pu] (by simpa using Tf) Tryz.func50 (args2 fun a b hw hp=>by
 simp[g50] at hw
 exact gv (Φ:=Φ) (a:=a) (b:=b) (p:=aH ma) (tests:=[.op (.fn 118 1000) [mkE (.var 0) (.var 2),mkE (.var 1) (.var 2)]]) (t:=.op (.fn 118 0) [mkE (.var 0) (.var 2),mkE (.var 1) (.var 2)]) hw.1.1
  (fun i h1 h2=>by simp only[ci,dq,b9,aS,a8,jG,dZ,bF,LF,aN,fV,dM,aq,ay,D.aI,D.aK,af,aq,ay,D.fj];exact⟨⟨trivial,trivial⟩,trivial⟩) _)
theorem XF:GG g26:=gd (vc:=v26) (hs:=[⟨5,[1],[],false⟩]) [g83] (by simpa using Ys) Tryz.func26 (args2 fun a b hw hp=>by
 simp[g26,SE,dT,cS] at hw hp
 exact mD (c:=83) (ks:=gV) rfl hw.1.1 hp _)
theorem YH:GG g38:=gd (vc:=v38) [Ls] (by simpa using TK) Tryz.func38 (args1 fun a hw hp=>by
 simp[g38,Wd,dN,dH] at hw hp
 exact lz (Φ:=Φ) (a:=a) (c:=101) (bytes:=(TT 141).bytes) (tid:=141) (ks:=gV) (ks':=ma) (by decide) rfl (fun _=>rfl) rfl hp _)
theorem P7:GG Ot:=gd (vc:=U0) [g46,Is,Ds] (by simp[CM,Jc,BF]) Tryz.func119 (args2 fun a b hw hp=>by
 simp[U0,MA,CQ,Em,Bu,aN,aF,Ot,aR,a7,bA,bE,bl,cD]
 simp+contextual<;>(intros;simp_all))
theorem Yb:GG g84:=gd (vc:=v84) [g22,g80,DT] (by simp[DX,Pl,zW]) Tryz.func84 (args2 fun a b hw hp=>by
 simp[g84,show Φ 84=dY gX from rfl,dY,cS] at hw hp
 have:=fL (Φ:=Φ) (env:=[a,b]) (B:=fun _ _=>False) [.c 80 (.op .mk [.op (.fld 2) [.var 0],.op (.fld 3) [.var 0],.op (.fld 4) [.var 0],.op (.fld 5) [.var 0]]),.c 151 (.op (.fld 6) [.var 0]),.c 22 (.op (.fld 10) [.var 0])] [am bo [cell a.row 2,cell a.row 3,cell a.row 4,cell a.row 5],szD (.sl 238 cf) (cell a.row 6),szD (.sl 114 bo) (cell a.row 10)] (.var 1) b.ZY (by simp+contextual [pQ,hw,Ac,M3,xw,dT,dY,cS,szD]) rfl (by simp) hp.1 hp.2
 have e:am gX a.row=eW [am bo [cell a.row 2,cell a.row 3,cell a.row 4,cell a.row 5],szD (.sl 238 cf) (cell a.row 6),szD (.sl 114 bo) (cell a.row 10)]:=by simp[aw,aA,szD,eW]<;>omega
 show v84.wp Φ (fun l=>l=[.int (szM (am gX a.row) b.ZY)]) [a,b] _
 rw[e]
 exact this)
theorem WF:GG J7:=gd (vc:=UJ) [g34,g97,Dr] (by simp[De,OW,Ce]) Tryz.func102 (args1 fun a hw hp=>by
 simp[J7,LJ,dK,eS,aw,aA,szD] at hp
 simp[UJ,LJ,Be,Kx,yE,dK,dN,eS,dH,aw,aA,szD,J7,cw,fA,cnD]<;>omega)
theorem YU:GG g51:=gd (vc:=v51) (hs:=[⟨4,[0],[],false⟩]) [Ot] (by simpa using P7) Tryz.func51 (args2 fun a b hw hp=>by
 simp[g51] at hw
 exact gv (Φ:=Φ) (a:=a) (b:=b) (p:=aH dg) (tests:=[.op (.fn 119 1000) [mkE (.var 0) (.var 2),mkE (.var 1) (.var 2)]]) (t:=.op (.fn 119 0) [mkE (.var 0) (.var 2),mkE (.var 1) (.var 2)]) hw.1.1
  (fun i h1 h2=>by simp only[ci,dq,b9,aS,a8,jG,dZ,bF,MA,aN,fV,dM,aq,ay,D.aI,D.aK,af,aq,ay,D.fj];exact⟨⟨trivial,trivial⟩,trivial⟩) _)
theorem Yz:GG g27:=gd (vc:=v27) (hs:=[⟨5,[1],[],false⟩]) [g84] (by simpa using Yb) Tryz.func27 (args2 fun a b hw hp=>by
 simp[g27,W1,dT,cS] at hw hp
 exact mD (c:=84) (ks:=gX) rfl hw.1.1 hp _)
theorem ZH:GG g39:=gd (vc:=v39) [J7] (by simpa using WF) Tryz.func39 (args1 fun a hw hp=>by
 simp[g39,Se,dN,dH] at hw hp
 exact lz (Φ:=Φ) (a:=a) (c:=102) (bytes:=(TT 137).bytes) (tid:=137) (ks:=gX) (ks':=dg) (by decide) rfl (fun _=>rfl) rfl hp _)
theorem Zb:GG g10:=gd (vc:=v10) [g43,g44,g45,g46,g47,g48,g49,g50,g51] (by simp[Zs,Ze,Zn,CM,Yq,Yw,Yc,ZA,YU]) Tryz.func10 (args2 fun a b hw hp=>by
 simp[v10,UD,Vh,show Φ 44=aF dw from rfl,show Φ 45=aF de from rfl,CQ,show Φ 47=aF aM from rfl,show Φ 48=aF pz from rfl,show Φ 49=aF py from rfl,show Φ 50=aF ma from rfl,show Φ 51=aF dg from rfl,aN,aF,g10,aR,a7,bA,bE,bl,cD]
 simp+contextual<;>(intros;simp_all))
theorem ok6:GG g6:=gd (vc:=v6) [g19,g20,g21,g22,g23,g24,g25,g26,g27] (by simp[Yo,Ya,Zd,DX,Yl,Yp,XD,XF,Yz]) Tryz.func6 (args2 fun a b hw hp=>by
 simp[g6,Φ6,dY,cS] at hw hp
 have:=fL (Φ:=Φ) (env:=[a,b]) (B:=fun _ _=>False) [.c 19 (.var 0),.c 20 (.op (.fld 8) [.var 0]),.c 21 (.op (.fld 9) [.var 0]),.c 22 (.op (.fld 10) [.var 0]),.c 23 (.op (.fld 12) [.var 0]),.c 24 (.op (.fld 14) [.var 0]),.c 25 (.op (.fld 15) [.var 0]),.c 22 (.op (.fld 16) [.var 0]),.c 26 (.op (.fld 17) [.var 0]),.c 27 (.op (.fld 18) [.var 0])] [am oe a.row,szD (.sl 107 gW) (cell a.row 8),szD (.sl 110 kI) (cell a.row 9),szD (.sl 114 bo) (cell a.row 10),szD (.sl 117 fq) (cell a.row 12),szD (.sl 155 jm) (cell a.row 14),szD (.sl 120 fk) (cell a.row 15),szD (.sl 114 bo) (cell a.row 16),szD (.sl 123 gV) (cell a.row 17),szD (.sl 126 gX) (cell a.row 18)] (.var 1) b.ZY (by simp+contextual [pQ,hw,Sc,Tz,RB,Ac,Rp,RL,Ub,SE,W1,dT,dY,cS,szD]) rfl (by simp) hp.1 hp.2
 have e:am fO a.row=eW [am oe a.row,szD (.sl 107 gW) (cell a.row 8),szD (.sl 110 kI) (cell a.row 9),szD (.sl 114 bo) (cell a.row 10),szD (.sl 117 fq) (cell a.row 12),szD (.sl 155 jm) (cell a.row 14),szD (.sl 120 fk) (cell a.row 15),szD (.sl 114 bo) (cell a.row 16),szD (.sl 123 gV) (cell a.row 17),szD (.sl 126 gX) (cell a.row 18)]:=by simp[aw,aA,szD,eW]<;>omega
 show v6.wp Φ (fun l=>l=[.int (szM (am fO a.row) b.ZY)]) [a,b] _
 rw[e]
 exact this)
theorem ok8:GG g8:=gd (vc:=v8) [g31,g32,g33,g34,g35,g36,g37,g38,g39] (by simp[Zj,Y2,Y6,De,Yv,XR,XI,YH,ZH]) Tryz.func8 (args1 fun a hw hp=>by
 simp[g8,Φ8,dK,eS,aw,aA,szD] at hp
 simp[v8,Φ8,Nk,Sm,TN,Be,UR,VN,Uj,Wd,Se,dK,dN,eS,dH,aw,aA,szD,g8,cw,fA,cnD]<;>omega)
end Go.Proofs.YtlkidecpmfhheaaGreat

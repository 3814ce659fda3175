import Derived.Test.YtlkidecpmfhheaaGreatS5
import Derived.Test.YtlkidecpmfhheaaGreatW1
set_option linter.all false
namespace Go.Proofs.YtlkidecpmfhheaaGreat
open Go.Vx
theorem pm:GG tP:=gd (vc:=Zm) (hs:=[⟨4,[0],[],false⟩]) [] (by simp) Tryz.func163 (args2 fun a b hw hp=>by
 simp[tP] at hw
 exact gv (Φ:=Φ) (a:=a) (b:=b) (p:=aH aC) (tests:=[]) (t:=.op .and [.op (.eF .eql) [.op (.fld 0) [.op .row [.var 0,.var 2]],.op (.fld 0) [.op .row [.var 1,.var 2]]],.op (.eF .eql) [.op (.fld 1) [.op .row [.var 0,.var 2]],.op (.fld 1) [.op .row [.var 1,.var 2]]]]) hw.1.1
  (fun i h1 h2=>by simp[af,aR,a7,bA]) _)
theorem wx:GG sU:=gd (vc:=v162) [tP] (by simp[pm]) Tryz.func162 (args2 fun a b hw hp=>by
 simp[v162,fQ,dz,aN,aF,sU,aR,a7,bA,bE,bl,cD]
 rw[Bool.eq_iff_iff]
 simp[and_assoc,and_comm,and_left_comm])
theorem vH:GG wy:=gd (vc:=YK) (hs:=[⟨4,[0],[],false⟩]) [sU] (by simp[wx]) Tryz.func136 (args2 fun a b hw hp=>by
 simp[wy] at hw
 exact gv (Φ:=Φ) (a:=a) (b:=b) (p:=aH aj) (tests:=[.op (.fn 162 1000) [mkE (.var 0) (.var 2),mkE (.var 1) (.var 2)]]) (t:=.op (.fn 162 0) [mkE (.var 0) (.var 2),mkE (.var 1) (.var 2)]) hw.1.1
  (fun i h1 h2=>by simp only[ci,dq,b9,aS,a8,jG,dZ,bF,fQ,aN,fV,dM,aq,ay,D.aI,D.aK,af,aq,ay,D.fj];exact⟨⟨trivial,trivial⟩,trivial⟩) _)
theorem SI:GG Pz:=gd (vc:=v139) [wy] (by simp[vH]) Tryz.func139 (args2 fun a b hw hp=>by
 simp[v139,show Φ 139=aN de from rfl,gq,aN,aF,Pz,aR,a7,bA,bE,bl,cD]
 rw[Bool.eq_iff_iff]
 simp[and_assoc,and_comm,and_left_comm])
theorem P0:GG ND:=gd (vc:=Wt) [wy,tP] (by simp[vH,pm]) Tryz.func140 (args2 fun a b hw hp=>by
 simp[Wt,show Φ 140=aN aM from rfl,gq,dz,aN,aF,ND,aR,a7,bA,bE,bl,cD]
 rw[Bool.eq_iff_iff]
 simp[and_assoc,and_comm,and_left_comm])
theorem PW:GG OU:=gd (vc:=YE) (hs:=[⟨4,[0],[],false⟩]) [] (by simp) Tryz.func207 (args2 fun a b hw hp=>by
 simp[OU] at hw
 exact oD (Φ:=Φ) (a:=a) (b:=b) (p:=aH [.str]) (tests:=[]) (t:=.op (.eF .neq) [.op (.fld 0) [mkE (.var 0) (.var 2)],.op (.fld 0) [mkE (.var 1) (.var 2)]]) hw.1.1
  (fun i h1 h2=>⟨trivial,by simp[af,aR,a7,bA,bE,bl]⟩) _)
theorem SY:GG Ow:=gd (vc:=SR) [OU] (by simp[PW]) Tryz.func135 (args2 fun a b hw hp=>by
 simp[SR,show Φ 135=aN gZ from rfl,show Φ 207=aF [.str] from rfl,aN,aF,Ow,aR,a7,bA,bE,bl,cD]
 rw[Bool.eq_iff_iff]
 simp[and_assoc,and_comm,and_left_comm])
theorem uL:GG zH:=gd (vc:=YM) (hs:=[⟨4,[0],[],false⟩]) [] (by simp) Tryz.func248 (args2 fun a b hw hp=>by
 simp[zH] at hw
 exact gv (Φ:=Φ) (a:=a) (b:=b) (p:=aH aC) (tests:=[]) (t:=.op .and [.op (.eF .eql) [.op (.fld 0) [.op .row [.var 0,.var 2]],.op (.fld 0) [.op .row [.var 1,.var 2]]],.op (.eF .eql) [.op (.fld 1) [.op .row [.var 0,.var 2]],.op (.fld 1) [.op .row [.var 1,.var 2]]]]) hw.1.1
  (fun i h1 h2=>by simp[af,aR,a7,bA]) _)
theorem xm:GG u0:=gd (vc:=Sb) [zH] (by simp[uL]) Tryz.func217 (args2 fun a b hw hp=>by
 simp[Sb,iT,kJ,aN,aF,u0,aR,a7,bA,bE,bl,cD]
 rw[Bool.eq_iff_iff]
 simp[and_assoc,and_comm,and_left_comm])
theorem qm:GG pO:=gd (vc:=YO) (hs:=[⟨4,[0],[],false⟩]) [u0] (by simp[xm]) Tryz.func147 (args2 fun a b hw hp=>by
 simp[pO] at hw
 exact gv (Φ:=Φ) (a:=a) (b:=b) (p:=aH aj) (tests:=[.op (.fn 217 1000) [mkE (.var 0) (.var 2),mkE (.var 1) (.var 2)]]) (t:=.op (.fn 217 0) [mkE (.var 0) (.var 2),mkE (.var 1) (.var 2)]) hw.1.1
  (fun i h1 h2=>by simp only[ci,dq,b9,aS,a8,jG,dZ,bF,iT,aN,fV,dM,aq,ay,D.aI,D.aK,af,aq,ay,D.fj];exact⟨⟨trivial,trivial⟩,trivial⟩) _)
theorem RJ:GG O1:=gd (vc:=TP) [pO] (by simp[qm]) Tryz.func215 (args2 fun a b hw hp=>by
 simp[TP,LI,fa,aN,aF,O1,aR,a7,bA,bE,bl,cD]
 rw[Bool.eq_iff_iff]
 simp[and_assoc,and_comm,and_left_comm])
theorem RY:GG N7:=gd (vc:=VT) [pO,zH] (by simp[qm,uL]) Tryz.func216 (args2 fun a b hw hp=>by
 simp[VT,Mn,fa,kJ,aN,aF,N7,aR,a7,bA,bE,bl,cD]
 rw[Bool.eq_iff_iff]
 simp[and_assoc,and_comm,and_left_comm])
theorem P9:GG Pv:=gd (vc:=XL) (hs:=[⟨4,[0],[],false⟩]) [] (by simp) Tryz.func214 (args2 fun a b hw hp=>by
 simp[Pv] at hw
 exact oD (Φ:=Φ) (a:=a) (b:=b) (p:=aH [.str]) (tests:=[]) (t:=.op (.eF .neq) [.op (.fld 0) [mkE (.var 0) (.var 2)],.op (.fld 0) [mkE (.var 1) (.var 2)]]) hw.1.1
  (fun i h1 h2=>⟨trivial,by simp[af,aR,a7,bA,bE,bl]⟩) _)
theorem Sn:GG Nx:=gd (vc:=Rn) [Pv] (by simp[P9]) Tryz.func144 (args2 fun a b hw hp=>by
 simp[Rn,Mm,show Φ 214=aF [.str] from rfl,aN,aF,Nx,aR,a7,bA,bE,bl,cD]
 rw[Bool.eq_iff_iff]
 simp[and_assoc,and_comm,and_left_comm])
theorem Tn:GG Oz:=gd (vc:=v145) (hs:=[⟨4,[0],[],false⟩]) [O1] (by simp[RJ]) Tryz.func145 (args2 fun a b hw hp=>by
 simp[Oz] at hw
 exact gv (Φ:=Φ) (a:=a) (b:=b) (p:=aH de) (tests:=[.op (.fn 215 1000) [mkE (.var 0) (.var 2),mkE (.var 1) (.var 2)]]) (t:=.op (.fn 215 0) [mkE (.var 0) (.var 2),mkE (.var 1) (.var 2)]) hw.1.1
  (fun i h1 h2=>by simp only[ci,dq,b9,aS,a8,jG,dZ,bF,LI,aN,fV,dM,aq,ay,D.aI,D.aK,af,aq,ay,D.fj];exact⟨⟨trivial,trivial⟩,trivial⟩) _)
theorem WY:GG Ol:=gd (vc:=v146) (hs:=[⟨4,[0],[],false⟩]) [N7] (by simp[RY]) Tryz.func146 (args2 fun a b hw hp=>by
 simp[Ol] at hw
 exact gv (Φ:=Φ) (a:=a) (b:=b) (p:=aH aM) (tests:=[.op (.fn 216 1000) [mkE (.var 0) (.var 2),mkE (.var 1) (.var 2)]]) (t:=.op (.fn 216 0) [mkE (.var 0) (.var 2),mkE (.var 1) (.var 2)]) hw.1.1
  (fun i h1 h2=>by simp only[ci,dq,b9,aS,a8,jG,dZ,bF,Mn,aN,fV,dM,aq,ay,D.aI,D.aK,af,aq,ay,D.fj];exact⟨⟨trivial,trivial⟩,trivial⟩) _)
theorem Fm(r:List D):(cell r 2).ae.length+aD (am gA) (cell r 2).ae<=am dw r:=by
 simp only[aw,aA,szD,bf,Nat.zero_add,Nat.reduceAdd]
 omega
theorem Dd(r:List D):(cell r 1).ae.length+aD (am aj) (cell r 1).ae<=am gA r:=by
 simp only[aw,aA,szD,bf,Nat.zero_add,Nat.reduceAdd]
 omega
end Go.Proofs.YtlkidecpmfhheaaGreat

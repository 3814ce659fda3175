import Derived.Test.YtlkidecpmfhheaaGreatS1a
import Derived.Test.YtlkidecpmfhheaaGreatS1b
import Derived.Test.YtlkidecpmfhheaaGreatS1c
import Derived.Test.YtlkidecpmfhheaaGreatS1d
import Derived.Test.YtlkidecpmfhheaaGreatVxe
import Derived.Test.YtlkidecpmfhheaaGreatVxf
import Derived.Test.YtlkidecpmfhheaaGreatVxd
set_option linter.all false
namespace Go.Proofs.YtlkidecpmfhheaaGreat
open Go.Vx
abbrev cf:List K:=[.str,.str]
abbrev bo:List K:=[.sl 238 cf,.int .i64,.int .i64,.str]
abbrev fb:List K:=[.int .i64,.sl 114 bo]
abbrev gW:List K:=[.int .i64,.int .i64,.sl 236 fb]
abbrev kI:List K:=[.sl 114 bo,.bool]
abbrev fq:List K:=[.int .i64,.sl 238 cf,.int .i64,.int .i64,.sl 114 bo]
abbrev jm:List K:=[.int .i64,.int .i64]
abbrev fk:List K:=[.int .i64,.sl 238 cf,.int .i64,.sl 114 bo]
abbrev gV:List K:=[.int .i64,.int .i64,.sl 238 cf,.int .i64,.int .i64,.str,.sl 238 cf,.int .i64,.sl 3 [.int .i64],.sl 114 bo,.int .i64,.int .i64]
abbrev gX:List K:=[.int .i64,.int .i64,.sl 238 cf,.int .i64,.int .i64,.str,.sl 238 cf,.int .i64,.int .i64,.int .i64,.sl 114 bo,.int .i64,.int .i64,.int .i64,.int .i64]
abbrev aC:List K:=[.str,.str]
abbrev aj:List K:=[.sl 220 aC,.int .i64,.int .i64,.str]
abbrev gA:List K:=[.int .i64,.sl 135 aj]
abbrev dw:List K:=[.int .i64,.int .i64,.sl 218 gA]
abbrev de:List K:=[.sl 135 aj,.bool]
abbrev aM:List K:=[.int .i64,.sl 220 aC,.int .i64,.int .i64,.sl 135 aj]
abbrev pz:List K:=[.int .i64,.int .i64]
abbrev py:List K:=[.int .i64,.sl 220 aC,.int .i64,.sl 135 aj]
abbrev ma:List K:=[.int .i64,.int .i64,.sl 220 aC,.int .i64,.int .i64,.str,.sl 220 aC,.int .i64,.sl 3 [.int .i64],.sl 135 aj,.int .i64,.int .i64]
abbrev dg:List K:=[.int .i64,.int .i64,.sl 220 aC,.int .i64,.int .i64,.str,.sl 220 aC,.int .i64,.int .i64,.int .i64,.sl 135 aj,.int .i64,.int .i64,.int .i64,.int .i64]
abbrev oe:List K:=[.int .i64,.int .i64,.int .i64,.int .i64,.int .i64,.sl 9 [.str]]
abbrev gZ:List K:=[.int .i64,.int .i64,.int .i64,.int .i64,.int .i64,.sl 9 [.str]]
abbrev fO:List K:=[.int .i64,.int .i64,.int .i64,.int .i64,.int .i64,.sl 9 [.str],.int .i64,.int .i64,.sl 107 gW,.sl 110 kI,.sl 114 bo,.int .i64,.sl 117 fq,.int .i64,.sl 155 jm,.sl 120 fk,.sl 114 bo,.sl 123 gV,.sl 126 gX]
abbrev fG:List K:=[.int .i64,.int .i64,.int .i64,.int .i64,.int .i64,.sl 9 [.str],.int .i64,.int .i64,.sl 147 dw,.sl 132 de,.sl 135 aj,.int .i64,.sl 152 aM,.int .i64,.sl 143 pz,.sl 157 py,.sl 135 aj,.sl 141 ma,.sl 137 dg]
noncomputable def Ff:Nat->List D->D:=con (fun _=>True) fun _ _=>.bool true
noncomputable def mCp:Nat->List D->D:=con (fun ds=>(cell ds 0).ae.length<=1073741824) fun _ ds=>.sl (cell ds 0).ae
def bn(r:List D):List D:=[.sl (cell r 0).ae,cell r 1,cell r 2,cell r 3]
noncomputable def bN:Nat->List D->D:=con (fun ds=>(cell (cell ds 0).row 0).ae.length<=1073741824) fun _ ds=>.sl [bn (cell ds 0).row]
noncomputable def bL:Nat->List D->D:=con (fun ds=>(cell ds 0).ae.length+aD (am aj) (cell ds 0).ae<=1073741824) fun _ ds=>.sl ((cell ds 0).ae.flatMap fun r=>[bn r])
noncomputable def Ao(w:List D):List (List D):=bif tt (3<(cell w 17).ae.length∧(cell (ag (cell w 17).ae 3) 0).ZY=5) then[bn [cell (ag (cell w 17).ae 3) 2,cell (ag (cell w 17).ae 3) 3,cell (ag (cell w 17).ae 3) 4,cell (ag (cell w 17).ae 3) 5]] else[]
noncomputable def cQ:Nat->List D->D:=con (fun ds=>am fG (cell ds 0).row<=1048576) fun _ ds=>.sl (Ao (cell ds 0).row++(cell (cell ds 0).row 10).ae.flatMap fun r=>[bn r])
noncomputable def bH:Nat->List D->D:=con (fun _=>True) fun _ ds=>.bool (dv (cell ds 0).ae (cell ds 1).ae)
noncomputable def yB:Nat->List D->D:=con (fun _=>True) fun _ ds=>.bool (Op.bytesLess (cell ds 0).ao.toList (cell ds 1).ao.toList)
def ltA(r s:List D):Bool:=dv (cell r 0).ae (cell s 0).ae
noncomputable def xU:Nat->List D->D:=con (fun ds=>(0<=(cell ds 0).ZY∧(cell ds 0).ZY<(cell (cell ds 2).row 0).ae.length)∧0<=(cell ds 1).ZY∧(cell ds 1).ZY<(cell (cell ds 2).row 0).ae.length)
 fun _ ds=>.bool (ltA (ag (cell (cell ds 2).row 0).ae (cell ds 0).ZY.toNat) (ag (cell (cell ds 2).row 0).ae (cell ds 1).ZY.toNat))
noncomputable def AU:Nat->List D->D:=con (fun _=>True) fun _ ds=>.sl (stS ltA (cell ds 0).ae)
noncomputable def gx:Nat->List D->D:=con (fun ds=>(cell ds 0).ae.length+aD (am aj) (cell ds 0).ae<=1073741824) fun _ ds=>.sl (stS ltA ((cell ds 0).ae.map bn))
noncomputable def jE:Nat->List D->D:=con (fun ds=>am dw (cell ds 0).row<=1048576) fun _ ds=>.sl ((cell (cell ds 0).row 2).ae.flatMap fun c=>(cell c 1).ae.flatMap fun r=>[bn r])
def fP(p:List D):List (List D):=(cell p 2).ae.flatMap fun c=>(cell c 1).ae.flatMap fun r=>[bn r]
def jR(l:List (List D)):List (List D):=stS ltA (l.flatMap fP)
noncomputable def cR:Nat->List D->D:=con (fun ds=>(cell ds 0).ae.length+aD (am dw) (cell ds 0).ae<=1048576) fun _ ds=>.sl (jR (cell ds 0).ae)
noncomputable def I3(w:List D):List (List D):=Ao w++(cell w 10).ae.flatMap fun r=>[bn r]
noncomputable def jX(w m:List D):Bool:=aH gZ w m&&tt ((cell w 13).ZY=(cell m 10).ZY)&&eqR (aH de) (cell w 9).ae (cell m 7).ae&&eqR (aH aM) (cell w 12).ae (cell m 9).ae&&eqR (aH aj) (jR (cell w 8).ae) (cell m 6).ae&&eqR (aH aj) (I3 w) (cell m 8).ae
noncomputable def eE:Nat->List D->D:=con (fun ds=>am fG (cell ds 0).row<=1048576) fun _ ds=>.bool (jX (cell ds 0).row (cell ds 1).row)
noncomputable def mB(p:List D->Prop):Nat->List D->D:=con (fun _=>True) fun _ ds=>.bool (tt (p ds))
def byte(s:ByteArray)(i:Nat):Nat:=(s.toList[i]?.getD 0).toNat
def AF(s:ByteArray)(i:Nat):Prop:=97<=byte s i∧byte s i<=122
def vJ(s:ByteArray)(i:Nat):Prop:=32<=byte s i∧byte s i<=126∧byte s i≠34∧byte s i≠92
def kM(s:ByteArray):Prop:=(1<=s.size∧s.size<=8)∧∀i,i<s.size->AF s i
def j6(s:ByteArray):Prop:=s.size<=12∧∀i,i<s.size->vJ s i
def qz(r:List D):Prop:=kM (cell r 0).ao∧j6 (cell r 1).ao
def u4(xs:List (List D))(i:Nat):Prop:=qz (ag xs i)∧(0<i->Op.bytesLess (cell (ag xs (i - 1)) 0).ao.toList (cell (ag xs i) 0).ao.toList=true)
def kX(xs:List (List D)):Prop:=xs.length<=4∧∀i,i<xs.length->u4 xs i
def kV(r:List D):Prop:=(kX (cell r 0).ae∧0<(cell r 0).ae.length)∧(0<=(cell r 1).ZY∧(cell r 1).ZY<=99999)∧((cell r 1).ZY<=(cell r 2).ZY∧(cell r 2).ZY<=99999)∧j6 (cell r 3).ao
def uH(r:List D):ByteArray:=(cell r 0).ao++⟨#[61,34]⟩++(cell r 1).ao++⟨#[34]⟩
noncomputable def eC(xs:List (List D)):ByteArray:=⟨#[123]⟩++g9 (xs.map uH) ⟨#[44,32]⟩++⟨#[125]⟩
noncomputable def ew(xs:List (List D)):ByteArray:=bif tt (kX xs) then eC xs else⟨#[]⟩
noncomputable def oN:Nat->List D->D:=con (fun _=>True) fun _ ds=>.str (ew (cell ds 0).ae)
noncomputable def hasB(l:List (List D))(s:ByteArray):Bool:=tt (∃j,j<l.length∧(cell (ag l j) 0).ao=s)
noncomputable def FQ:Nat->List D->D:=con (fun _=>True) fun _ ds=>.bool (hasB (cell ds 0).ae (cell ds 1).ao)
noncomputable def bX(xs names:List (List D)):List (List D):=(xs.filter fun r=>hasB names (cell r 0).ao).map fun r=>[cell r 0,cell r 1]
noncomputable def jH:Nat->List D->D:=con (fun ds=>(cell ds 0).ae.length<=1048576) fun _ ds=>.sl (bX (cell ds 0).ae (cell ds 1).ae)
noncomputable def cP:Nat->List D->D:=con (fun ds=>(cell (cell ds 0).row 0).ae.length<=1048576) fun _ ds=>.sl (bX (cell (cell ds 0).row 0).ae (cell ds 1).ae)
noncomputable def bu:Nat->List D->D:=con (fun _=>True) fun _ ds=>.int (eR (fun r=>eqR (aH aC) (cell r 0).ae (cell ds 1).ae=true) (cell ds 0).ae 0)
def apart(l:List (List D)):Prop:=∀k,k<l.length->∀m,m<k->eqR (aH aC) (cell (ag l m) 0).ae (cell (ag l k) 0).ae=false
noncomputable def zn:Nat->List D->D:=con (fun _=>True) fun _ ds=>.bool (tt (apart (cell ds 0).ae))
def In(a b c:Int):Prop:=b<=a∧a<=c
def Aa(xs:List (List D)):Prop:=∀i,i<xs.length->0<i->Op.bytesLess (cell (ag xs (i - 1)) 0).ao.toList (cell (ag xs i) 0).ao.toList=true
def ByP(xs:List (List D)):Prop:=(∀i,i<xs.length->kM (cell (ag xs i) 0).ao)∧xs.length<=2∧Aa xs
def jz(r:List D):Prop:=In (cell r 0).ZY 1 3∧In (cell r 1).ZY 1 8∧In (cell r 2).ZY 1 2∧In (cell r 3).ZY 1 9∧In (cell r 4).ZY 1 9∧ByP (cell r 5).ae
def hstep(h:Nat)(b:UInt8):Nat:=(h^^^b.toNat)*16777619 % 4294967296
def vd(l:List UInt8):Nat:=l.foldl hstep 2166136261
noncomputable def FH:Nat->List D->D:=con (fun _=>True) fun _ ds=>.int (vd (lby (cell ds 0).ao))
def GQ(h:Nat):Nat:=(h^^^h / 65536) % 32
noncomputable def iY(xs:List (List D)):Int:=(GQ (vd (lby (ew xs))):Nat)
noncomputable def eZ:Nat->List D->D:=con (fun _=>True) fun _ ds=>.int (iY (cell ds 0).ae)
noncomputable def partOf(f n:Int):Int:=bif tt (n<1∨f<0) then 0 else f.tmod n
noncomputable def dB:Nat->List D->D:=con (fun _=>True) fun _ ds=>.int (partOf (cell ds 0).ZY (cell ds 1).ZY)
def kC(c:List D):Prop:=0<(cell c 1).ae.length∧(∀i,i<(cell c 1).ae.length->kV (ag (cell c 1).ae i)∧iY (cell (ag (cell c 1).ae i) 0).ae=(cell c 0).ZY)∧apart (cell c 1).ae
def nL(p:List D)(i n:Int):Prop:=(∀k,k<(cell p 2).ae.length->kC (ag (cell p 2).ae k)∧partOf (cell (ag (cell p 2).ae k) 0).ZY n=i∧(0<k->(cell (ag (cell p 2).ae (k - 1)) 0).ZY<(cell (ag (cell p 2).ae k) 0).ZY))∧In (cell p 0).ZY (-1) 4∧0<=(cell p 1).ZY
def je(l:List (List D)):Prop:=In l.length 1 3∧∀i,i<l.length->nL (ag l i) i l.length
def iS(a:List D):Prop:=kV a∧(cell a 2).ZY<=99899
def ql(l:List (List D)):Nat:=aD (fun p=>aD (fun c=>(cell c 1).ae.length) (cell p 2).ae) l
noncomputable def wR:Nat->List D->D:=con (fun ds=>(cell ds 0).ae.length+aD (am dw) (cell ds 0).ae<=1048576) fun _ ds=>.int (ql (cell ds 0).ae)
def ii(w:List D):Prop:=je (cell w 8).ae∧((cell w 8).ae.length:Int)=(cell w 0).ZY∧(ql (cell w 8).ae:Int)<=(cell w 1).ZY∧∀i,i<(jR (cell w 8).ae).length->iS (ag (jR (cell w 8).ae) i)
def kS(l:List (List D)):Prop:=∀i,i<l.length->kV (ag l i)
def tW(s:List D):Prop:=((cell s 1).ZZ=true->(cell s 0).ae.length=0)∧(cell s 0).ae.length<=3∧kS (cell s 0).ae
def tD(l:List (List D))(n:Int):Prop:=(∀i,i<l.length->tW (ag l i))∧(l.length:Int)=n
def AS(op c:Int):Prop:=(op=1->In c 1 4)∧(op=3->In c 5 6)∧(op=7->In c 1 3)∧(op=8->c=8∨c=6)∧(op=9->In c 5 7)∧(op≠1->op≠3->op≠7->op≠8->op≠9->c=8)
def ai(d:List D):Prop:=In (cell d 0).ZY 1 9∧In (cell d 1).ZY (-1) 4∧0<=(cell d 12).ZY∧0<=(cell d 7).ZY∧0<=(cell d 8).ZY∧0<=(cell d 11).ZY∧
 ((cell d 13).ZY= -1->(cell d 14).ZY= -1∧(cell d 9).ZY=0)∧((cell d 13).ZY≠ -1->(cell d 12).ZY<=(cell d 13).ZY∧((cell d 14).ZY= -1∨(cell d 13).ZY<=(cell d 14).ZY)∧AS (cell d 0).ZY (cell d 9).ZY)
def gJ(a b c d:D):Prop:=a.ae.length=0∧b.ZY=0∧c.ZY=0∧d.ao=⟨#[]⟩
def gB(t:List D):Prop:=(cell t 7).ZY=0∧(cell t 8).ae.length=0∧(cell t 9).ae.length=0
def uY(t:List D):Prop:=(∀i,i<(cell t 8).ae.length->0<=(cell (ag (cell t 8).ae i) 0).ZY)∧((cell t 1).ZY=2->In (cell t 8).ae.length 1 3∧(cell t 7).ZY=(cell t 8).ae.length)∧((cell t 1).ZY≠2->((cell t 8).ae.length:Int)=(cell t 7).ZY∧(cell t 7).ZY<=2)
def aG(t:List D):List D:=[cell t 2,cell t 3,cell t 4,cell t 5]
def cV(t:List D)(k:Int):Prop:=0<=(cell t 11).ZY∧In (cell t 1).ZY 0 2∧In k 0 4∧kS (cell t 9).ae∧0<=(cell t 7).ZY∧0<=(cell t 10).ZY∧In (cell t 0).ZY 0 6∧
 ((cell t 0).ZY=0->(cell t 1).ZY=0∧gJ (cell t 2) (cell t 3) (cell t 4) (cell t 5)∧(cell t 6).ae.length=0∧gB t∧(cell t 10).ZY=0∧(cell t 11).ZY=0)∧
 ((cell t 0).ZY=1->k<3∧kV (aG t)∧(cell t 6).ae.length=0∧gB t∧(cell t 10).ZY=0)∧
 ((cell t 0).ZY=2->k<3∧(cell t 1).ZY<2∧gJ (cell t 2) (cell t 3) (cell t 4) (cell t 5)∧kX (cell t 6).ae∧gB t∧(cell t 10).ZY=0)∧
 ((cell t 0).ZY=3->k<3∧gJ (cell t 2) (cell t 3) (cell t 4) (cell t 5)∧(cell t 6).ae.length=0∧(cell t 10).ZY=0∧uY t)∧
 ((cell t 0).ZY=4->k<3∧(cell t 1).ZY<2∧gJ (cell t 2) (cell t 3) (cell t 4) (cell t 5)∧(cell t 6).ae.length=0∧(cell t 10).ZY=0∧(cell t 7).ZY<=2∧(cell t 8).ae.length=0∧(cell t 9).ae.length=0)∧
 ((cell t 0).ZY=5->k=3∧(cell t 1).ZY<2∧kV (aG t)∧(cell t 6).ae.length=0∧gB t∧(cell t 10).ZY=0)∧
 ((cell t 0).ZY=6->k=4∧(cell t 1).ZY<2∧gJ (cell t 2) (cell t 3) (cell t 4) (cell t 5)∧(cell t 6).ae.length=0∧gB t)
noncomputable def lw(t:List D)(n:Int):Int:=bif tt (n<1) then -1 else bif tt ((cell t 0).ZY=1∧((cell t 1).ZY=1∨(cell t 1).ZY=2)) then partOf (iY (cell t 2).ae) n else
 bif tt ((cell t 0).ZY=2∧(cell t 1).ZY=1) then partOf (iY (cell t 6).ae) n else bif tt (((cell t 0).ZY=3∨(cell t 0).ZY=4)∧(cell t 1).ZY=1) then(cell t 7).ZY else -1
noncomputable def eN:Nat->List D->D:=con (fun _=>True) fun _ ds=>.int (lw (cell ds 0).row (cell ds 1).ZY)
def iP(t:List D):Prop:=((cell t 0).ZY=5∨(cell t 0).ZY=6)∧(cell t 1).ZY=1
def yQ(born last wait every:Int):Int:=IntKind.i64.wrap (if last= -1 then born+wait else last+every)
def Bef(a b:List D):Prop:=(cell a 0).ZY<(cell b 0).ZY∨(cell a 0).ZY=(cell b 0).ZY∧(cell a 1).ZY<(cell b 1).ZY
def nD(l:List (List D)):Prop:=l.length<=16∧∀i,i<l.length->0<=(cell (ag l i) 0).ZY∧0<=(cell (ag l i) 1).ZY∧(0<i->¬Bef (ag l i) (ag l ((i - 1) / 2)))
def kR(g:List D)(by':List (List D)):Prop:=0<=(cell g 0).ZY∧kX (cell g 1).ae∧In (cell g 2).ZY 0 99999∧((cell g 3).ZY= -1∨In (cell g 3).ZY (cell g 2).ZY 99999)∧0<(cell g 4).ae.length∧
 ∀i,i<(cell g 4).ae.length->kV (ag (cell g 4).ae i)∧eqR (aH aC) (bX (cell (ag (cell g 4).ae i) 0).ae by') (cell g 1).ae=true∧(0<i->dv (cell (ag (cell g 4).ae (i - 1)) 0).ae (cell (ag (cell g 4).ae i) 0).ae=true)
def eA(l:List (List D))(by':List (List D)):Prop:=l.length<=12∧∀i,i<l.length->kR (ag l i) by'∧(0<i->(cell (ag l (i - 1)) 0).ZY<(cell (ag l i) 0).ZY)∧∀k,k<i->eqR (aH aC) (cell (ag l k) 1).ae (cell (ag l i) 1).ae=false
noncomputable def kp:Nat->List D->D:=con (fun _=>True) fun _ ds=>.sl (bif tt ((cell ds 0).ZY=1) then[[.int 1],[.int 2],[.int 3],[.int 4]] else bif tt ((cell ds 0).ZY=3) then[[.int 5],[.int 6]] else bif tt ((cell ds 0).ZY=7) then[[.int 1],[.int 2],[.int 3]] else bif tt ((cell ds 0).ZY=8) then[[.int 8],[.int 6]] else bif tt ((cell ds 0).ZY=9) then[[.int 5],[.int 6],[.int 7]] else[[.int 8]])
noncomputable def IY:Nat->List D->D:=con (fun _=>True) fun _ ds=>.bool (tt (∃j,j<(cell ds 0).ae.length∧(cell (ag (cell ds 0).ae j) 0).ZY=(cell ds 1).ZY))
def Aj(t:List D):Prop:=(∀i,i<(cell t 8).ae.length->0<=(cell (ag (cell t 8).ae i) 0).ZY)∧((cell t 8).ae.length:Int)=(cell t 7).ZY∧kS (cell t 9).ae∧((cell t 1).ZY=2->In (cell t 7).ZY 1 3)∧((cell t 1).ZY≠2->In (cell t 7).ZY 0 2)
noncomputable def dQ(p:List D)(f:Int):Int:=eR (fun c=>(cell c 0).ZY=f) (cell p 2).ae 0
noncomputable def qn(l s:List (List D)):Int:=eR (fun r=>eqR (aH aC) (cell r 0).ae s=true) l 0
noncomputable def mr(p:List D)(s:List (List D)):List D×Bool:=bif tt (dQ p (iY s)<0) then([.sl [],.int 0,.int 0,.str ⟨#[]⟩],false) else
 bif tt (qn (cell (ag (cell p 2).ae (dQ p (iY s)).toNat) 1).ae s<0) then([.sl [],.int 0,.int 0,.str ⟨#[]⟩],false) else
 (bn (ag (cell (ag (cell p 2).ae (dQ p (iY s)).toNat) 1).ae (qn (cell (ag (cell p 2).ae (dQ p (iY s)).toNat) 1).ae s).toNat),true)
noncomputable def tC(l s:List (List D)):List D×Bool:=bif tt (l.length=0) then([.sl [],.int 0,.int 0,.str ⟨#[]⟩],false) else mr (ag l (partOf (iY s) l.length).toNat) s
noncomputable def eK:Nat->List D->D:=con (fun ds=>(cell ds 1).ae.length<=1048576) fun c ds=>if c=0 then .sl [(mr (cell ds 0).row (cell ds 1).ae).1] else .bool (mr (cell ds 0).row (cell ds 1).ae).2
noncomputable def dJ:Nat->List D->D:=con (fun ds=>(cell ds 1).ae.length<=1048576) fun c ds=>if c=0 then .sl [(tC (cell ds 0).ae (cell ds 1).ae).1] else .bool (tC (cell ds 0).ae (cell ds 1).ae).2
noncomputable def gG:Nat->List D->D:=con (fun _=>True) fun _ ds=>.int (dQ (cell ds 0).row (cell ds 1).ZY)
noncomputable def mW:Nat->List D->D:=con (fun _=>True) fun _ ds=>.int (qn (cell (cell ds 0).row 1).ae (cell ds 1).ae)
noncomputable def oQ:Nat->List D->D:=con (fun _=>True) fun _ ds=>.int (partOf (iY (cell ds 1).ae) (cell ds 0).ae.length)
def tG(w t:List D):Prop:=(∀i,i<(cell t 8).ae.length->(cell (ag (cell t 8).ae i) 0).ZY<=(cell (ag (cell w 8).ae i) 1).ZY)∧
 ((∀i,i<(cell t 8).ae.length->(cell (ag (cell t 8).ae i) 0).ZY=(cell (ag (cell w 8).ae i) 1).ZY)->eqR (aH aj) (cell t 9).ae (((cell w 8).ae.take (cell t 8).ae.length).flatMap fP)=true)
noncomputable def i8:Nat->List D->D:=con (fun ds=>am fG (cell ds 0).row<=1048576∧(cell (cell ds 1).row 8).ae.length<=(cell (cell ds 0).row 8).ae.length) fun _ ds=>.bool (tt (tG (cell ds 0).row (cell ds 1).row))
def fm(n:Int):Int:=if n=1 then 1 else if n=2 then 3 else if n=3 then 4 else if n=4 then 6 else if n=5 then 7 else if n=6 then 8 else 0
noncomputable def gc:Nat->List D->D:=con (fun ds=>In (cell ds 0).ZY 0 6) fun _ ds=>.int (fm (cell ds 0).ZY)
noncomputable def eqA(a b:List D):Prop:=aH aj a b=true
noncomputable def eqS(a b:List (List D)):Prop:=eqR (aH aC) a b=true
def jr(w t d:List D):Prop:=((cell t 0).ZY=1->(cell t 1).ZY=2->(tC (cell w 8).ae (cell t 2).ae).2=true∧eqA (tC (cell w 8).ae (cell t 2).ae).1 (aG t)∧eqS (cell d 2).ae (cell t 2).ae)∧
 ((cell t 0).ZY=1->(cell t 1).ZY≠2->eqA (aG d) (aG t)∧iS (aG t))∧((cell t 0).ZY=2->eqS (cell d 6).ae (cell t 6).ae)∧
 (((cell t 0).ZY=3∨(cell t 0).ZY=4)->((cell t 1).ZY=2->((cell t 8).ae.length:Int)=(cell w 0).ZY)∧((cell t 1).ZY≠2->(cell t 7).ZY<(cell w 0).ZY)∧tG w t)∧
 ((cell t 0).ZY=5->eqA (aG d) (aG t))∧((cell t 0).ZY=6->(cell d 8).ZY=(cell t 10).ZY∧(cell t 10).ZY<(cell w 13).ZY)
def jL(w:List D)(k:Nat):Prop:=cV (ag (cell w 17).ae k) k∧((cell (ag (cell w 17).ae k) 0).ZY≠0->(cell (ag (cell w 17).ae k) 11).ZY<(cell w 18).ae.length∧
 (cell (ag (cell w 18).ae (cell (ag (cell w 17).ae k) 11).ZY.toNat) 1).ZY=k∧(cell (ag (cell w 18).ae (cell (ag (cell w 17).ae k) 11).ZY.toNat) 14).ZY= -1∧
 (cell (ag (cell w 18).ae (cell (ag (cell w 17).ae k) 11).ZY.toNat) 0).ZY=fm (cell (ag (cell w 17).ae k) 0).ZY∧
 ((cell (ag (cell w 18).ae (cell (ag (cell w 17).ae k) 11).ZY.toNat) 13).ZY≠ -1↔(cell (ag (cell w 17).ae k) 0).ZY=1∧(cell (ag (cell w 17).ae k) 1).ZY=2)∧
 jr w (ag (cell w 17).ae k) (ag (cell w 18).ae (cell (ag (cell w 17).ae k) 11).ZY.toNat))
def nC(w:List D):Prop:=∀i,i<(cell w 18).ae.length->ai (ag (cell w 18).ae i)∧(cell (ag (cell w 18).ae i) 12).ZY<(cell w 6).ZY∧(cell (ag (cell w 18).ae i) 13).ZY<(cell w 6).ZY∧(cell (ag (cell w 18).ae i) 14).ZY<(cell w 6).ZY
noncomputable def y7(t:List D)(n:Int)(at':Bool):Int:=bif tt (n<1) then -1 else bif !at' then -1 else bif tt ((cell t 0).ZY=1) then partOf (iY (cell t 2).ae) n else bif tt ((cell t 0).ZY=2) then partOf (iY (cell t 6).ae) n else bif tt ((cell t 0).ZY=3∨(cell t 0).ZY=4) then(cell t 7).ZY else -1
noncomputable def ug:Nat->List D->D:=con (fun _=>True) fun _ ds=>.int (y7 (cell ds 0).row (cell ds 1).ZY (cell ds 2).ZZ)
def zr(l key by':List (List D)):Prop:=∀i,i<l.length->kV (ag l i)∧eqR (aH aC) (bX (cell (ag l i) 0).ae by') key=true∧(0<i->dv (cell (ag l (i - 1)) 0).ae (cell (ag l i) 0).ae=true)
noncomputable def cJ:Nat->List D->D:=con (fun _=>True) fun _ ds=>.int (eR (fun g=>eqR (aH aC) (cell g 1).ae (cell ds 1).ae=true) (cell ds 0).ae 0)
noncomputable def jB:Nat->List D->D:=con (fun _=>True) fun _ ds=>.int (yQ (cell (cell ds 0).row 2).ZY (cell (cell ds 0).row 3).ZY (cell ds 1).ZY (cell ds 2).ZY)
noncomputable def jC:Nat->List D->D:=con (fun _=>True) fun _ ds=>.int (yQ (cell (cell ds 1).row 2).ZY (cell (cell ds 1).row 3).ZY (cell (cell ds 0).row 3).ZY (cell (cell ds 0).row 4).ZY)
def vg(w t:List D):Prop:=((cell t 1).ZY=2->((cell t 8).ae.length:Int)=(cell w 0).ZY)∧((cell t 1).ZY≠2->(cell t 7).ZY<(cell w 0).ZY)∧tG w t
noncomputable def mBw(q:List D->Prop)(p:List D->Prop):Nat->List D->D:=con (fun ds=>am fG (cell ds 0).row<=1048576∧q ds) fun _ ds=>.bool (tt (p ds))
def Ms(w:List D):Nat:=aD (fun t=>if(cell t 0).ZY=0 then 0 else 1) (cell w 17).ae
noncomputable def L4:Nat->List D->D:=con (fun _=>True) fun _ ds=>.int (Ms (cell ds 0).row)
def Jw(w:List D):Prop:=0<(cell w 14).ae.length∧(cell (ag (cell w 14).ae 0) 0).ZY<=(cell w 7).ZY
def gy(w:List D):Prop:=((cell w 8).ae.length:Int)=(cell w 0).ZY
def yr(w:List D):Prop:=(cell w 17).ae.length=5∧(∀i,i<(cell w 8).ae.length->In (cell (ag (cell w 8).ae i) 0).ZY (-1) 4)∧∀k,k<5->lw (ag (cell w 17).ae k) (cell w 8).ae.length<(cell w 8).ae.length
def jd(w:List D):Prop:=(∀i,i<(cell w 8).ae.length->∀k,k<(cell w 17).ae.length->(lw (ag (cell w 17).ae k) (cell w 8).ae.length=(i:Int)↔(cell (ag (cell w 8).ae i) 0).ZY=(k:Int)))∧
 (∀k,k<(cell w 17).ae.length->(iP (ag (cell w 17).ae k)↔(cell w 11).ZY=(k:Int)))∧In (cell w 11).ZY (-1) 4
def y1(w g:List D):Prop:=((cell (ag (cell w 17).ae 4) 0).ZY=6∧(cell (ag (cell w 17).ae 4) 10).ZY=(cell g 0).ZY)∨∃j,j<(cell w 14).ae.length∧(cell (ag (cell w 14).ae j) 1).ZY=(cell g 0).ZY∧(cell (ag (cell w 14).ae j) 0).ZY=yQ (cell g 2).ZY (cell g 3).ZY (cell w 3).ZY (cell w 4).ZY
def fc(w:List D):Prop:=eA (cell w 12).ae (cell w 5).ae∧nD (cell w 14).ae∧
 (∀i,i<(cell w 14).ae.length->(cell (ag (cell w 14).ae i) 1).ZY<(cell w 13).ZY∧∀k,k<i->(cell (ag (cell w 14).ae k) 1).ZY≠(cell (ag (cell w 14).ae i) 1).ZY)∧
 ∀i,i<(cell w 12).ae.length->y1 w (ag (cell w 12).ae i)∧(cell (ag (cell w 12).ae i) 2).ZY<=(cell w 7).ZY∧(cell (ag (cell w 12).ae i) 3).ZY<=(cell w 7).ZY∧(cell (ag (cell w 12).ae i) 0).ZY<(cell w 13).ZY
def nI(w:List D):Prop:=∀k,k<(cell w 17).ae.length->jL w k
def iO(w:List D):Prop:=jz w∧0<=(cell w 6).ZY∧0<=(cell w 13).ZY∧In (cell w 7).ZY 0 99899∧ii w∧tD (cell w 9).ae (cell w 2).ZY∧(cell w 17).ae.length=5∧
 kS (cell w 10).ae∧kS (cell w 16).ae∧nC w∧nI w∧jd w∧fc w
def IR(w:List D):Prop:=iO w∧Ms w=0∧(cell w 10).ae.length=0∧¬Jw w
abbrev cO:List K:=[.int .i64,.int .i64,.int .i64,.int .i64,.int .i64,.sl 9 [.str],.sl 135 aj,.sl 132 de,.sl 135 aj,.sl 152 aM,.int .i64]
def als(l:List (List D)):List (List D):=l.flatMap fun r=>[bn r]
def wY(r:List D):List D:=[cell r 0,cell r 1,cell r 2,cell r 3,cell r 4,.sl (cell r 5).ae]
def eu(s:List D):List D:=[.sl (als (cell s 0).ae),cell s 1]
def subs(l:List (List D)):List (List D):=l.flatMap fun r=>[eu r]
def iZ(g:List D):List D:=[cell g 0,.sl (cell g 1).ae,cell g 2,cell g 3,.sl (als (cell g 4).ae)]
def grs(l:List (List D)):List (List D):=l.flatMap fun r=>[iZ r]
def zz(b:List D):List D:=[cell b 0,.sl (cell b 1).ae,cell b 2,.sl (als (cell b 3).ae)]
def cT(m:List D):List D:=[cell m 0,cell m 1,cell m 2,cell m 3,cell m 4,.sl (cell m 5).ae,.sl (als (cell m 6).ae),.sl (subs (cell m 7).ae),.sl (als (cell m 8).ae),.sl (grs (cell m 9).ae),cell m 10]
def jw(d:List D):List D:=[cell d 0,cell d 1,.sl (cell d 2).ae,cell d 3,cell d 4,cell d 5,.sl (cell d 6).ae,cell d 7,cell d 8,cell d 9,.sl (als (cell d 10).ae),cell d 11,cell d 12,cell d 13,cell d 14]
noncomputable def br(ks:List K)(f:List D->List D):Nat->List D->D:=con (fun ds=>am ks (cell ds 0).row<=1073741824) fun _ ds=>.sl [f (cell ds 0).row]
noncomputable def gC(ks:List K)(f:List (List D)->List (List D)):Nat->List D->D:=con (fun ds=>(cell ds 0).ae.length+aD (am ks) (cell ds 0).ae<=1073741824) fun _ ds=>.sl (f (cell ds 0).ae)
def pN(a b:List D):Prop:=(cell a 1).ZY<=(cell b 2).ZY∧(cell b 1).ZY<=(cell a 2).ZY
noncomputable def yH:Nat->List D->D:=con (fun _=>True) fun _ ds=>.int (min (cell ds 0).ZY (cell ds 1).ZY)
noncomputable def jc(a b:List D):List D:=[.sl (cell b 0).ae,.int (bif tt (pN a b) then min (cell a 1).ZY (cell b 1).ZY else(cell b 1).ZY),cell b 2,cell b 3]
noncomputable def dm:Nat->List D->D:=con (fun ds=>(cell (cell ds 1).row 0).ae.length<=1073741824) fun _ ds=>.sl [jc (cell ds 0).row (cell ds 1).row]
def q9(l:List (List D))(a:List D):Nat:=(l.takeWhile fun r=> !dv (cell a 0).ae (cell r 0).ae).length
def uQ(l:List (List D))(a:List D):List (List D):=als (l.take (q9 l a))++[bn a]++als (l.drop (q9 l a))
noncomputable def oJ:Nat->List D->D:=con (fun ds=>(cell ds 0).ae.length+aD (am aj) (cell ds 0).ae+am aj (cell ds 1).row<=1073741824) fun _ ds=>.sl (uQ (cell ds 0).ae (cell ds 1).row)
noncomputable def mR(s a:List D):List D:=bif (cell s 1).ZZ then eu s else bif tt (3<=(cell s 0).ae.length) then[.sl [],.bool true] else[.sl (als (cell s 0).ae++[bn a]),cell s 1]
noncomputable def pd:Nat->List D->D:=con (fun ds=>am de (cell ds 0).row<=1073741824∧am aj (cell ds 1).row<=1073741824) fun _ ds=>.sl [mR (cell ds 0).row (cell ds 1).row]
noncomputable def tells(l:List (List D))(a:List D):List (List D):=l.flatMap fun s=>[mR s a]
noncomputable def dP:Nat->List D->D:=con (fun ds=>(cell ds 0).ae.length+aD (am de) (cell ds 0).ae<=1073741824∧am aj (cell ds 1).row<=1073741824) fun _ ds=>.sl (tells (cell ds 0).ae (cell ds 1).row)
def lf(s:List D):List D:=bif (cell s 1).ZZ then[.sl [],.bool false] else[.sl (als ((cell s 0).ae.drop 1)),.bool false]
noncomputable def lX(s:List D):Int:=bif (cell s 1).ZZ then 2 else bif tt ((cell s 0).ae.length=0) then 0 else 1
noncomputable def kA(s:List D):List D:=bif tt (lX s=1) then bn (ag (cell s 0).ae 0) else[.sl [],.int 0,.int 0,.str ⟨#[]⟩]
noncomputable def jM:Nat->List D->D:=con (fun ds=>am de (cell ds 0).row<=1073741824) fun c ds=>if c=0 then .sl [lf (cell ds 0).row] else if c=1 then .sl [kA (cell ds 0).row] else .int (lX (cell ds 0).row)
noncomputable def dW(l s:List (List D)):Int:=eR (fun r=>eqR (aH aC) (cell r 0).ae s=true) l 0
noncomputable def f8(g a:List D):List D:=[cell g 0,.sl (cell g 1).ae,cell g 2,cell g 3,.sl (bif tt (0<=dW (cell g 4).ae (cell a 0).ae) then(als (cell g 4).ae).set (dW (cell g 4).ae (cell a 0).ae).toNat (bn a) else uQ (cell g 4).ae a)]
noncomputable def dR:Nat->List D->D:=con (fun ds=>am aM (cell ds 0).row+am aj (cell ds 1).row<=1073741824) fun _ ds=>.sl [f8 (cell ds 0).row (cell ds 1).row]
noncomputable def gH(l key:List (List D)):Int:=eR (fun g=>eqR (aH aC) (cell g 1).ae key=true) l 0
noncomputable def fN(l:List (List D))(a:List D)(by':List (List D))(n now:D):List (List D):=bif tt (0<=gH l (bX (cell a 0).ae by')) then(grs l).set (gH l (bX (cell a 0).ae by')).toNat (f8 (ag l (gH l (bX (cell a 0).ae by')).toNat) a) else grs l++[[n,.sl (bX (cell a 0).ae by'),now,.int (-1),.sl [bn a]]]
noncomputable def cZ:Nat->List D->D:=con (fun ds=>(cell ds 0).ae.length+aD (am aM) (cell ds 0).ae<=536870912∧am aj (cell ds 1).row<=1048576) fun c ds=>if c=0 then .sl (fN (cell ds 0).ae (cell ds 1).row (cell ds 2).ae (cell ds 3) (cell ds 4)) else .bool (tt (gH (cell ds 0).ae (bX (cell (cell ds 1).row 0).ae (cell ds 2).ae)<0))
noncomputable def eo(l:List (List D))(n:Int):Int:=eR (fun g=>(cell g 0).ZY=n) l 0
noncomputable def cG:Nat->List D->D:=con (fun _=>True) fun _ ds=>.int (eo (cell ds 0).ae (cell ds 1).ZY)
noncomputable def iC(l:List (List D))(now:Int):List (List D):=l.flatMap fun r=>bif tt ((cell r 2).ZY<=now) then[] else[bn r]
noncomputable def pA:Nat->List D->D:=con (fun ds=>(cell ds 0).ae.length+aD (am aj) (cell ds 0).ae<=1073741824) fun _ ds=>.sl (iC (cell ds 0).ae (cell ds 1).ZY)
noncomputable def gw(g:List D)(now:D):List D:=[cell g 0,.sl (cell g 1).ae,cell g 2,now,.sl (iC (cell g 4).ae now.ZY)]
def zc(g:List D)(now:D):List D:=[cell g 0,.sl (cell g 1).ae,now,.sl (als (cell g 4).ae)]
noncomputable def fW:Nat->List D->D:=con (fun ds=>am aM (cell ds 0).row<=1073741824) fun c ds=>if c=0 then .sl [gw (cell ds 0).row (cell ds 1)] else .sl [zc (cell ds 0).row (cell ds 1)]
noncomputable def iz(l:List (List D))(n:Int)(now:D):List (List D):=bif tt (eo l n<0) then grs l else bif tt ((iC (cell (ag l (eo l n).toNat) 4).ae now.ZY).length=0) then(grs l).take (eo l n).toNat++(grs l).drop ((eo l n).toNat+1) else(grs l).set (eo l n).toNat (gw (ag l (eo l n).toNat) now)
noncomputable def co:Nat->List D->D:=con (fun ds=>(cell ds 0).ae.length+aD (am aM) (cell ds 0).ae<=1073741824) fun c ds=>if c=0 then .sl (iz (cell ds 0).ae (cell ds 1).ZY (cell ds 2)) else if c=1 then .sl [bif tt (eo (cell ds 0).ae (cell ds 1).ZY<0) then[.int 0,.sl [],.int 0,.sl []] else zc (ag (cell ds 0).ae (eo (cell ds 0).ae (cell ds 1).ZY).toNat) (cell ds 2)] else .bool (tt (0<=eo (cell ds 0).ae (cell ds 1).ZY))
def mo(a b:List D):Prop:=(cell a 14).ZY≠ -1∧(cell a 14).ZY<(cell b 12).ZY
def iH(l:List (List D)):Prop:=∀i,i<l.length->∀k,k<l.length->¬(mo (ag l i) (ag l k)∧(cell (ag l i) 13).ZY≠ -1∧(cell (ag l k) 13).ZY≠ -1∧(cell (ag l k) 13).ZY<=(cell (ag l i) 13).ZY)
def eG(m:List D):Prop:=jz m∧((cell m 6).ae.length:Int)<=(cell m 1).ZY∧tD (cell m 7).ae (cell m 2).ZY∧kS (cell m 8).ae∧0<=(cell m 10).ZY∧eA (cell m 9).ae (cell m 5).ae∧
 (∀i,i<(cell m 6).ae.length->iS (ag (cell m 6).ae i)∧(0<i->dv (cell (ag (cell m 6).ae (i - 1)) 0).ae (cell (ag (cell m 6).ae i) 0).ae=true))∧
 ∀i,i<(cell m 9).ae.length->(cell (ag (cell m 9).ae i) 0).ZY<(cell m 10).ZY
def mkM(m:List D)(L S F G:List (List D))(n:D):List D:=[cell m 0,cell m 1,cell m 2,cell m 3,cell m 4,.sl (cell m 5).ae,.sl L,.sl S,.sl F,.sl G,n]
def aL(m:List D):List D:=mkM m (cell m 6).ae (cell m 7).ae (cell m 8).ae (cell m 9).ae (cell m 10)
noncomputable def cg(m d:List D):List D×Bool:=bif tt ((cell d 9).ZY=4∨¬iS (aG d)) then(aL m,tt ((cell d 9).ZY=4∧¬iS (aG d))) else
 bif tt ((cell d 9).ZY=2) then(bif tt (0<=dW (cell m 6).ae (cell d 2).ae) then(mkM m ((cell m 6).ae.set (dW (cell m 6).ae (cell d 2).ae).toNat (jc (ag (cell m 6).ae (dW (cell m 6).ae (cell d 2).ae).toNat) (aG d))) (cell m 7).ae (cell m 8).ae (cell m 9).ae (cell m 10),true) else(aL m,false)) else
 bif tt ((cell d 9).ZY=1) then(bif tt (0<=dW (cell m 6).ae (cell d 2).ae∨(cell m 1).ZY<=(cell m 6).ae.length) then(aL m,false) else(mkM m (uQ (cell m 6).ae (aG d)) (cell m 7).ae (cell m 8).ae (cell m 9).ae (cell m 10),true)) else
 (aL m,tt (dW (cell m 6).ae (cell d 2).ae<0∧(cell m 1).ZY<=(cell m 6).ae.length))
noncomputable def atL(m d:List D):List D:=ag (cell m 6).ae (dW (cell m 6).ae (cell d 2).ae).toNat
noncomputable def bZ(m d:List D):List D×Bool:=bif tt (dW (cell m 6).ae (cell d 2).ae<0∨aH aj (atL m d) (aG d)=false) then(aL m,false) else(mkM m (cell m 6).ae (tells (cell m 7).ae (aG d)) ((cell m 8).ae++[bn (aG d)]) (cell m 9).ae (cell m 10),true)
noncomputable def getM(m d:List D):List D×Bool:=(aL m,bif tt ((cell d 9).ZY=6) then tt (dW (cell m 6).ae (cell d 6).ae<0∧(cell d 10).ae.length=0) else tt (0<=dW (cell m 6).ae (cell d 6).ae∧(cell d 10).ae.length=1∧aH aj (ag (cell m 6).ae (dW (cell m 6).ae (cell d 6).ae).toNat) (ag (cell d 10).ae 0)=true))
def lQ(m d r:List D):Prop:=partOf (iY (cell r 0).ae) (cell m 0).ZY=(cell d 7).ZY∧(cell r 2).ZY<=(cell d 11).ZY
def rA(r:List D):List D:=[cell r 0,cell r 1,cell r 2,cell r 3]
noncomputable def He(m d:List D):List (List D):=(cell m 6).ae.flatMap fun r=>bif tt (lQ m d r) then[rA r] else[]
noncomputable def D8(m d:List D):List (List D):=(cell m 6).ae.flatMap fun r=>bif tt (lQ m d r) then[] else[rA r]
noncomputable def bJ(m d:List D):List D×Bool:=(mkM m (D8 m d) (cell m 7).ae (cell m 8).ae (cell m 9).ae (cell m 10),eqR (aH aj) (stS ltA (als (cell d 10).ae)) (He m d))
noncomputable def Br(m d:List D):List (List D):=bX (cell d 2).ae (cell m 5).ae
noncomputable def xN(m d:List D):Prop:=gH (cell m 9).ae (Br m d)<0∧12<=(cell m 9).ae.length
noncomputable def lm(m d:List D):List (List D):=fN (cell m 9).ae (aG d) (cell m 5).ae (cell m 10) (cell d 11)
noncomputable def bP(m d:List D):List D×Bool:=bif tt ((cell m 8).ae.length=0∨aH aj (ag (cell m 8).ae 0) (aG d)=false) then(aL m,false) else
 bif tt ((cell d 9).ZY=3∨xN m d) then(mkM m (cell m 6).ae (cell m 7).ae (als ((cell m 8).ae.drop 1)) (cell m 9).ae (cell m 10),tt ((cell d 9).ZY=3∧xN m d∧(cell d 8).ZY=0)) else
 (mkM m (cell m 6).ae (cell m 7).ae (als ((cell m 8).ae.drop 1)) (lm m d) (bif tt (gH (cell m 9).ae (Br m d)<0) then .int (IntKind.i64.wrap ((cell m 10).ZY+1)) else cell m 10),
   tt ((cell d 11).ZY<=99999∧(cell (ag (lm m d) (gH (lm m d) (Br m d)).toNat) 0).ZY=(cell d 8).ZY∧(gH (cell m 9).ae (Br m d)<0↔(cell d 9).ZY=1)))
noncomputable def atG(m d:List D):List D:=ag (cell m 9).ae (eo (cell m 9).ae (cell d 8).ZY).toNat
noncomputable def aX(m d:List D):List D×Bool:=bif tt ((cell d 9).ZY=6) then(aL m,tt (eo (cell m 9).ae (cell d 8).ZY<0∧(cell d 10).ae.length=0)) else
 bif tt (eo (cell m 9).ae (cell d 8).ZY<0∨(cell d 11).ZY<yQ (cell (atG m d) 2).ZY (cell (atG m d) 3).ZY (cell m 3).ZY (cell m 4).ZY∨99999<(cell d 11).ZY∨eqR (aH aj) (cell d 10).ae (cell (atG m d) 4).ae=false) then(aL m,false) else
 (mkM m (cell m 6).ae (cell m 7).ae (cell m 8).ae (iz (cell m 9).ae (cell d 8).ZY (cell d 11)) (cell m 10),true)
noncomputable def atS(m d:List D):List D:=ag (cell m 7).ae (cell d 7).ZY.toNat
noncomputable def b8(m d:List D):List D×Bool:=bif tt ((cell m 7).ae.length<=(cell d 7).ZY) then(aL m,false) else
 (mkM m (cell m 6).ae ((cell m 7).ae.set (cell d 7).ZY.toNat (lf (atS m d))) (cell m 8).ae (cell m 9).ae (cell m 10),
   bif tt (lX (atS m d)=1) then tt ((cell d 9).ZY=5∧eqR (aH aj) (cell d 10).ae [kA (atS m d)]=true) else bif tt (lX (atS m d)=2) then tt ((cell d 9).ZY=7∧(cell d 10).ae.length=0) else tt ((cell d 9).ZY=6∧(cell d 10).ae.length=0))
noncomputable def opM(m d:List D):List D×Bool:=bif tt ((cell d 0).ZY=1) then cg m d else bif tt ((cell d 0).ZY=2) then bZ m d else bif tt ((cell d 0).ZY=3) then getM m d else bif tt ((cell d 0).ZY=4) then(aL m,eqR (aH aj) (cell d 10).ae (cell m 6).ae) else
 bif tt ((cell d 0).ZY=5) then bJ m d else bif tt ((cell d 0).ZY=7) then bP m d else bif tt ((cell d 0).ZY=8) then aX m d else bif tt ((cell d 0).ZY=9) then b8 m d else(aL m,true)
noncomputable def doM(m d:List D):List D×Bool:=bif tt (¬ai d∨(cell d 13).ZY= -1) then(aL m,false) else opM m d
def zu(m:List D):Prop:=(∀i,i<(cell m 6).ae.length->(ag (cell m 6).ae i).length=4)∧∀i,i<(cell m 7).ae.length->(ag (cell m 7).ae i).length=2
noncomputable def mMB(q:List D->List D->Prop)(f:List D->List D->List D×Bool):Nat->List D->D:=con (fun ds=>(am cO (cell ds 0).row<=268435456∧am dg (cell ds 1).row<=1048576)∧eG (cell ds 0).row∧zu (cell ds 0).row∧q (cell ds 0).row (cell ds 1).row) fun c ds=>if c=2000 then .sl [(f (cell ds 0).row (cell ds 1).row).1] else .bool (f (cell ds 0).row (cell ds 1).row).2
noncomputable def bw(m d:List D):List D×Bool:=bif tt (eG m∧(doM (cT m) d).2=true) then((doM (cT m) d).1,true) else(cT m,false)
noncomputable def cL:Nat->List D->D:=con (fun ds=>am cO (cell ds 0).row<=268435456∧am dg (cell ds 1).row<=1048576) fun c ds=>if c=0 then .sl [(bw (cell ds 0).row (cell ds 1).row).1] else .bool (bw (cell ds 0).row (cell ds 1).row).2
noncomputable def runM:List D->List (List D)->Nat->List D×Nat
 |m,[],k=>(m,k)
 |m,d::l,k=>bif (bw m d).2 then runM (bw m d).1 l (k+1) else(m,k)
noncomputable def cu:Nat->List D->D:=con (fun ds=>am cO (cell ds 0).row<=1048576∧(cell ds 1).ae.length+aD (am dg) (cell ds 1).ae<=1048576) fun c ds=>if c=0 then .sl [(runM (cT (cell ds 0).row) (cell ds 1).ae 0).1] else .int (runM (cT (cell ds 0).row) (cell ds 1).ae 0).2
def wn(l:List (List D))(i:Int):Int:=(cell (ag l i.toNat) 13).ZY
def ltP(l:List (List D))(r s:List D):Bool:=decide (wn l (cell r 0).ZY<wn l (cell s 0).ZY)
noncomputable def yx:Nat->List D->D:=con (fun ds=>let l:=(cell (cell ds 2).row 0).ae;let o:=(cell (cell ds 3).row 0).ae
 ((0<=(cell ds 0).ZY∧(cell ds 0).ZY<o.length)∧0<=(cell ds 1).ZY∧(cell ds 1).ZY<o.length)∧∀r,r∈o->0<=(cell r 0).ZY∧(cell r 0).ZY<l.length)
 fun _ ds=>.bool (ltP (cell (cell ds 2).row 0).ae (ag (cell (cell ds 3).row 0).ae (cell ds 0).ZY.toNat) (ag (cell (cell ds 3).row 0).ae (cell ds 1).ZY.toNat))
def fH(l:List (List D))(n:Nat):List (List D):=ti (fun i=> !decide (wn l i= -1)) (fun i=>[.int i]) n
def j7(l:List (List D)):List (List D):=stS (ltP l) (fH l l.length)
noncomputable def dI:Nat->List D->D:=con (fun ds=>(cell ds 0).ae.length<=1048576) fun _ ds=>.sl (j7 (cell ds 0).ae)
def wP(r:List D):List D:=[cell r 0,cell r 1,cell r 2,cell r 3,cell r 4,cell r 5,cell r 6,cell r 7,cell r 8,cell r 9,cell r 10,cell r 11,cell r 12,cell r 13,cell r 14]
def atP(l:List (List D))(r:List D):List D:=ag l (cell r 0).ZY.toNat
noncomputable def nc:Nat->List D->D:=con (fun ds=>(cell ds 0).ae.length<=1048576) fun _ ds=>.sl ((j7 (cell ds 0).ae).map fun r=>wP (atP (cell ds 0).ae r))
noncomputable def m8:Nat->List D->D:=con (fun ds=>am fG (cell ds 0).row<=1048576) fun _ ds=>.sl ((j7 (cell (cell ds 0).row 18).ae).map fun r=>jw (atP (cell (cell ds 0).row 18).ae r))
noncomputable def kT(c:List D):List D:=bif tt (jz c) then[cell c 0,cell c 1,cell c 2,cell c 3,cell c 4,.sl (cell c 5).ae,.sl [],.sl (List.replicate (cell c 2).ZY.toNat [.sl [],.bool false]),.sl [],.sl [],.int 0] else[.int 0,.int 0,.int 0,.int 0,.int 0,.sl [],.sl [],.sl [],.sl [],.sl [],.int 0]
noncomputable def pC:Nat->List D->D:=con (fun ds=>am gZ (cell ds 0).row<=1048576) fun _ ds=>.sl [kT (cell ds 0).row]
noncomputable def wX(w:List D):List D×Nat:=runM (cT (kT w)) ((j7 (cell w 18).ae).map fun r=>jw (atP (cell w 18).ae r)) 0
noncomputable def pZ:Nat->List D->D:=con (fun ds=>am fG (cell ds 0).row<=1048576) fun c ds=>if c=0 then .sl [(wX (cell ds 0).row).1] else .int (wX (cell ds 0).row).2
def ji(w:List D):Prop:=iO w∧iH (cell w 18).ae∧(wX w).2=(j7 (cell w 18).ae).length∧jX w (wX w).1=true
noncomputable def Φ:Fns:=fun f=>match f with
 |189=>aF [.int .i64]
 |111=>aF [.str]
 |152=>dT [.int .i64]
 |77=>dT [.str]
 |172=>dN [.int .i64]
 |94=>dN [.str]
 |255=>aN gA
 |256=>aN aC
 |113=>aN de
 |116=>aN pz
 |221=>dY fb
 |222=>dY cf
 |79=>dY kI
 |237=>dK fb
 |238=>dK cf
 |96=>dK kI
 |99=>dK jm
 |187=>aF gA
 |188=>aF aC
 |45=>aF de
 |48=>aF pz
 |150=>dT fb
 |151=>dT cf
 |21=>dT kI
 |24=>dT jm
 |170=>dN fb
 |171=>dN cf
 |33=>dN kI
 |36=>dN jm
 |112=>aN dw
 |78=>dY gW
 |95=>dK gW
 |44=>aF dw
 |20=>dT gW
 |32=>dN gW
 |114=>aN aj
 |117=>aN py
 |80=>dY bo
 |82=>dY fk
 |97=>dK bo
 |100=>dK fk
 |46=>aF aj
 |49=>aF py
 |22=>dT bo
 |25=>dT fk
 |34=>dN bo
 |37=>dN fk
 |115=>aN aM
 |81=>dY fq
 |98=>dK fq
 |47=>aF aM
 |23=>dT fq
 |35=>dN fq
 |43=>aN gZ
 |19=>dY oe
 |31=>dK oe
 |118=>aN ma
 |83=>dY gV
 |101=>dK gV
 |50=>aF ma
 |26=>dT gV
 |38=>dN gV
 |119=>aN dg
 |84=>dY gX
 |102=>dK gX
 |51=>aF dg
 |27=>dT gX
 |39=>dN gX
 |10=>aN fG
 |6=>dY fO
 |8=>dK fO
 |3=>Ff
 |292=>mCp
 |220=>bN
 |201=>bN
 |202=>bL
 |190=>bL
 |149=>cQ
 |138=>cQ
 |272=>bH
 |259=>bH
 |293=>yB
 |291=>xU
 |219=>AU
 |209=>gx
 |208=>jE
 |218=>jE
 |137=>cR
 |148=>cR
 |163=>aF aC
 |248=>aF aC
 |162=>aN aj
 |217=>aN aj
 |136=>aF aj
 |147=>aF aj
 |139=>aN de
 |215=>aN de
 |145=>aF de
 |140=>aN aM
 |216=>aN aM
 |146=>aF aM
 |214=>aF [.str]
 |207=>aF [.str]
 |144=>aN gZ
 |135=>aN gZ
 |76=>eE
 |73=>eE
 |86=>mB fun ds=>(cell ds 1).ZY<=(cell ds 0).ZY∧(cell ds 0).ZY<=(cell ds 2).ZY
 |104=>mB fun ds=>(cell ds 1).ZY<=(cell ds 0).ZY∧(cell ds 0).ZY<=(cell ds 2).ZY
 |223=>mB fun ds=>kM (cell ds 0).ao
 |239=>mB fun ds=>kM (cell ds 0).ao
 |227=>mB fun ds=>j6 (cell ds 0).ao
 |243=>mB fun ds=>j6 (cell ds 0).ao
 |295=>mB fun ds=>qz (cell ds 0).row
 |302=>mB fun ds=>qz (cell ds 0).row
 |226=>mB fun ds=>kX (cell ds 0).ae
 |242=>mB fun ds=>kX (cell ds 0).ae
 |156=>mB fun ds=>kV (cell ds 0).row
 |178=>mB fun ds=>kV (cell ds 0).row
 |339=>Ab
 |299=>oN
 |329=>oN
 |330=>FQ
 |340=>FQ
 |311=>jH
 |335=>jH
 |264=>cP
 |319=>cP
 |260=>bu
 |332=>bu
 |325=>zn
 |224=>mB fun ds=>Aa (cell ds 0).ae
 |240=>mB fun ds=>Aa (cell ds 0).ae
 |153=>mB fun ds=>ByP (cell ds 0).ae
 |173=>mB fun ds=>ByP (cell ds 0).ae
 |85=>mB fun ds=>jz (cell ds 0).row
 |103=>mB fun ds=>jz (cell ds 0).row
 |298=>FH
 |328=>FH
 |233=>eZ
 |306=>eZ
 |232=>dB
 |301=>dB
 |294=>mB fun ds=>kC (cell ds 0).row
 |300=>mB fun ds=>kC (cell ds 0).row
 |225=>mB fun ds=>nL (cell ds 0).row (cell ds 1).ZY (cell ds 2).ZY
 |241=>mB fun ds=>nL (cell ds 0).row (cell ds 1).ZY (cell ds 2).ZY
 |154=>mB fun ds=>je (cell ds 0).ae
 |174=>mB fun ds=>je (cell ds 0).ae
 |155=>mB fun ds=>iS (cell ds 1).row
 |176=>mB fun ds=>iS (cell ds 1).row
 |175=>wR
 |88=>mB fun ds=>kS (cell ds 0).ae
 |107=>mB fun ds=>kS (cell ds 0).ae
 |89=>mB fun ds=>tW (cell ds 0).row
 |177=>mB fun ds=>tW (cell ds 0).row
 |106=>mB fun ds=>tD (cell ds 0).ae (cell (cell ds 1).row 2).ZY
 |244=>mB fun ds=>AS (cell ds 0).ZY (cell ds 1).ZY
 |90=>mB fun ds=>ai (cell ds 0).row
 |179=>mB fun ds=>ai (cell ds 0).row
 |159=>mB fun ds=>cV (cell ds 0).row (cell ds 1).ZY
 |180=>mB fun ds=>cV (cell ds 0).row (cell ds 1).ZY
 |165=>eN
 |182=>eN
 |166=>mB fun ds=>iP (cell ds 0).row
 |183=>mB fun ds=>iP (cell ds 0).row
 |235=>mB fun ds=>Bef (cell ds 0).row (cell ds 1).row
 |253=>mB fun ds=>Bef (cell ds 0).row (cell ds 1).row
 |168=>mB fun ds=>nD (cell ds 0).ae
 |185=>mB fun ds=>nD (cell ds 0).ae
 |234=>mB fun ds=>kR (cell ds 0).row (cell ds 1).ae
 |251=>mB fun ds=>kR (cell ds 0).row (cell ds 1).ae
 |167=>mB fun ds=>eA (cell ds 0).ae (cell ds 1).ae
 |184=>mB fun ds=>eA (cell ds 0).ae (cell ds 1).ae
 |158=>kp
 |157=>IY
 |228=>mB fun ds=>gJ (cell (cell ds 0).row 0) (cell (cell ds 0).row 1) (cell (cell ds 0).row 2) (cell (cell ds 0).row 3)
 |229=>mB fun ds=>uY (cell ds 0).row
 |246=>mB fun ds=>Aj (cell ds 0).row
 |245=>aN ma
 |303=>aF [.int .i64]
 |230=>eK
 |304=>eK
 |161=>dJ
 |247=>dJ
 |296=>gG
 |326=>gG
 |297=>mW
 |327=>mW
 |231=>oQ
 |305=>oQ
 |236=>jB
 |254=>jB
 |169=>jC
 |186=>jC
 |250=>ug
 |307=>mB fun ds=>zr (cell ds 0).ae (cell ds 1).ae (cell ds 2).ae
 |252=>cJ
 |164=>i8
 |160=>gc
 |29=>L4
 |41=>L4
 |30=>mB fun ds=>Jw (cell ds 0).row
 |42=>mB fun ds=>Jw (cell ds 0).row
 |87=>mBw (fun _=>True) fun ds=>ii (cell ds 0).row
 |105=>mBw (fun _=>True) fun ds=>ii (cell ds 0).row
 |249=>mBw (fun ds=>gy (cell ds 0).row∧(cell (cell ds 1).row 0).ZY=3∧∃k,cV (cell ds 1).row k) fun ds=>vg (cell ds 0).row (cell ds 1).row
 |181=>mBw (fun ds=>gy (cell ds 0).row∧(cell (cell ds 1).row 0).ZY≠0∧∃k,cV (cell ds 1).row k) fun ds=>(cell (cell ds 2).row 0).ZY=fm (cell (cell ds 1).row 0).ZY∧jr (cell ds 0).row (cell ds 1).row (cell ds 2).row
 |108=>mBw (fun ds=>gy (cell ds 0).row) fun ds=>nC (cell ds 0).row∧nI (cell ds 0).row
 |91=>mBw (fun ds=>gy (cell ds 0).row∧0<=(cell ds 1).ZY∧(cell ds 1).ZY<(cell (cell ds 0).row 17).ae.length) fun ds=>jL (cell ds 0).row (cell ds 1).ZY.toNat
 |92=>mBw (fun ds=>yr (cell ds 0).row) fun ds=>jd (cell ds 0).row
 |109=>mB fun ds=>jd (cell ds 0).row
 |93=>mBw (fun ds=>(cell (cell ds 0).row 17).ae.length=5) fun ds=>fc (cell ds 0).row
 |110=>mBw (fun ds=>(cell (cell ds 0).row 17).ae.length=5) fun ds=>fc (cell ds 0).row
 |28=>mBw (fun _=>True) fun ds=>iO (cell ds 0).row
 |40=>mBw (fun _=>True) fun ds=>iO (cell ds 0).row
 |7=>mBw (fun _=>True) fun ds=>IR (cell ds 0).row
 |9=>mBw (fun _=>True) fun ds=>IR (cell ds 0).row
 |122=>br gZ wY
 |126=>br gZ wY
 |257=>br de eu
 |270=>br de eu
 |258=>br aM iZ
 |271=>br aM iZ
 |120=>br cO cT
 |124=>br cO cT
 |123=>br dg jw
 |331=>br [.int .i64,.sl 220 [.str,.str],.int .i64,.sl 135 aj] zz
 |191=>gC de subs
 |203=>gC de subs
 |192=>gC aM grs
 |204=>gC aM grs
 |308=>mB fun ds=>pN (cell ds 0).row (cell ds 1).row
 |333=>mB fun ds=>pN (cell ds 0).row (cell ds 1).row
 |309=>yH
 |261=>dm
 |315=>dm
 |316=>oJ
 |263=>mB fun ds=>(cell (cell ds 0).row 2).ZY<=(cell ds 1).ZY
 |318=>mB fun ds=>(cell (cell ds 0).row 2).ZY<=(cell ds 1).ZY
 |310=>pd
 |334=>pd
 |262=>dP
 |317=>dP
 |269=>jM
 |323=>jM
 |312=>dR
 |336=>dR
 |266=>cZ
 |320=>cZ
 |265=>cJ
 |314=>bu
 |267=>cG
 |321=>cG
 |341=>pA
 |313=>fW
 |337=>fW
 |268=>co
 |322=>co
 |134=>mB fun ds=>mo (cell ds 0).row (cell ds 1).row
 |141=>mB fun ds=>mo (cell ds 0).row (cell ds 1).row
 |71=>mB fun ds=>iH (cell ds 0).ae
 |74=>mB fun ds=>iH (cell ds 0).ae
 |193=>mB fun ds=>eG (cell ds 0).row
 |205=>mB fun ds=>eG (cell ds 0).row
 |273=>mMB (fun _ d=>ai d) cg
 |194=>mMB (fun _ d=>ai d) cg
 |274=>mMB (fun _ d=>ai d) bZ
 |195=>mMB (fun _ d=>ai d) bZ
 |275=>mMB (fun _ d=>ai d) getM
 |196=>mMB (fun _ d=>ai d) getM
 |276=>mMB (fun _ d=>ai d) bJ
 |197=>mMB (fun _ d=>ai d) bJ
 |277=>mMB (fun _ d=>ai d) bP
 |198=>mMB (fun _ d=>ai d) bP
 |278=>mMB (fun _ d=>ai d) aX
 |199=>mMB (fun _ d=>ai d) aX
 |279=>mMB (fun _ d=>ai d) b8
 |200=>mMB (fun _ d=>ai d) b8
 |206=>mMB (fun _ _=>True) doM
 |121=>cL
 |125=>cL
 |52=>cu
 |55=>cu
 |72=>dI
 |75=>dI
 |57=>nc
 |54=>m8
 |53=>pC
 |56=>pC
 |11=>pZ
 |12=>pZ
 |17=>mBw (fun _=>True) fun ds=>ji (cell ds 0).row
 |18=>mBw (fun _=>True) fun ds=>ji (cell ds 0).row
 |5=>Ff
 |143=>yx
 |_=>fun _ _=>default
theorem Φ5:Φ 5=Ff:=rfl
theorem Φ6:Φ 6=dY fO:=rfl
theorem Φ8:Φ 8=dK fO:=rfl
theorem UD:Φ 10=aN fG:=rfl
theorem HQ:Φ 11=pZ:=rfl
theorem IL:Φ 12=pZ:=rfl
theorem Hz:Φ 17=mBw (fun _=>True) fun ds=>ji (cell ds 0).row:=rfl
theorem HV:Φ 18=mBw (fun _=>True) fun ds=>ji (cell ds 0).row:=rfl
theorem Sc:Φ 19=dY oe:=rfl
theorem Tz:Φ 20=dT gW:=rfl
theorem RB:Φ 21=dT kI:=rfl
theorem Ac:Φ 22=dT bo:=rfl
theorem Rp:Φ 23=dT fq:=rfl
theorem RL:Φ 24=dT jm:=rfl
theorem Ub:Φ 25=dT fk:=rfl
theorem SE:Φ 26=dT gV:=rfl
theorem W1:Φ 27=dT gX:=rfl
theorem tY:Φ 28=mBw (fun _=>True) fun ds=>iO (cell ds 0).row:=rfl
theorem Nk:Φ 31=dK oe:=rfl
theorem Sm:Φ 32=dN gW:=rfl
theorem TN:Φ 33=dN kI:=rfl
theorem Be:Φ 34=dN bo:=rfl
theorem UR:Φ 35=dN fq:=rfl
theorem VN:Φ 36=dN jm:=rfl
theorem Uj:Φ 37=dN fk:=rfl
theorem Wd:Φ 38=dN gV:=rfl
theorem Se:Φ 39=dN gX:=rfl
theorem CV:Φ 40=mBw (fun _=>True) fun ds=>iO (cell ds 0).row:=rfl
theorem Vh:Φ 43=aN gZ:=rfl
theorem CQ:Φ 46=aF aj:=rfl
theorem DM:Φ 52=cu:=rfl
theorem C5:Φ 53=pC:=rfl
theorem FN:Φ 54=m8:=rfl
theorem Df:Φ 55=cu:=rfl
theorem JX:Φ 56=pC:=rfl
theorem No:Φ 57=nc:=rfl
theorem Ky:Φ 71=mB fun ds=>iH (cell ds 0).ae:=rfl
theorem A4:Φ 72=dI:=rfl
theorem BU:Φ 73=eE:=rfl
theorem Kw:Φ 74=mB fun ds=>iH (cell ds 0).ae:=rfl
theorem Od:Φ 75=dI:=rfl
theorem HF:Φ 76=eE:=rfl
theorem M3:Φ 80=dY bo:=rfl
theorem lC:Φ 85=mB fun ds=>jz (cell ds 0).row:=rfl
theorem gF:Φ 86=mB fun ds=>(cell ds 1).ZY<=(cell ds 0).ZY∧(cell ds 0).ZY<=(cell ds 2).ZY:=rfl
theorem nQ:Φ 87=mBw (fun _=>True) fun ds=>ii (cell ds 0).row:=rfl
theorem j8:Φ 88=mB fun ds=>kS (cell ds 0).ae:=rfl
theorem oK:Φ 89=mB fun ds=>tW (cell ds 0).row:=rfl
theorem lD:Φ 90=mB fun ds=>ai (cell ds 0).row:=rfl
theorem m0:Φ 91=mBw (fun ds=>gy (cell ds 0).row∧0<=(cell ds 1).ZY∧(cell ds 1).ZY<(cell (cell ds 0).row 17).ae.length) fun ds=>jL (cell ds 0).row (cell ds 1).ZY.toNat:=rfl
theorem mF:Φ 92=mBw (fun ds=>yr (cell ds 0).row) fun ds=>jd (cell ds 0).row:=rfl
theorem rH:Φ 93=mBw (fun ds=>(cell (cell ds 0).row 17).ae.length=5) fun ds=>fc (cell ds 0).row:=rfl
theorem Sl:Φ 95=dK gW:=rfl
theorem V9:Φ 96=dK kI:=rfl
theorem Kx:Φ 97=dK bo:=rfl
theorem VF:Φ 98=dK fq:=rfl
theorem Wf:Φ 99=dK jm:=rfl
theorem L9:Φ 100=dK fk:=rfl
theorem ME:Φ 101=dK gV:=rfl
theorem LJ:Φ 102=dK gX:=rfl
theorem mN:Φ 103=mB fun ds=>jz (cell ds 0).row:=rfl
theorem dX:Φ 104=mB fun ds=>(cell ds 1).ZY<=(cell ds 0).ZY∧(cell ds 0).ZY<=(cell ds 2).ZY:=rfl
theorem na:Φ 105=mBw (fun _=>True) fun ds=>ii (cell ds 0).row:=rfl
theorem pe:Φ 106=mB fun ds=>tD (cell ds 0).ae (cell (cell ds 1).row 2).ZY:=rfl
theorem mK:Φ 107=mB fun ds=>kS (cell ds 0).ae:=rfl
theorem oR:Φ 108=mBw (fun ds=>gy (cell ds 0).row) fun ds=>nC (cell ds 0).row∧nI (cell ds 0).row:=rfl
theorem uP:Φ 109=mB fun ds=>jd (cell ds 0).row:=rfl
theorem qv:Φ 110=mBw (fun ds=>(cell (cell ds 0).row 17).ae.length=5) fun ds=>fc (cell ds 0).row:=rfl
theorem Mh:Φ 112=aN dw:=rfl
theorem MH:Φ 113=aN de:=rfl
theorem Em:Φ 114=aN aj:=rfl
theorem Mw:Φ 115=aN aM:=rfl
theorem L7:Φ 116=aN pz:=rfl
theorem MB:Φ 117=aN py:=rfl
theorem LF:Φ 118=aN ma:=rfl
theorem MA:Φ 119=aN dg:=rfl
theorem iB:Φ 120=br cO cT:=rfl
theorem iU:Φ 121=cL:=rfl
theorem sX:Φ 122=br gZ wY:=rfl
theorem Ar:Φ 123=br dg jw:=rfl
theorem pW:Φ 124=br cO cT:=rfl
theorem sY:Φ 125=cL:=rfl
theorem zR:Φ 126=br gZ wY:=rfl
theorem gq:Φ 136=aF aj:=rfl
theorem pk:Φ 137=cR:=rfl
theorem Ml:Φ 138=cQ:=rfl
theorem E3:Φ 143=yx:=rfl
theorem Mm:Φ 144=aN gZ:=rfl
theorem fa:Φ 147=aF aj:=rfl
theorem oV:Φ 148=cR:=rfl
theorem HO:Φ 149=cQ:=rfl
theorem MM:Φ 150=dT fb:=rfl
theorem xw:Φ 151=dT cf:=rfl
theorem pc:Φ 154=mB fun ds=>je (cell ds 0).ae:=rfl
theorem dF:Φ 155=mB fun ds=>iS (cell ds 1).row:=rfl
theorem gK:Φ 156=mB fun ds=>kV (cell ds 0).row:=rfl
theorem LM:Φ 158=kp:=rfl
theorem jv:Φ 159=mB fun ds=>cV (cell ds 0).row (cell ds 1).ZY:=rfl
theorem nA:Φ 160=gc:=rfl
theorem mS:Φ 161=dJ:=rfl
theorem fQ:Φ 162=aN aj:=rfl
theorem dz:Φ 163=aF aC:=rfl
theorem nj:Φ 164=i8:=rfl
theorem nK:Φ 165=eN:=rfl
theorem od:Φ 166=mB fun ds=>iP (cell ds 0).row:=rfl
theorem iV:Φ 167=mB fun ds=>eA (cell ds 0).ae (cell ds 1).ae:=rfl
theorem wB:Φ 168=mB fun ds=>nD (cell ds 0).ae:=rfl
theorem m9:Φ 169=jC:=rfl
theorem LK:Φ 170=dN fb:=rfl
theorem yE:Φ 171=dN cf:=rfl
theorem nM:Φ 174=mB fun ds=>je (cell ds 0).ae:=rfl
theorem s7:Φ 175=wR:=rfl
theorem eB:Φ 176=mB fun ds=>iS (cell ds 1).row:=rfl
theorem jy:Φ 178=mB fun ds=>kV (cell ds 0).row:=rfl
theorem iR:Φ 179=mB fun ds=>ai (cell ds 0).row:=rfl
theorem k8:Φ 180=mB fun ds=>cV (cell ds 0).row (cell ds 1).ZY:=rfl
theorem l0:Φ 181=mBw (fun ds=>gy (cell ds 0).row∧(cell (cell ds 1).row 0).ZY≠0∧∃k,cV (cell ds 1).row k) fun ds=>(cell (cell ds 2).row 0).ZY=fm (cell (cell ds 1).row 0).ZY∧jr (cell ds 0).row (cell ds 1).row (cell ds 2).row:=rfl
theorem Ah:Φ 182=eN:=rfl
theorem BH:Φ 183=mB fun ds=>iP (cell ds 0).row:=rfl
theorem l6:Φ 184=mB fun ds=>eA (cell ds 0).ae (cell ds 1).ae:=rfl
theorem vL:Φ 185=mB fun ds=>nD (cell ds 0).ae:=rfl
theorem n8:Φ 186=jC:=rfl
theorem Bu:Φ 188=aF aC:=rfl
theorem gN:Φ 190=bL:=rfl
theorem ET:Φ 191=gC de subs:=rfl
theorem qF:Φ 192=gC aM grs:=rfl
theorem iw:Φ 193=mB fun ds=>eG (cell ds 0).row:=rfl
theorem eh:Φ 201=bN:=rfl
theorem iW:Φ 202=bL:=rfl
theorem EA:Φ 203=gC de subs:=rfl
theorem qU:Φ 204=gC aM grs:=rfl
theorem sV:Φ 205=mB fun ds=>eG (cell ds 0).row:=rfl
theorem xC:Φ 208=jE:=rfl
theorem ll:Φ 209=gx:=rfl
theorem LI:Φ 215=aN de:=rfl
theorem Mn:Φ 216=aN aM:=rfl
theorem iT:Φ 217=aN aj:=rfl
theorem As:Φ 218=jE:=rfl
theorem Iu:Φ 219=AU:=rfl
theorem gp:Φ 220=bN:=rfl
theorem AG:Φ 223=mB fun ds=>kM (cell ds 0).ao:=rfl
theorem AK:Φ 225=mB fun ds=>nL (cell ds 0).row (cell ds 1).ZY (cell ds 2).ZY:=rfl
theorem il:Φ 226=mB fun ds=>kX (cell ds 0).ae:=rfl
theorem EG:Φ 227=mB fun ds=>j6 (cell ds 0).ao:=rfl
theorem p9:Φ 228=mB fun ds=>gJ (cell (cell ds 0).row 0) (cell (cell ds 0).row 1) (cell (cell ds 0).row 2) (cell (cell ds 0).row 3):=rfl
theorem qg:Φ 229=mB fun ds=>uY (cell ds 0).row:=rfl
theorem yn:Φ 230=eK:=rfl
theorem IU:Φ 231=oQ:=rfl
theorem tz:Φ 232=dB:=rfl
theorem mI:Φ 233=eZ:=rfl
theorem oc:Φ 234=mB fun ds=>kR (cell ds 0).row (cell ds 1).ae:=rfl
theorem LS:Φ 236=jB:=rfl
theorem MD:Φ 237=dK fb:=rfl
theorem ML:Φ 238=dK cf:=rfl
theorem xT:Φ 239=mB fun ds=>kM (cell ds 0).ao:=rfl
theorem u7:Φ 241=mB fun ds=>nL (cell ds 0).row (cell ds 1).ZY (cell ds 2).ZY:=rfl
theorem kv:Φ 242=mB fun ds=>kX (cell ds 0).ae:=rfl
theorem Bg:Φ 243=mB fun ds=>j6 (cell ds 0).ao:=rfl
theorem ru:Φ 245=aN ma:=rfl
theorem qO:Φ 246=mB fun ds=>Aj (cell ds 0).row:=rfl
theorem qS:Φ 247=dJ:=rfl
theorem kJ:Φ 248=aF aC:=rfl
theorem tg:Φ 249=mBw (fun ds=>gy (cell ds 0).row∧(cell (cell ds 1).row 0).ZY=3∧∃k,cV (cell ds 1).row k) fun ds=>vg (cell ds 0).row (cell ds 1).row:=rfl
theorem L8:Φ 250=ug:=rfl
theorem qk:Φ 252=cJ:=rfl
theorem Mk:Φ 254=jB:=rfl
theorem LW:Φ 255=aN gA:=rfl
theorem MV:Φ 256=aN aC:=rfl
theorem Es:Φ 257=br de eu:=rfl
theorem mh:Φ 258=br aM iZ:=rfl
theorem fJ:Φ 259=bH:=rfl
theorem k7:Φ 260=bu:=rfl
theorem m7:Φ 261=dm:=rfl
theorem w6:Φ 262=dP:=rfl
theorem wg:Φ 263=mB fun ds=>(cell (cell ds 0).row 2).ZY<=(cell ds 1).ZY:=rfl
theorem lS:Φ 264=cP:=rfl
theorem wC:Φ 265=cJ:=rfl
theorem vP:Φ 266=cZ:=rfl
theorem tk:Φ 267=cG:=rfl
theorem qD:Φ 268=co:=rfl
theorem yo:Φ 269=jM:=rfl
theorem yp:Φ 270=br de eu:=rfl
theorem xL:Φ 271=br aM iZ:=rfl
theorem jQ:Φ 272=bH:=rfl
theorem EC:Φ 291=xU:=rfl
theorem Ap:Φ 292=mCp:=rfl
theorem D3:Φ 293=yB:=rfl
theorem vz:Φ 294=mB fun ds=>kC (cell ds 0).row:=rfl
theorem Iv:Φ 296=gG:=rfl
theorem EF:Φ 297=mW:=rfl
theorem HJ:Φ 299=oN:=rfl
theorem Bv:Φ 300=mB fun ds=>kC (cell ds 0).row:=rfl
theorem tA:Φ 301=dB:=rfl
theorem xl:Φ 304=eK:=rfl
theorem GO:Φ 305=oQ:=rfl
theorem pf:Φ 306=eZ:=rfl
theorem Bk:Φ 307=mB fun ds=>zr (cell ds 0).ae (cell ds 1).ae (cell ds 2).ae:=rfl
theorem Mt:Φ 309=yH:=rfl
theorem Io:Φ 310=pd:=rfl
theorem LX:Φ 311=jH:=rfl
theorem qu:Φ 312=dR:=rfl
theorem tE:Φ 313=fW:=rfl
theorem kr:Φ 314=bu:=rfl
theorem nJ:Φ 315=dm:=rfl
theorem li:Φ 316=oJ:=rfl
theorem w5:Φ 317=dP:=rfl
theorem Cb:Φ 318=mB fun ds=>(cell (cell ds 0).row 2).ZY<=(cell ds 1).ZY:=rfl
theorem mO:Φ 319=cP:=rfl
theorem vA:Φ 320=cZ:=rfl
theorem ta:Φ 321=cG:=rfl
theorem qx:Φ 322=co:=rfl
theorem yv:Φ 323=jM:=rfl
theorem LY:Φ 325=zn:=rfl
theorem Js:Φ 326=gG:=rfl
theorem Ep:Φ 327=mW:=rfl
theorem IG:Φ 329=oN:=rfl
theorem Bz:Φ 332=bu:=rfl
theorem Je:Φ 334=pd:=rfl
theorem Ma:Φ 335=jH:=rfl
theorem zQ:Φ 336=dR:=rfl
theorem A7:Φ 337=fW:=rfl
theorem A2:Φ 341=pA:=rfl
abbrev GG(t:ah):Prop:=cW Tryz.prog Φ t
theorem gd{t:ah}{fn:Func}{vc:VC}(l:List ah)(hl:∀t∈l,GG t) (hf:Tryz.prog.funcs[t.f]? =some fn) (hw:∀ds,ds.length=t.args.length->vD t.args ds->(Φ t.f 1000 ds).ZZ=true->vc.wp Φ (fun l=>l=dG (fun c=>Φ t.f c ds) 0 t.ax) ds fun _ _=>False) (hs:List Hint:=[]) (hv:C0 TT (sigs l) hs fn t.args t.ax=some vc:=by kernel_rfl) (hn:fn.name≠ "runtime.NumGoroutine" :=by decide) (hlen:t.args.length<=fn.ntmps:=by decide) (hx:t.xs=none:=by rfl) (hbs:t.bs=none:=by rfl) (hso:t.so=none:=by rfl) (hnb:t.nb=none:=by rfl):GG t:=
 TU tok mixed hl hf hn hlen hv hw hx hbs hso hnb
theorem gde{t:ah}{fn:Func}{vc:VC}(l:List ah)(hl:∀t∈l,GG t) (hf:Tryz.prog.funcs[t.f]? =some fn) (hw:∀ds,ds.length=t.args.length->vD t.args ds->(Φ t.f 1000 ds).ZZ=true->vc.wp Φ (fun l=>em (t.ax.flatMap RSh.cells) l (dG (fun c=>Φ t.f c ds) 0 t.ax)) ds fun _ _=>False) (hs:List Hint:=[]) (hv:C0 TT (sigs l) hs fn t.args t.ax=some vc:=by kernel_rfl) (hn:fn.name≠ "runtime.NumGoroutine" :=by decide) (hlen:t.args.length<=fn.ntmps:=by decide) (hx:t.xs=none:=by rfl) (hbs:t.bs=none:=by rfl) (hso:t.so=none:=by rfl) (hnb:t.nb=none:=by rfl):GG t:=
 HC tok mixed hl hf hn hlen hv hw hx hbs hso hnb
end Go.Proofs.YtlkidecpmfhheaaGreat

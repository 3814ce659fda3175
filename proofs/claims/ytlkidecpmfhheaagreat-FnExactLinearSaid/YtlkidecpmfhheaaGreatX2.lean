import Derived.Test.YtlkidecpmfhheaaGreatS4
set_option linter.all false
namespace Go.Proofs.YtlkidecpmfhheaaGreat
open Go.Vx
theorem wV:GG g86:=gd (vc:=v86) [] (by simp) Tryz.func86 (mZ fun a b c hw hp=>by
 simp[v86,g86,gF,mB]
 done)
theorem mV:GG qN:=gd (vc:=PR) [] (by simp) Tryz.func104 (mZ fun a b c hw hp=>by
 simp[PR,qN,dX,mB]
 done)
theorem yX{p:Prop}(h:p):tt p=true:=by simpa using h
theorem vo{p:Prop}(h:¬p):tt p=false:=by simpa using h
theorem ce{p:Nat->Prop}{i:Nat}(h:∀j,j<i->p j) (hi:p i):∀j,j<i+1->p j:=fun j hj=>by
 by_cases e:j=i
 · exact e▸hi
 · exact h j (by omega)
theorem MI:GG FT:=gd (vc:=XB) (hs:=[⟨2,[0],[],false⟩]) [g86] (by simp[wV]) Tryz.func223 (args1 fun a hw hp=>by
 simp[FT,al] at hw
 refine bT (Φ:=Φ) (N:=a.ao.size) rfl (fun _=>by simp) (by omega) (fun i=>∀j,j<i->AF a.ao j) (by omega) (fun i hi hI=> ?_) (fun hI p=> ?_)
 · simp[FT,AG,mB,hi]
   refine⟨fun h=> ?_,fun h1 h2=>ce hI ⟨by unfold byte;omega,by unfold byte;omega⟩⟩
   rintro⟨-,h3⟩
   have:=h3 i hi
   simp only[AF,byte] at this
   omega
 · simp[FT,AG,gF,mB,kM,-bW]
   congr 1
   exact⟨fun h=>⟨by omega,hI⟩,fun h=>by omega⟩)
theorem Mz:GG CB:=gd (vc:=UQ) (hs:=[⟨4,[0],[],false⟩]) [qN] (by simp[mV]) Tryz.func239 (args1 fun a hw hp=>by
 simp[CB,al] at hw
 unfold UQ
 rw[aJ,aO]
 refine⟨by simp[dX,mB],fun h=> ?_,fun h=> ?_⟩
 · simp[CB,xT,dX,mB,kM] at h⊢
   intro h1 h2;omega
 simp[dX,mB] at h
 refine bT (Φ:=Φ) (N:=a.ao.size) rfl (fun _=>by simp) (by omega) (fun i=>∀j,j<i->AF a.ao j) (by omega) (fun i hi hI=> ?_) (fun hI p=> ?_)
 · simp[CB,xT,mB,hi]
   refine⟨fun h=> ?_,fun h1 h2=>ce hI ⟨by unfold byte;omega,by unfold byte;omega⟩⟩
   rintro⟨-,h3⟩
   have:=h3 i hi
   simp only[AF,byte] at this
   omega
 · simp[CB,xT,mB,kM]
   exact⟨by omega,hI⟩)
theorem MJ:GG FM:=gd (vc:=v227) (hs:=[⟨2,[0],[],false⟩]) [] (by simp) Tryz.func227 (args1 fun a hw hp=>by
 simp[FM,al] at hw
 refine bT (Φ:=Φ) (N:=a.ao.size) rfl (fun _=>by simp) (by omega) (fun i=>∀j,j<i->vJ a.ao j) (by omega) (fun i hi hI=> ?_) (fun hI p=> ?_)
 · simp[FM,EG,mB,hi]
   refine⟨fun h=> ?_,fun h1 h2 h3 h4=>ce hI ⟨by unfold byte;omega,by unfold byte;omega,by unfold byte;omega,by unfold byte;omega⟩⟩
   rintro⟨-,h3⟩
   have:=h3 i hi
   simp only[vJ,byte] at this
   omega
 · simp[FM,EG,mB,j6,-bW]
   congr 1
   exact⟨fun h=>⟨by omega,hI⟩,fun h=>by omega⟩)
theorem MK:GG Cr:=gd (vc:=TX) (hs:=[⟨4,[0],[],false⟩]) [] (by simp) Tryz.func243 (args1 fun a hw hp=>by
 simp[Cr,al] at hw
 unfold TX
 rw[aO]
 refine⟨fun h=> ?_,fun h=> ?_⟩
 · simp[Cr,Bg,mB,j6] at h⊢
   intro h1;omega
 simp at h
 refine bT (Φ:=Φ) (N:=a.ao.size) rfl (fun _=>by simp) (by omega) (fun i=>∀j,j<i->vJ a.ao j) (by omega) (fun i hi hI=> ?_) (fun hI p=> ?_)
 · simp[Cr,Bg,mB,hi]
   refine⟨fun h=> ?_,fun h1 h2 h3 h4=>ce hI ⟨by unfold byte;omega,by unfold byte;omega,by unfold byte;omega,by unfold byte;omega⟩⟩
   rintro⟨-,h3⟩
   have:=h3 i hi
   simp only[vJ,byte] at this
   omega
 · simp[Cr,Bg,mB,j6]
   exact⟨by omega,hI⟩)
theorem WH:GG OZ:=gd (vc:=WZ) [FT,FM] (by simp[MI,MJ]) Tryz.func295 (args1 fun a hw hp=>by
 simp[WZ,OZ,show Φ 295=mB _ from rfl,AG,EG,mB,qz])
theorem VW:GG Py:=gd (vc:=U3) [CB,Cr] (by simp[Mz,MK]) Tryz.func302 (args1 fun a hw hp=>by
 simp[U3,Py,show Φ 302=mB _ from rfl,xT,Bg,mB,qz])
theorem x6(xs:List (List D))(i:Nat)(h:i<=140737488355328):u4 xs i↔qz (ag xs i)∧(0<i->Op.bytesLess (cell (Go.Vx.rowAt xs (IntKind.i64.wrap ((i:Int) - 1))) 0).ao.toList (cell (ag xs i) 0).ao.toList=true):=by
 unfold u4
 by_cases e:0<i
 · rw[w64 (by omega) (by omega),show((i:Int) - 1)=((i - 1:Nat):Int) by omega,Go.Vx.af]
 · simp[e]
theorem xi(i:Nat)(h:i<=140737488355328):i=0∨IntKind.i64.wrap ((i:Int) - 1)=(i:Int) - 1:=by
 by_cases e:i=0
 · exact .inl e
 · exact .inr (w64 (by omega) (by omega))
theorem ED:GG B6:=gd (vc:=v226) (hs:=[⟨2,[0],[],false⟩]) [HB,OZ] (by simp[WH,GT]) Tryz.func226 (args1 fun a hw hp=>by
 simp[B6,al] at hw
 refine bT (Φ:=Φ) (N:=a.ae.length) rfl (fun _=>by simp) (by omega) (fun i=>∀j,j<i->u4 a.ae j) (by omega) (fun i hi hI=> ?_) (fun hI p=> ?_)
 · have hs:=x6 a.ae i (by omega)
   have hw':=xi i (by omega)
   have hno:¬u4 a.ae i->¬kX a.ae:=fun h h'=>h (h'.2 i hi)
   simp[af,B6,il,show Φ 295=mB _ from rfl,D3,yB,mB,hi]
   generalize IntKind.i64.wrap ((i:Int) - 1)=W at hs hw'⊢
   generalize Op.bytesLess (cell (Go.Vx.rowAt a.ae W) 0).ao.toList (cell (ag a.ae i) 0).ao.toList=b at hs⊢
   generalize qz (ag a.ae i)=L at hs⊢
   refine⟨⟨by omega,by omega⟩,fun h=>hno fun h'=> ?_,fun h1 h2=>ce hI (hs.2 ⟨h1,h2⟩)⟩
   · obtain⟨h1,h2⟩:=hs.1 h'
     rcases h with h|⟨h3,h4⟩
     · exact h h1
     · rw[h2 h3] at h4;cases h4
 · simp[B6,il,mB,kX,-bW]
   congr 1
   exact⟨fun h=>⟨by omega,hI⟩,fun h=>by omega⟩)
theorem EY:GG A3:=gd (vc:=YX) (hs:=[⟨2,[0],[],false⟩]) [Py] (by simp[VW]) Tryz.func242 (args1 fun a hw hp=>by
 simp[A3,al] at hw
 refine bT (Φ:=Φ) (N:=a.ae.length) rfl (fun _=>by simp) (by omega) (fun i=>i<=4∧∀j,j<i->u4 a.ae j) ⟨by omega,by omega⟩ (fun i hi ⟨hi4,hI⟩=> ?_) (fun⟨hi4,hI⟩ p=> ?_)
 · have hs:=x6 a.ae i (by omega)
   have hw':=xi i (by omega)
   have hno:¬u4 a.ae i->¬kX a.ae:=fun h h'=>h (h'.2 i hi)
   have hno4:¬i<4->¬kX a.ae:=fun h h'=>by have:=h'.1;omega
   simp[af,A3,kv,show Φ 302=mB _ from rfl,mB,hi]
   generalize IntKind.i64.wrap ((i:Int) - 1)=W at hs hw'⊢
   generalize Op.bytesLess (cell (Go.Vx.rowAt a.ae W) 0).ao.toList (cell (ag a.ae i) 0).ao.toList=b at hs⊢
   generalize qz (ag a.ae i)=L at hs⊢
   by_cases hi':i<4
   · have e1:((i:Int)<4)=True:=by simp;omega
     have e2:((4:Int)<=i)=False:=by simp;omega
     simp only[e1,e2]
     by_cases hL:L
     · have e0:L=True:=by simp[hL]
       subst e0
       simp at hs⊢
       refine⟨by omega,fun h3 h4=>hno fun h'=> ?_,fun h2=>⟨by omega,ce hI (hs.2 h2)⟩⟩
       rw[hs.1 h' h3] at h4;cases h4
     · have e0:L=False:=by simp[hL]
       subst e0
       simp at hs⊢
       exact hno hs
   · have e1:((i:Int)<4)=False:=by simp;omega
     have e2:((4:Int)<=i)=True:=by simp;omega
     simp only[e1,e2]
     simp
     exact hno4 hi'
 · simp[A3,kv,mB,kX]
   exact⟨by omega,hI⟩)
theorem xR:GG At:=gd (vc:=VM) [g86,B6,FM] (by simp[ED,wV,MJ]) Tryz.func156 (args1 fun a hw hp=>by
 simp[VM,At,gK,il,gF,EG,mB,kV,-bW]
 simp only[and_assoc])
theorem zV:GG Co:=gd (vc:=Sk) [qN,A3,Cr] (by simp[EY,mV,MK]) Tryz.func178 (args1 fun a hw hp=>by
 simp[Sk,Co,jy,kv,dX,Bg,mB,kV,-bW]
 exact⟨fun⟨⟨⟨⟨h1,h2⟩,h3⟩,h4⟩,h5⟩=>⟨⟨h2,h1⟩,h3,h4,h5⟩,fun⟨⟨h2,h1⟩,h3,h4,h5⟩=>⟨⟨⟨⟨h1,h2⟩,h3⟩,h4⟩,h5⟩⟩)
end Go.Proofs.YtlkidecpmfhheaaGreat

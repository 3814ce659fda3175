import Derived.Test.YtlkidecpmfhheaaGreatS6
set_option linter.all false
open Nat (lt_or_ge)
namespace Go.Proofs.YtlkidecpmfhheaaGreat
open Go.Vx
theorem l7{n:Nat}(h:n<=al):(n:Int)<=140737488355328:=by simp only[al] at h;omega
theorem VD:GG OF:=gd (vc:=VG) (hs:=[⟨2,[0],[],false⟩]) [] (by simp) Tryz.func330 (args2 fun a b hw hp=>by
 simp[OF] at hw
 show VG.wp Φ (fun l=>l=[.bool (hasB a.ae b.ao)]) [a,b] _
 refine bT (N:=a.ae.length) rfl (fun d=>by simp) (l7 hw.1.1) (fun i=>∀j,j<i->¬(cell (ag a.ae j) 0).ao=b.ao) (fun j hj=>by omega) (fun i hi hI=> ?_) (fun hI p=> ?_)
 · simp[af]
   refine⟨hi,fun h=> ?_,fun h j hj=> ?_⟩
   · have:hasB a.ae b.ao=true:=by simp only[hasB,bW];exact⟨i,hi,h⟩
     simp[this]
   · rcases lt_or_ge j i with hji|hji
     · exact hI j hji
     · have:j=i:=by omega
       subst this;exact h
 · have:hasB a.ae b.ao=false:=by simp only[hasB,bM];exact fun⟨j,hj,h⟩=>hI j hj h
   simp[this])
theorem UY:GG OS:=gd (vc:=V1) (hs:=[⟨2,[0],[],false⟩]) [] (by simp) Tryz.func340 (args2 fun a b hw hp=>by
 simp[OS] at hw
 show V1.wp Φ (fun l=>l=[.bool (hasB a.ae b.ao)]) [a,b] _
 refine bT (N:=a.ae.length) rfl (fun d=>by simp) (l7 hw.1.1) (fun i=>∀j,j<i->¬(cell (ag a.ae j) 0).ao=b.ao) (fun j hj=>by omega) (fun i hi hI=> ?_) (fun hI p=> ?_)
 · simp[af]
   refine⟨hi,fun h=> ?_,fun h j hj=> ?_⟩
   · have:hasB a.ae b.ao=true:=by simp only[hasB,bW];exact⟨i,hi,h⟩
     simp[this]
   · rcases lt_or_ge j i with hji|hji
     · exact hI j hji
     · have:j=i:=by omega
       subst this;exact h
 · have:hasB a.ae b.ao=false:=by simp only[hasB,bM];exact fun⟨j,hj,h⟩=>hI j hj h
   simp[this])
theorem vV{xs names:List (List D)}{i:Nat}(h:i<xs.length):bX (xs.take (i+1)) names=bX (xs.take i) names++if hasB names (cell (ag xs i) 0).ao=true then[[cell (ag xs i) 0,cell (ag xs i) 1]] else[]:=by
 rw[List.take_add_one,List.getElem?_eq_getElem h,bX,List.filter_append,List.map_append,<-bX,Option.toList_some,fu h]
 congr 1
 by_cases hc:hasB names (cell xs[i] 0).ao=true<;>simp[hc]
theorem xD(xs names:List (List D)):(bX xs names).length<=xs.length:=by simp[bX];exact List.length_filter_le _ _
theorem Rj:GG Ny:=gd (vc:=Um) [OF] (by simpa using VD) Tryz.func311 (args2 fun a b hw hp=>by
 simp[Ny,LX,jH] at hw hp
 show Um.wp Φ (fun l=>l=[.sl (bX a.ae b.ae)]) [a,b] _
 refine kG (N:=a.ae.length) rfl (fun d d'=>by simp) (l7 hw.1.1) (fun i x=>x.ae=bX (a.ae.take i) b.ae∧∃l,x= .sl l) ⟨by simp[bX,chunk],_,rfl⟩ (fun i x hi hk hI=> ?_) (fun x hk hI p=> ?_)
 · obtain⟨hI,l,rfl⟩:=hI
   simp at hI
   subst hI
   have h1:=xD (a.ae.take i) b.ae
   have h2:(a.ae.take i).length=i:=by simp;omega
   have h3:=vV (names:=b.ae) hi
   simp[show Φ 330=FQ from rfl,FQ,af,al,chunk,h3] at hk⊢
   exact⟨hi,fun hc=>⟨by omega,hc⟩⟩
 · obtain⟨hI,l,rfl⟩:=hI
   simp at hI⊢
   exact hI)
theorem Tp:GG O5:=gd (vc:=Rx) [OS] (by simpa using UY) Tryz.func335 (args2 fun a b hw hp=>by
 simp[O5,Ma,jH] at hw hp
 show Rx.wp Φ (fun l=>l=[.sl (bX a.ae b.ae)]) [a,b] _
 refine fC (N:=a.ae.length) rfl (fun d d'=>by simp) (l7 hw.1.1) (fun i x=>x.ae=bX (a.ae.take i) b.ae∧∃l,x= .sl l) ⟨by simp[bX,chunk],_,rfl⟩ (fun i x hi hk hI=> ?_) (fun x hk hI p=> ?_)
 · obtain⟨hI,l,rfl⟩:=hI
   simp at hI
   subst hI
   have h1:=xD (a.ae.take i) b.ae
   have h2:(a.ae.take i).length=i:=by simp;omega
   have h3:=vV (names:=b.ae) hi
   simp[show Φ 340=FQ from rfl,FQ,af,al,chunk,h3] at hk⊢
   exact⟨hi,fun hc=>⟨by omega,hc⟩⟩
 · obtain⟨hI,l,rfl⟩:=hI
   simp at hI⊢
   exact hI)
theorem GR:GG DH:=gd (vc:=Ws) [Ny] (by simpa using Rj) Tryz.func264 (args2 fun a b hw hp=>by
 simp[DH,lS,cP] at hw hp
 simp[Ws,DH,lS,cP,LX,jH,hp])
theorem Hx:GG CU:=gd (vc:=RM) [O5] (by simpa using Tp) Tryz.func319 (args2 fun a b hw hp=>by
 simp[CU,mO,cP] at hw hp
 simp[RM,CU,mO,cP,Ma,jH,hp])
theorem IO:GG B2:=gd (vc:=VU) (hs:=[⟨2,[0],[],false⟩]) [tP] (by simpa using pm) Tryz.func260 (args2 fun a b hw hp=>by
 simp[B2] at hw
 show VU.wp Φ (fun l=>l=[.int (eR (fun r=>eqR (aH aC) (cell r 0).ae b.ae=true) a.ae 0)]) [a,b] _
 refine bT (N:=a.ae.length) rfl (fun d=>by simp) (l7 hw.1.1) (fun i=>∀j,j<i->¬eqR (aH aC) (cell (ag a.ae j) 0).ae b.ae=true) (fun j hj=>by omega) (fun i hi hI=> ?_) (fun hI p=> ?_)
 · simp[dz,aF,af]
   refine⟨hi,fun h=> ?_,fun h j hj=> ?_⟩
   · rw[nd hi hI h];simp
   · rcases lt_or_ge j i with hji|hji
     · simpa using hI j hji
     · have:j=i:=by omega
       subst this;exact h
 · simp
   rw[nB hI])
theorem EK:GG FJ:=gd (vc:=Rv) (hs:=[⟨2,[0],[],false⟩]) [zH] (by simpa using uL) Tryz.func332 (args2 fun a b hw hp=>by
 simp[FJ] at hw
 show Rv.wp Φ (fun l=>l=[.int (eR (fun r=>eqR (aH aC) (cell r 0).ae b.ae=true) a.ae 0)]) [a,b] _
 refine bT (N:=a.ae.length) rfl (fun d=>by simp) (l7 hw.1.1) (fun i=>∀j,j<i->¬eqR (aH aC) (cell (ag a.ae j) 0).ae b.ae=true) (fun j hj=>by omega) (fun i hi hI=> ?_) (fun hI p=> ?_)
 · simp[kJ,aF,af]
   refine⟨hi,fun h=> ?_,fun h j hj=> ?_⟩
   · rw[nd hi hI h];simp
   · rcases lt_or_ge j i with hji|hji
     · simpa using hI j hji
     · have:j=i:=by omega
       subst this;exact h
 · simp
   rw[nB hI])
theorem wc{l:List (List D)}{k:Nat}(hk:k<l.length):0<=eR (fun r=>eqR (aH aC) (cell r 0).ae (cell (ag l k) 0).ae=true) (l.take k) 0↔¬∀m,m<k->eqR (aH aC) (cell (ag l m) 0).ae (cell (ag l k) 0).ae=false:=by
 have hlen:(l.take k).length=k:=by simp;omega
 rcases aZ (fun r=>eqR (aH aC) (cell r 0).ae (cell (ag l k) 0).ae=true) (l.take k) with ⟨h1,h2⟩|⟨i,hi,h1,h2,_⟩
 · rw[h1]
   refine⟨fun h=>by omega,fun h=>absurd (fun m hm=> ?_) h⟩
   have:=h2 m (by omega)
   rw[sO hm] at this
   simpa using this
 · rw[h1]
   refine⟨fun _ h=> ?_,fun _=>by omega⟩
   rw[sO (by omega),h i (by omega)] at h2
   cases h2
theorem V4:GG On:=gd (vc:=Sy) (hs:=[⟨2,[0],[],false⟩]) [FJ] (by simpa using EK) Tryz.func325 (args1 fun a hw hp=>by
 simp[On] at hw
 show Sy.wp Φ (fun l=>l=[.bool (tt (apart a.ae))]) [a] _
 refine bT (N:=a.ae.length) rfl (fun d=>by simp) (l7 hw.1) (fun i=>∀k,k<i->∀m,m<k->eqR (aH aC) (cell (ag a.ae m) 0).ae (cell (ag a.ae k) 0).ae=false) (fun j hj=>by omega) (fun i hi hI=> ?_) (fun hI p=> ?_)
 · simp[Bz,bu,af]
   refine⟨hi,by omega,fun h=> ?_,fun h k hk=> ?_⟩
   · rw[wc hi] at h
     exact fun ha=>h (ha i hi)
   · rcases lt_or_ge k i with hki|hki
     · exact hI k hki
     · have:k=i:=by omega
       subst this
       have h':¬0<=eR (fun r=>eqR (aH aC) (cell r 0).ae (cell (ag a.ae k) 0).ae=true) (a.ae.take k) 0:=by omega
       rw[wc hi] at h'
       exact Classical.not_not.1 h'
 · have:tt (apart a.ae)=true:=by simp only[bW];exact hI
   simp[this])
end Go.Proofs.YtlkidecpmfhheaaGreat

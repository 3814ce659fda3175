import Derived.Sort.LotA
import Derived.Test.YtlkidecpmfhheaaGreatVxd
import Derived.Shelf.GgSortFunc.RowK
import Derived.Lib.ReflectliteSwap
import Derived.Sort.Walk0
set_option linter.all false
open Nat (le_refl mul_add mul_comm mul_one min_eq_left mul_zero lt_of_lt_of_le mul_le_mul_right mod_lt)
open Bool (not_eq_true' and_eq_true)
open List (length_take perm_middle getElem_of_mem getD_eq_getElem?_getD getElem?_eq_getElem mem_cons foldl_cons getElem?_map length_map map_cons Perm mem_of_getElem? map_map ext_getElem mem_map lt_irrefl)
open Option (getD_some map_some)
open Array (extract_size length_toList ext')
namespace Go.Vx
open Go.Sort
variable {α:Type} [Inhabited α]
def ly(d:Array α)(a b:Nat):Nat->Array α
 |0=>d
 |n+1=>swp (ly d a b n) (a+n) (b+n)
def ga(m:Nat):Nat->Nat->Nat->Array α->Array α
 |0,_,_,d=>d
 |f+1,i,j,d=>if i=j then ly d (m - i) m i else if j<i then ga m f (i - j) j (ly d (m - i) m j) else ga m f i (j - i) (ly d (m - i) (m+j - i) i)
def bsF(p:Nat->Bool):Nat->Nat->Nat->Nat
 |0,i,_=>i
 |f+1,i,j=>if i<j then(bif p ((i+j) / 2) then bsF p f ((i+j) / 2+1) j else bsF p f i ((i+j) / 2)) else i
def upF(d:Array α)(a:Nat):Nat->Array α
 |0=>d
 |n+1=>swp (upF d a n) (a+n) (a+n+1)
def dnF(d:Array α)(m:Nat):Nat->Array α
 |0=>d
 |n+1=>swp (dnF d m n) (m - n) (m - n - 1)
def cF(lt:α->α->Bool)(a m b:Nat)(d:Array α):Nat:=
 if(a+b) / 2<m then bsF (fun c=> !lt d[(a+b) / 2+m - 1 - c]! d[c]!) ((a+b) / 2 - ((a+b) / 2+m - b)) ((a+b) / 2+m - b) ((a+b) / 2)
 else bsF (fun c=> !lt d[(a+b) / 2+m - 1 - c]! d[c]!) (m - a) a m
def cm(lt:α->α->Bool):Nat->Nat->Nat->Nat->Array α->Array α
 |0,_,_,_,d=>d
 |f+1,a,m,b,d=>
  if m=a+1 then upF d a (bsF (fun h=>lt d[h]! d[a]!) (b - (a+1)) (a+1) b - 1 - a)
  else if b=m+1 then dnF d m (m - bsF (fun h=> !lt d[m]! d[h]!) (m - a) a m)
  else
   let s:=cF lt a m b d
   let e:=(a+b) / 2+m - s
   let d1:=if s<m∧m<e then ga m (e - s) (m - s) (e - m) d else d
   let d2:=if a<s∧s<(a+b) / 2 then cm lt f a s ((a+b) / 2) d1 else d1
   if(a+b) / 2<e∧e<b then cm lt f ((a+b) / 2) e b d2 else d2
def pq(lt:α->α->Bool)(n:Nat):Nat->Nat->Array α->Array α
 |0,_,d=>d
 |f+1,a,d=>if a+20<=n then pq lt n f (a+20) (insertionSort lt d a (a+20)) else insertionSort lt d a n
def pD(lt:α->α->Bool)(n bs:Nat):Nat->Nat->Array α->Array α
 |0,_,d=>d
 |f+1,a,d=>if a+2*bs<=n then pD lt n bs f (a+2*bs) (cm lt (2*bs) a (a+bs) (a+2*bs) d) else if a+bs<n then cm lt (n - a) a (a+bs) n d else d
def rK(lt:α->α->Bool)(n:Nat):Nat->Nat->Array α->Array α
 |0,_,d=>d
 |f+1,bs,d=>if bs<n then rK lt n f (2*bs) (pD lt n bs (n+1) 0 d) else d
def bR(lt:α->α->Bool)(n:Nat)(d:Array α):Array α:=rK lt n (n+1) 20 (pq lt n (n+1) 0 d)
theorem kY(d:Array α){x y:Nat}(h:x=y):d[x]! =d[y]! :=by rw[h]
theorem ic(d:Array α)(a b:Nat):∀n,(ly d a b n).size=d.size
 |0=>rfl
 |n+1=>by rw[ly,swp_size,ic d a b n]
theorem rr(d:Array α)(a b:Nat):∀n,a+n<=b->b+n<=d.size->∀k,(ly d a b n)[k]! =if a<=k∧k<a+n then d[k - a+b]! else if b<=k∧k<b+n then d[k - b+a]! else d[k]!
 |0,_,_,k=>by rw[ly,if_neg (by omega),if_neg (by omega)]
 |n+1,h1,h2,k=>by
  have ih:=rr d a b n (by omega) (by omega)
  rw[ly,swp_get _ (by rw[ic];omega) (by rw[ic];omega),ih,ih,ih]
  repeat' split
  all_goals first|(exfalso;omega)|exact kY d (by omega)
theorem ol(d:Array α)(a b lo hi:Nat):∀n,lo<=a->lo<=b->a+n<=hi->b+n<=hi->hi<=d.size->PermIn lo hi d (ly d a b n)
 |0,_,_,_,_,_=>permIn_refl _ _ _
 |n+1,h1,h2,h3,h4,h5=>permIn_trans _ _ _ _ _ (ol d a b lo hi n h1 h2 (by omega) (by omega) h5) (swp_permIn _ _ _ _ _ (by omega) (by omega) (by omega) (by omega) (by rw[ic];exact h5))
theorem vB(m:Nat):∀(f i j:Nat)(d:Array α),1<=i->1<=j->i<=m->m+j<=d.size->i+j<=f->∀k,
 (ga m f i j d)[k]! =if m - i<=k∧k<m - i+j then d[k+i]! else if m - i+j<=k∧k<m+j then d[k - j]! else d[k]!
 |0,i,j,d,h1,h2,_,_,h5,_=>by omega
 |f+1,i,j,d,h1,h2,h3,h4,h5,k=>by
  rw[ga]
  by_cases hij:i=j
  · rw[if_pos hij,rr d _ _ _ (by omega) (by omega)]
    repeat' split
    all_goals first|(exfalso;omega)|exact kY d (by omega)
  · rw[if_neg hij]
    by_cases hji:j<i
    · rw[if_pos hji,vB m f (i - j) j _ (by omega) h2 (by omega) (by rw[ic];omega) (by omega)]
      have g:=rr d (m - i) m j (by omega) (by omega)
      simp only[g]
      repeat' split
      all_goals first|(exfalso;omega)|exact kY d (by omega)
    · rw[if_neg hji,vB m f i (j - i) _ h1 (by omega) h3 (by rw[ic];omega) (by omega)]
      have g:=rr d (m - i) (m+j - i) i (by omega) (by omega)
      simp only[g]
      repeat' split
      all_goals first|(exfalso;omega)|exact kY d (by omega)
theorem r8(m lo hi:Nat):∀(f i j:Nat)(d:Array α),i<=m->lo<=m - i->m+j<=hi->hi<=d.size->PermIn lo hi d (ga m f i j d)
 |0,_,_,_,_,_,_,_=>permIn_refl _ _ _
 |f+1,i,j,d,h1,h2,h3,h4=>by
  rw[ga]
  split
  · exact ol d _ _ lo hi i h2 (by omega) (by omega) (by omega) h4
  split
  · exact permIn_trans _ _ _ _ _ (ol d _ _ lo hi j h2 (by omega) (by omega) (by omega) h4) (r8 m lo hi f _ _ _ (by omega) (by omega) (by omega) (by rw[ic];exact h4))
  · exact permIn_trans _ _ _ _ _ (ol d _ _ lo hi i h2 (by omega) (by omega) (by omega) h4) (r8 m lo hi f _ _ _ (by omega) (by omega) (by omega) (by rw[ic];exact h4))
theorem pX(d:Array α)(a:Nat):∀n,(upF d a n).size=d.size
 |0=>rfl
 |n+1=>by rw[upF,swp_size,pX d a n]
theorem yP(d:Array α)(a:Nat):∀n,a+n<d.size->∀k,(upF d a n)[k]! =if a<=k∧k<a+n then d[k+1]! else if k=a+n then d[a]! else d[k]!
 |0,_,k=>by
  rw[upF,if_neg (by omega)]
  split
  · exact kY d (by omega)
  · rfl
 |n+1,h,k=>by
  have ih:=yP d a n (by omega)
  rw[upF,swp_get _ (by rw[pX];omega) (by rw[pX];omega),ih,ih,ih]
  repeat' split
  all_goals first|(exfalso;omega)|exact kY d (by omega)
theorem BW(d:Array α)(a lo hi:Nat):∀n,lo<=a->a+n<hi->hi<=d.size->PermIn lo hi d (upF d a n)
 |0,_,_,_=>permIn_refl _ _ _
 |n+1,h1,h2,h3=>permIn_trans _ _ _ _ _ (BW d a lo hi n h1 (by omega) h3) (swp_permIn _ _ _ _ _ (by omega) (by omega) (by omega) (by omega) (by rw[pX];exact h3))
theorem qA(d:Array α)(m:Nat):∀n,(dnF d m n).size=d.size
 |0=>rfl
 |n+1=>by rw[dnF,swp_size,qA d m n]
theorem y2(d:Array α)(m:Nat):∀n,n<=m->m<d.size->∀k,(dnF d m n)[k]! =if m - n<k∧k<=m then d[k - 1]! else if k=m - n then d[m]! else d[k]!
 |0,_,_,k=>by
  rw[dnF,if_neg (by omega)]
  split
  · exact kY d (by omega)
  · rfl
 |n+1,h,h2,k=>by
  have ih:=y2 d m n (by omega) h2
  rw[dnF,swp_get _ (by rw[qA];omega) (by rw[qA];omega),ih,ih,ih]
  repeat' split
  all_goals first|(exfalso;omega)|exact kY d (by omega)
theorem AZ(d:Array α)(m lo hi:Nat):∀n,n<=m->lo<=m - n->m<hi->hi<=d.size->PermIn lo hi d (dnF d m n)
 |0,_,_,_,_=>permIn_refl _ _ _
 |n+1,h0,h1,h2,h3=>permIn_trans _ _ _ _ _ (AZ d m lo hi n (by omega) (by omega) h2 h3) (swp_permIn _ _ _ _ _ (by omega) (by omega) (by omega) (by omega) (by rw[qA];exact h3))
theorem gk(p:Nat->Bool):∀(f i j:Nat),i<=j->i<=bsF p f i j∧bsF p f i j<=j
 |0,_,_,h=>⟨le_refl _,h⟩
 |f+1,i,j,h=>by
  rw[bsF]
  by_cases hlt:i<j
  · rw[if_pos hlt]
    cases p ((i+j) / 2) with
    |true=>rw[cond_true];have:=gk p f ((i+j) / 2+1) j (by omega);omega
    |false=>rw[cond_false];have:=gk p f i ((i+j) / 2) (by omega);omega
  · rw[if_neg hlt];exact⟨le_refl _,h⟩
theorem lJ(p:Nat->Bool):∀(f i j:Nat),i<=j->j - i<=f->(∀c c',i<=c->c<=c'->c'<j->p c'=true->p c=true)->
 (∀c,i<=c->c<bsF p f i j->p c=true)∧∀c,bsF p f i j<=c->c<j->p c=false
 |0,i,j,h,hf,_=>⟨fun c h1 h2=>by rw[bsF] at h2;omega,fun c h1 h2=>by rw[bsF] at h1;omega⟩
 |f+1,i,j,h,hf,hm=>by
  rw[bsF]
  by_cases hlt:i<j
  · rw[if_pos hlt]
    cases hp:p ((i+j) / 2) with
    |true=>
     rw[cond_true]
     obtain⟨h1,h2⟩:=lJ p f ((i+j) / 2+1) j (by omega) (by omega) (fun c c' q1 q2 q3 q4=>hm c c' (by omega) q2 q3 q4)
     refine⟨fun c q1 q2=> ?_,h2⟩
     by_cases hc:c<=(i+j) / 2
     · exact hm c _ q1 hc (by omega) hp
     · exact h1 c (by omega) q2
    |false=>
     rw[cond_false]
     obtain⟨h1,h2⟩:=lJ p f i ((i+j) / 2) (by omega) (by omega) (fun c c' q1 q2 q3 q4=>hm c c' q1 q2 (by omega) q4)
     refine⟨h1,fun c q1 q2=> ?_⟩
     by_cases hc:c<(i+j) / 2
     · exact h2 c q1 hc
     · have hr:=gk p f i ((i+j) / 2) (by omega)
       cases hpc:p c with
       |false=>rfl
       |true=>rw[hm ((i+j) / 2) c (by omega) (by omega) q2 hpc] at hp;cases hp
  · rw[if_neg hlt];exact⟨fun c h1 h2=>by omega,fun c h1 h2=>by omega⟩
theorem dS(lt:α->α->Bool)(a m b:Nat)(d:Array α)(ham:a<m)(hmb:m<b):
 a<=cF lt a m b d∧cF lt a m b d<=m∧cF lt a m b d<=(a+b) / 2∧m<=(a+b) / 2+m - cF lt a m b d∧(a+b) / 2+m - cF lt a m b d<=b:=by
 unfold cF
 by_cases h:(a+b) / 2<m
 · rw[if_pos h]
   have:=gk (fun c=> !lt d[(a+b) / 2+m - 1 - c]! d[c]!) ((a+b) / 2 - ((a+b) / 2+m - b)) ((a+b) / 2+m - b) ((a+b) / 2) (by omega)
   omega
 · rw[if_neg h]
   have:=gk (fun c=> !lt d[(a+b) / 2+m - 1 - c]! d[c]!) (m - a) a m (by omega)
   omega
variable {lt L:α->α->Bool}
def BT(lt L:α->α->Bool)(a m b:Nat)(d:Array α):Prop:=∀i j,a<=i->i<m->m<=j->j<b->lt d[j]! d[i]! =L d[j]! d[i]!
theorem If(hL:SWO L){a m b:Nat}{d:Array α}(ham:a<m)(hmb:m<b)(hx:BT lt L a m b d)(h1:SortedIn L a m d)(h2:SortedIn L m b d):
 (a<cF lt a m b d->(a+b) / 2+m - cF lt a m b d<b->L d[(a+b) / 2+m - cF lt a m b d]! d[cF lt a m b d - 1]! =false)∧
 (cF lt a m b d<m->m<(a+b) / 2+m - cF lt a m b d->L d[(a+b) / 2+m - cF lt a m b d - 1]! d[cF lt a m b d]! =true):=by
 have mono:∀lo hi,a<=lo->hi<=m->hi<=(a+b) / 2->(a+b) / 2+m - 1 - lo<b->∀c c',lo<=c->c<=c'->c'<hi->(fun c=> !lt d[(a+b) / 2+m - 1 - c]! d[c]!) c'=true->(fun c=> !lt d[(a+b) / 2+m - 1 - c]! d[c]!) c=true:=by
  intro lo hi q1 q2 q3 q4 c c' q5 q6 q7 q8
  simp only[not_eq_true'] at q8⊢
  by_cases hc:c=c'
  · subst hc;exact q8
  rw[hx c' ((a+b) / 2+m - 1 - c') (by omega) (by omega) (by omega) (by omega)] at q8
  rw[hx c ((a+b) / 2+m - 1 - c) (by omega) (by omega) (by omega) (by omega)]
  refine hL.ntrans _ d[(a+b) / 2+m - 1 - c']! _ (h2 _ _ (by omega) (by omega) (by omega)) (hL.ntrans _ d[c']! _ q8 (h1 _ _ (by omega) (by omega) (by omega)))
 unfold cF
 by_cases h:(a+b) / 2<m
 · rw[if_pos h]
   have hr:=gk (fun c=> !lt d[(a+b) / 2+m - 1 - c]! d[c]!) ((a+b) / 2 - ((a+b) / 2+m - b)) ((a+b) / 2+m - b) ((a+b) / 2) (by omega)
   obtain⟨s1,s2⟩:=lJ (fun c=> !lt d[(a+b) / 2+m - 1 - c]! d[c]!) ((a+b) / 2 - ((a+b) / 2+m - b)) ((a+b) / 2+m - b) ((a+b) / 2) (by omega) (by omega) (mono _ _ (by omega) (by omega) (by omega) (by omega))
   generalize bsF (fun c=> !lt d[(a+b) / 2+m - 1 - c]! d[c]!) ((a+b) / 2 - ((a+b) / 2+m - b)) ((a+b) / 2+m - b) ((a+b) / 2)=s at hr s1 s2⊢
   refine⟨fun q1 q2=> ?_,fun q1 q2=> ?_⟩
   · have:=s1 (s - 1) (by omega) (by omega)
     simp only[not_eq_true'] at this
     rw[hx (s - 1) _ (by omega) (by omega) (by omega) (by omega)] at this
     rw[kY d (show(a+b) / 2+m - s=(a+b) / 2+m - 1 - (s - 1) by omega)]
     exact this
   · have:=s2 s (le_refl _) (by omega)
     simp only[Bool.not_eq_false'] at this
     rw[hx s _ (by omega) (by omega) (by omega) (by omega)] at this
     rw[kY d (show(a+b) / 2+m - s - 1=(a+b) / 2+m - 1 - s by omega)]
     exact this
 · rw[if_neg h]
   have hr:=gk (fun c=> !lt d[(a+b) / 2+m - 1 - c]! d[c]!) (m - a) a m (by omega)
   obtain⟨s1,s2⟩:=lJ (fun c=> !lt d[(a+b) / 2+m - 1 - c]! d[c]!) (m - a) a m (by omega) (by omega) (mono _ _ (by omega) (by omega) (by omega) (by omega))
   generalize bsF (fun c=> !lt d[(a+b) / 2+m - 1 - c]! d[c]!) (m - a) a m=s at hr s1 s2⊢
   refine⟨fun q1 q2=> ?_,fun q1 q2=> ?_⟩
   · have:=s1 (s - 1) (by omega) (by omega)
     simp only[not_eq_true'] at this
     rw[hx (s - 1) _ (by omega) (by omega) (by omega) (by omega)] at this
     rw[kY d (show(a+b) / 2+m - s=(a+b) / 2+m - 1 - (s - 1) by omega)]
     exact this
   · have:=s2 s (le_refl _) (by omega)
     simp only[Bool.not_eq_false'] at this
     rw[hx s _ (by omega) (by omega) (by omega) (by omega)] at this
     rw[kY d (show(a+b) / 2+m - s - 1=(a+b) / 2+m - 1 - s by omega)]
     exact this
theorem Dw{p:α->α->Prop}{a m b:Nat}{d d1 d2:Array α}(ham:a<=m)(hmb:m<=b)(hb:b<=d.size)(h1:PermIn a m d d1)(h2:PermIn m b d1 d2)
 (h:∀i j,a<=i->i<m->m<=j->j<b->p d[i]! d[j]!):∀i j,a<=i->i<m->m<=j->j<b->p d2[i]! d2[j]! :=by
 intro i j q1 q2 q3 q4
 have e1:d2[i]! =d1[i]! :=h2.2.1 i (.inl q2)
 rw[e1]
 refine permIn_all d1 d2 m b (fun y=>p d1[i]! y) (by rw[h1.1];exact hb) h2 (fun j' r1 r2=> ?_) j q3 q4
 rw[h1.2.1 j' (.inr r1)]
 exact permIn_all d d1 a m (fun x=>p x d[j']!) (by omega) h1 (fun i' t1 t2=>h i' j' t1 t2 r1 r2) i q1 q2
theorem BE{a m b:Nat}{d:Array α}(h1:SortedIn L a m d)(h2:SortedIn L m b d)(h:∀i j,a<=i->i<m->m<=j->j<b->L d[j]! d[i]! =false):SortedIn L a b d:=by
 intro i j q1 q2 q3
 by_cases hj:j<m
 · exact h1 i j q1 q2 hj
 by_cases hi:i<m
 · exact h i j q1 hi (by omega) q3
 · exact h2 i j (by omega) q2 q3
theorem uq(hL:SWO L):∀(f a m b:Nat)(d:Array α),b - a<=f->a<m->m<b->b<=d.size->BT lt L a m b d->SortedIn L a m d->SortedIn L m b d->
 PermIn a b d (cm lt f a m b d)∧SortedIn L a b (cm lt f a m b d)
 |0,a,m,b,d,hf,ham,hmb,_,_,_,_=>by omega
 |f+1,a,m,b,d,hf,ham,hmb,hb,hx,h1,h2=>by
  rw[cm]
  by_cases hA:m=a+1
  · rw[if_pos hA]
    have hr:=gk (fun h=>lt d[h]! d[a]!) (b - (a+1)) (a+1) b (by omega)
    obtain⟨s1,s2⟩:=lJ (fun h=>lt d[h]! d[a]!) (b - (a+1)) (a+1) b (by omega) (by omega) (fun c c' q1 q2 q3 q4=>by
     by_cases hc:c=c'
     · subst hc;exact q4
     have e1:=hx a c (le_refl _) (by omega) (by omega) (by omega)
     have e2:=hx a c' (le_refl _) (by omega) (by omega) (by omega)
     rw[e2] at q4
     rw[e1]
     cases hq:L d[c]! d[a]! with
     |true=>rfl
     |false=>rw[hL.ntrans _ _ _ (h2 c c' (by omega) (by omega) q3) hq] at q4;cases q4)
    generalize bsF (fun h=>lt d[h]! d[a]!) (b - (a+1)) (a+1) b=k at hr s1 s2⊢
    refine⟨BW d a a b _ (le_refl _) (by omega) hb,fun i j q1 q2 q3=> ?_⟩
    have lo:∀c,m<=c->c<k->L d[c]! d[a]! =true:=fun c r1 r2=>by rw[<-hx a c (le_refl _) (by omega) r1 (by omega)];exact s1 c (by omega) r2
    have up:∀c,k<=c->c<b->L d[c]! d[a]! =false:=fun c r1 r2=>by rw[<-hx a c (le_refl _) (by omega) (by omega) r2];exact s2 c r1 r2
    rw[yP d a _ (by omega),yP d a _ (by omega)]
    by_cases hj:j<k - 1
    · rw[if_pos (by omega),if_pos (by omega)];exact h2 _ _ (by omega) (by omega) (by omega)
    by_cases hj2:j=k - 1
    · rw[if_neg (by omega),if_pos (by omega),if_pos (by omega)];exact hL.asymmA (lo _ (by omega) (by omega))
    rw[if_neg (show ¬(a<=j∧j<a+(k - 1 - a)) by omega),if_neg (show ¬j=a+(k - 1 - a) by omega)]
    by_cases hi:i<k - 1
    · rw[if_pos (by omega)];exact h2 _ _ (by omega) (by omega) q3
    rw[if_neg (show ¬(a<=i∧i<a+(k - 1 - a)) by omega)]
    by_cases hi2:i=k - 1
    · rw[if_pos (by omega)];exact up j (by omega) q3
    · rw[if_neg (show ¬i=a+(k - 1 - a) by omega)];exact h2 _ _ (by omega) q2 q3
  rw[if_neg hA]
  by_cases hB:b=m+1
  · rw[if_pos hB]
    have hr:=gk (fun h=> !lt d[m]! d[h]!) (m - a) a m (by omega)
    obtain⟨s1,s2⟩:=lJ (fun h=> !lt d[m]! d[h]!) (m - a) a m (by omega) (by omega) (fun c c' q1 q2 q3 q4=>by
     by_cases hc:c=c'
     · subst hc;exact q4
     simp only[not_eq_true'] at q4⊢
     rw[hx c' m (by omega) q3 (le_refl _) hmb] at q4
     rw[hx c m q1 (by omega) (le_refl _) hmb]
     exact hL.ntrans _ _ _ q4 (h1 c c' q1 (by omega) q3))
    generalize bsF (fun h=> !lt d[m]! d[h]!) (m - a) a m=k at hr s1 s2⊢
    refine⟨AZ d m a b _ (by omega) (by omega) hmb hb,fun i j q1 q2 q3=> ?_⟩
    have lo:∀c,a<=c->c<k->L d[m]! d[c]! =false:=fun c r1 r2=>by
     rw[<-hx c m r1 (by omega) (le_refl _) hmb];have:=s1 c r1 r2;simpa using this
    have up:∀c,k<=c->c<m->L d[m]! d[c]! =true:=fun c r1 r2=>by
     rw[<-hx c m (by omega) r2 (le_refl _) hmb];have:=s2 c r1 r2;simpa using this
    rw[y2 d m _ (by omega) (by omega),y2 d m _ (by omega) (by omega)]
    by_cases hj:j<k
    · rw[if_neg (by omega),if_neg (by omega),if_neg (by omega),if_neg (by omega)];exact h1 _ _ q1 q2 (by omega)
    by_cases hj2:j=k
    · rw[if_neg (show ¬(m - (m - k)<j∧j<=m) by omega),if_pos (show j=m - (m - k) by omega),if_neg (by omega),if_neg (by omega)];exact lo i q1 (by omega)
    rw[if_pos (show m - (m - k)<j∧j<=m by omega)]
    by_cases hi:i<k
    · rw[if_neg (by omega),if_neg (by omega)];exact h1 _ _ q1 (by omega) (by omega)
    by_cases hi2:i=k
    · rw[if_neg (by omega),if_pos (by omega)];exact hL.asymmA (up _ (by omega) (by omega))
    · rw[if_pos (by omega)];exact h1 _ _ (by omega) (by omega) (by omega)
  rw[if_neg hB]
  dsimp only
  obtain⟨p2,p3⟩:=If hL ham hmb hx h1 h2
  have hr:=dS lt a m b d ham hmb
  generalize cF lt a m b d=s at hr p2 p3⊢
  obtain⟨r1,r2,r3,r4,r5⟩:=hr
  generalize hmid:(a+b) / 2=mid at*
  generalize he:mid+m - s=e at*
  have hd1:∃d1,(if s<m∧m<e then ga m (e - s) (m - s) (e - m) d else d)=d1∧PermIn a b d d1∧∀k,d1[k]! =if s<=k∧k<mid then d[k+(m - s)]! else if mid<=k∧k<e then d[k - (e - m)]! else d[k]! :=by
   refine⟨_,rfl,?_,fun k=> ?_⟩
   · split
     · exact r8 m a b _ _ _ d (by omega) (by omega) (by omega) hb
     · exact permIn_refl _ _ _
   · split
     · rename_i hc
       rw[vB m _ _ _ d (by omega) (by omega) (by omega) (by omega) (by omega)]
       repeat' split
       all_goals first|(exfalso;omega)|exact kY d (by omega)
     · repeat' split
       all_goals first|(exfalso;omega)|exact kY d (by omega)
  obtain⟨d1,e1,P1,G1⟩:=hd1
  rw[e1]
  have z1:d1.size=d.size:=P1.1
  have gl:∀k,a<=k->k<s->d1[k]! =d[k]! :=fun k q1 q2=>by rw[G1,if_neg (by omega),if_neg (by omega)]
  have gr:∀k,s<=k->k<mid->d1[k]! =d[k+(m - s)]! :=fun k q1 q2=>by rw[G1,if_pos (by omega)]
  have gm:∀k,mid<=k->k<e->d1[k]! =d[k - (e - m)]! :=fun k q1 q2=>by rw[G1,if_neg (by omega),if_pos (by omega)]
  have ge:∀k,e<=k->k<b->d1[k]! =d[k]! :=fun k q1 q2=>by rw[G1,if_neg (by omega),if_neg (by omega)]
  have S1:SortedIn L a s d1:=fun i j q1 q2 q3=>by rw[gl i q1 (by omega),gl j (by omega) q3];exact h1 _ _ q1 q2 (by omega)
  have S2:SortedIn L s mid d1:=fun i j q1 q2 q3=>by rw[gr i q1 (by omega),gr j (by omega) q3];exact h2 _ _ (by omega) (by omega) (by omega)
  have S3:SortedIn L mid e d1:=fun i j q1 q2 q3=>by rw[gm i q1 (by omega),gm j (by omega) q3];exact h1 _ _ (by omega) (by omega) (by omega)
  have S4:SortedIn L e b d1:=fun i j q1 q2 q3=>by rw[ge i q1 (by omega),ge j (by omega) q3];exact h2 _ _ (by omega) q2 q3
  have X1:BT lt L a s mid d1:=fun i j q1 q2 q3 q4=>by rw[gl i q1 q2,gr j q3 q4];exact hx _ _ q1 (by omega) (by omega) (by omega)
  have X2:BT lt L mid e b d1:=fun i j q1 q2 q3 q4=>by rw[gm i q1 q2,ge j q3 q4];exact hx _ _ (by omega) (by omega) (by omega) q4
  have sep:∀i j,a<=i->i<mid->mid<=j->j<b->L d1[j]! d1[i]! =false:=fun i j q1 q2 q3 q4=>by
   by_cases hi:i<s
   · rw[gl i q1 hi]
     by_cases hj:j<e
     · rw[gm j q3 hj];exact h1 _ _ q1 (by omega) (by omega)
     · rw[ge j (by omega) q4]
       have b0:=p2 (by omega) (by omega)
       have b1:L d[j]! d[e]! =false:=by
        by_cases hje:j=e
        · rw[hje];exact hL.irrefl _
        · exact h2 _ _ (by omega) (by omega) q4
       have b2:L d[s - 1]! d[i]! =false:=by
        by_cases hje:i=s - 1
        · rw[hje];exact hL.irrefl _
        · exact h1 _ _ q1 (by omega) (by omega)
       exact hL.ntrans _ _ _ b1 (hL.ntrans _ _ _ b0 b2)
   · rw[gr i (by omega) q2]
     by_cases hj:j<e
     · rw[gm j q3 hj]
       have b0:=hL.asymmA (p3 (by omega) (by omega))
       have b1:L d[j - (e - m)]! d[s]! =false:=by
        by_cases hje:j - (e - m)=s
        · rw[hje];exact hL.irrefl _
        · exact h1 _ _ (by omega) (by omega) (by omega)
       have b2:L d[e - 1]! d[i+(m - s)]! =false:=by
        by_cases hje:i+(m - s)=e - 1
        · rw[hje];exact hL.irrefl _
        · exact h2 _ _ (by omega) (by omega) (by omega)
       exact hL.ntrans _ _ _ b1 (hL.ntrans _ _ _ b0 b2)
     · rw[ge j (by omega) q4];exact h2 _ _ (by omega) (by omega) q4
  have hd2:∃d2,(if a<s∧s<mid then cm lt f a s mid d1 else d1)=d2∧PermIn a mid d1 d2∧SortedIn L a mid d2:=by
   refine⟨_,rfl,?_⟩
   split
   · exact uq hL f a s mid d1 (by omega) (by omega) (by omega) (by omega) X1 S1 S2
   · refine⟨permIn_refl _ _ _,?_⟩
     by_cases hs:a<s
     · have:s=mid:=by omega
       subst this;exact S1
     · have:a=s:=by omega
       subst this;exact S2
  obtain⟨d2,e2,P2,S5⟩:=hd2
  rw[e2]
  have g2:∀k,mid<=k->d2[k]! =d1[k]! :=fun k q=>P2.2.1 k (.inr q)
  have S3':SortedIn L mid e d2:=fun i j q1 q2 q3=>by rw[g2 i q1,g2 j (by omega)];exact S3 i j q1 q2 q3
  have S4':SortedIn L e b d2:=fun i j q1 q2 q3=>by rw[g2 i (by omega),g2 j (by omega)];exact S4 i j q1 q2 q3
  have X2':BT lt L mid e b d2:=fun i j q1 q2 q3 q4=>by rw[g2 i q1,g2 j (by omega)];exact X2 i j q1 q2 q3 q4
  have z2:d2.size=d1.size:=P2.1
  have hd3:∃d3,(if mid<e∧e<b then cm lt f mid e b d2 else d2)=d3∧PermIn mid b d2 d3∧SortedIn L mid b d3:=by
   refine⟨_,rfl,?_⟩
   split
   · exact uq hL f mid e b d2 (by omega) (by omega) (by omega) (by omega) X2' S3' S4'
   · refine⟨permIn_refl _ _ _,?_⟩
     by_cases hs:mid<e
     · have:e=b:=by omega
       subst this;exact S3'
     · have:mid=e:=by omega
       subst this;exact S4'
  obtain⟨d3,e3,P3,S6⟩:=hd3
  rw[e3]
  refine⟨?_,?_⟩
  · refine permIn_trans _ _ _ _ _ P1 (permIn_trans _ d2 _ _ _ (permIn_mono _ _ a mid a b (le_refl _) (by omega) (by omega) P2) (permIn_mono _ _ mid b a b (by omega) (le_refl _) (by omega) P3))
  · refine BE (m:=mid) (fun i j q1 q2 q3=> ?_) S6 (Dw (p:=fun x y=>L y x=false) (by omega) (by omega) (by omega) P2 P3 sep)
    rw[P3.2.1 i (.inl (by omega)),P3.2.1 j (.inl q3)]
    exact S5 i j q1 q2 q3
end Go.Vx
namespace Go.Vx
open Go.Sort
variable {α:Type} [Inhabited α] {lt L:α->α->Bool}
theorem oP(lt:α->α->Bool)(a b:Nat):∀(j:Nat)(d:Array α),a<=j->j<b->b<=d.size->PermIn a b d (insInner lt a j d)
 |0,d,_,_,_=>permIn_refl _ _ _
 |j+1,d,h1,h2,h3=>by
  unfold insInner
  split
  · rename_i hc
    simp only[and_eq_true,decide_eq_true_eq] at hc
    exact permIn_trans _ _ _ _ _ (swp_permIn d a b (j+1) j h1 h2 (by omega) (by omega) h3) (oP lt a b j _ (by omega) (by omega) (by rw[swp_size];exact h3))
  · exact permIn_refl _ _ _
theorem nY(a:Nat):∀(j:Nat)(d:Array α),j<d.size->(∀p,a<=p->p<j->lt d[j]! d[p]! =L d[j]! d[p]!)->insInner lt a j d=insInner L a j d
 |0,d,_,_=>rfl
 |j+1,d,hs,h=>by
  unfold insInner
  by_cases ha:j+1>a
  · rw[h j (by omega) (by omega)]
    have hr:insInner lt a j (swp d (j+1) j)=insInner L a j (swp d (j+1) j):=nY a j _ (by rw[swp_size];omega) fun p q1 q2=>by
     rw[swp_get d hs (show j<d.size by omega),swp_get d hs (show j<d.size by omega),if_pos rfl,if_neg (by omega),if_neg (by omega)]
     exact h p q1 (by omega)
    rw[hr]
  · have:∀x:Bool,(decide (j+1>a)&&x)=false:=fun x=>by simp[ha]
    rw[this,this]
    rfl
theorem nS(a b:Nat):∀(n i:Nat)(d:Array α),b - i=n->a<i->b<=d.size->(∀p q,a<=p->p<q->i<=q->q<b->lt d[q]! d[p]! =L d[q]! d[p]!)->insOuter lt a b i d=insOuter L a b i d
 |0,i,d,hn,_,_,_=>by rw[insOuter,if_neg (by omega),insOuter,if_neg (by omega)]
 |n+1,i,d,hn,hai,hb,h=>by
  rw[insOuter,if_pos (show i<b by omega)]
  conv=>rhs;rw[insOuter,if_pos (show i<b by omega)]
  rw[nY a i d (by omega) fun p q1 q2=>h p i q1 q2 (le_refl _) (by omega)]
  have hP:=oP L a (i+1) i d (by omega) (by omega) (by omega)
  refine nS a b n (i+1) _ (by omega) (by omega) (by rw[hP.1];exact hb) fun p q q1 q2 q3 q4=> ?_
  rw[hP.2.1 q (.inr q3)]
  by_cases hp:p<i+1
  · exact permIn_all d _ a (i+1) (fun x=>lt d[q]! x=L d[q]! x) (by omega) hP (fun p' r1 r2=>h p' q r1 (by omega) (by omega) q4) p q1 hp
  · rw[hP.2.1 p (.inr (by omega))];exact h p q q1 q2 (by omega) q4
theorem qK(hL:SWO L){a b:Nat}{d:Array α}(hab:a<=b)(hb:b<=d.size)(h:∀p q,a<=p->p<q->q<b->lt d[q]! d[p]! =L d[q]! d[p]!):
 PermIn a b d (insertionSort lt d a b)∧SortedIn L a b (insertionSort lt d a b):=by
 have:insertionSort lt d a b=insertionSort L d a b:=nS a b _ (a+1) d rfl (by omega) hb fun p q q1 q2 _ q4=>h p q q1 q2 q4
 rw[this]
 exact insertionSort_holds hL d a b hab hb
def Unl(lt L:α->α->Bool)(n bs:Nat)(d:Array α):Prop:=∀i j,i / bs<j / bs->j<n->lt d[j]! d[i]! =L d[j]! d[i]!
theorem mw{bs k i lo hi:Nat}(hlo:lo=bs*k)(hhi:hi<=bs*(k+1))(h1:lo<=i)(h2:i<hi):i / bs=k:=by
 have hb:0<bs:=by
  rcases Nat.eq_zero_or_pos bs with h|h
  · subst h;simp at hlo hhi;omega
  · exact h
 rw[Nat.div_eq_iff hb]
 rw[mul_add] at hhi
 rw[mul_comm k bs]
 omega
theorem Unl.perm{n bs k lo hi:Nat}{d d':Array α}(h:Unl lt L n bs d)(hP:PermIn lo hi d d')(hlo:lo=bs*k)(hhi:hi<=bs*(k+1))(hn:hi<=n)(hs:n<=d.size):Unl lt L n bs d':=by
 intro i j hij hj
 by_cases hii:lo<=i∧i<hi
 · have ei:=mw hlo hhi hii.1 hii.2
   by_cases hjj:lo<=j∧j<hi
   · have ej:=mw hlo hhi hjj.1 hjj.2
     omega
   · rw[hP.2.1 j (by omega)]
     exact permIn_all d d' lo _ (fun x=>lt d[j]! x=L d[j]! x) (by omega) hP (fun i' r1 r2=>h i' j (by rw[mw hlo hhi r1 r2];omega) hj) i hii.1 hii.2
 · rw[hP.2.1 i (by omega)]
   by_cases hjj:lo<=j∧j<hi
   · have ej:=mw hlo hhi hjj.1 hjj.2
     exact permIn_all d d' lo _ (fun y=>lt y d[i]! =L y d[i]!) (by omega) hP (fun j' r1 r2=>h i j' (by rw[mw hlo hhi r1 r2];omega) (by omega)) j hjj.1 hjj.2
   · rw[hP.2.1 j (by omega)];exact h i j hij hj
def FY(L:α->α->Bool)(n bs:Nat)(P:Nat->Prop)(d:Array α):Prop:=∀k,P k->SortedIn L (bs*k) (min (bs*(k+1)) n) d
theorem SortedIn.other{lo hi a b:Nat}{d d':Array α}(h:SortedIn L a b d)(hP:PermIn lo hi d d')(hd:b<=lo∨hi<=a):SortedIn L a b d':=fun i j q1 q2 q3=>by
 rw[hP.2.1 i (by omega),hP.2.1 j (by omega)];exact h i j q1 q2 q3
theorem D4(hL:SWO L){n:Nat}:∀(f k:Nat)(d:Array α),20*k<=n->n - 20*k<f->n<=d.size->Unl lt L n 20 d->FY L n 20 (fun j=>j<k) d->(∀p q,20*k<=p->p<q->q<n->lt d[q]! d[p]! =L d[q]! d[p]!)->
 PermIn 0 n d (pq lt n f (20*k) d)∧Unl lt L n 20 (pq lt n f (20*k) d)∧FY L n 20 (fun _=>True) (pq lt n f (20*k) d)
 |0,k,d,h1,h2,_,_,_,_=>by omega
 |f+1,k,d,h1,h2,hs,hu,hb,hr=>by
  rw[pq]
  by_cases hlt:20*k+20<=n
  · rw[if_pos hlt]
    obtain⟨hP,hS⟩:=qK (lt:=lt) hL (a:=20*k) (b:=20*k+20) (d:=d) (by omega) (by omega) fun p q q1 q2 q3=>hr p q q1 q2 (by omega)
    generalize insertionSort lt d (20*k) (20*k+20)=d' at hP hS⊢
    have ih:=D4 hL (n:=n) f (k+1) d' (by omega) (by omega) (by rw[hP.1];exact hs) (hu.perm hP (k:=k) rfl (by omega) hlt hs) (fun j hj=>by
     by_cases hjk:j<k
     · exact SortedIn.other (hb j hjk) hP (.inl (by omega))
     · have:j=k:=by omega
       subst this
       rw[show min (20*(j+1)) n=20*j+20 by omega];exact hS) (fun p q q1 q2 q3=>by rw[hP.2.1 p (by omega),hP.2.1 q (by omega)];exact hr p q (by omega) q2 q3)
    rw[show 20*(k+1)=20*k+20 by omega] at ih
    exact⟨permIn_trans _ _ _ _ _ (permIn_mono _ _ _ _ 0 n (by omega) hlt hs hP) ih.1,ih.2⟩
  · rw[if_neg hlt]
    obtain⟨hP,hS⟩:=qK (lt:=lt) hL (a:=20*k) (b:=n) (d:=d) (by omega) (by omega) fun p q q1 q2 q3=>hr p q q1 q2 q3
    refine⟨permIn_mono _ _ _ _ 0 n (by omega) (le_refl _) hs hP,hu.perm hP (k:=k) rfl (by omega) (le_refl _) hs,fun j _=> ?_⟩
    by_cases hjk:j<k
    · exact SortedIn.other (hb j hjk) hP (.inl (by omega))
    · by_cases hj:j=k
      · subst hj
        intro x y q1 q2 q3
        exact hS x y q1 q2 (by omega)
      · intro x y q1 q2 q3;omega
theorem X7(bs k:Nat):2*bs*k=bs*(2*k):=by rw[mul_comm 2 bs,Nat.mul_assoc]
theorem EU(hL:SWO L){n bs:Nat}(hbs:1<=bs):∀(f k:Nat)(d:Array α),2*bs*k<=n->n - 2*bs*k<f->n<=d.size->Unl lt L n (2*bs) d->FY L n (2*bs) (fun j=>j<k) d->FY L n bs (fun j=>2*k<=j) d->
 (∀i j,2*bs*k<=i->i / bs<j / bs->j<n->lt d[j]! d[i]! =L d[j]! d[i]!)->
 PermIn 0 n d (pD lt n bs f (2*bs*k) d)∧Unl lt L n (2*bs) (pD lt n bs f (2*bs*k) d)∧FY L n (2*bs) (fun _=>True) (pD lt n bs f (2*bs*k) d)
 |0,k,d,h1,h2,_,_,_,_,_=>by omega
 |f+1,k,d,h1,h2,hs,hu,hb,hc,hx=>by
  rw[pD]
  have ek:2*bs*(k+1)=2*bs*k+2*bs:=by rw[mul_add,mul_one]
  have e0:bs*(2*k)=2*bs*k:=(X7 bs k).symm
  have e1:bs*(2*k+1)=2*bs*k+bs:=by rw[mul_add,e0,mul_one]
  have e2:bs*(2*k+1+1)=2*bs*k+2*bs:=by rw[mul_add,e1,mul_one];omega
  have dl:∀i,2*bs*k<=i->i<2*bs*k+bs->i / bs=2*k:=fun i q1 q2=>mw (lo:=2*bs*k) (hi:=2*bs*k+bs) e0.symm (by rw[e1];exact le_refl _) q1 q2
  have dr:∀i,2*bs*k+bs<=i->i<2*bs*k+2*bs->i / bs=2*k+1:=fun i q1 q2=>mw (lo:=2*bs*k+bs) (hi:=2*bs*k+2*bs) e1.symm (by rw[e2];exact le_refl _) q1 q2
  have hl:=hc (2*k) (le_refl _)
  have hr:=hc (2*k+1) (by omega)
  rw[e0,e1] at hl
  rw[e1,e2] at hr
  have old:∀(hi:Nat)(d':Array α),PermIn (2*bs*k) hi d d'->∀j,j<k->SortedIn L (2*bs*j) (min (2*bs*(j+1)) n) d':=fun hi d' hP j hj=>by
   refine SortedIn.other (hb j hj) hP (.inl ?_)
   have:2*bs*(j+1)<=2*bs*k:=Nat.mul_le_mul_left _ (by omega)
   omega
  by_cases hlt:2*bs*k+2*bs<=n
  · rw[if_pos hlt]
    obtain⟨hP,hS⟩:=uq (lt:=lt) hL (2*bs) (2*bs*k) (2*bs*k+bs) (2*bs*k+2*bs) d (by omega) (by omega) (by omega) (by omega)
     (fun i j q1 q2 q3 q4=>hx i j q1 (by rw[dl i q1 q2,dr j q3 q4];omega) (by omega)) (by rwa[min_eq_left (by omega)] at hl) (by rwa[min_eq_left (by omega)] at hr)
    generalize cm lt (2*bs) (2*bs*k) (2*bs*k+bs) (2*bs*k+2*bs) d=d' at hP hS⊢
    have ih:=EU hL hbs (n:=n) f (k+1) d' (by rw[ek];exact hlt) (by rw[ek];omega) (by rw[hP.1];exact hs) (hu.perm hP (k:=k) rfl (by rw[ek];exact le_refl _) hlt hs) (fun j hj=>by
     by_cases hjk:j<k
     · exact old _ _ hP j hjk
     · have:j=k:=by omega
       subst this
       rw[ek,min_eq_left hlt];exact hS) (fun j hj=>by
     refine SortedIn.other (hc j (by omega)) hP (.inr ?_)
     have:bs*(2*k+1+1)<=bs*j:=Nat.mul_le_mul_left _ (by omega)
     omega) (fun i j q1 q2 q3=>by
     rw[ek] at q1
     have:i<j:=by
      rcases Nat.lt_or_ge i j with h|h
      · exact h
      · have:=Nat.div_le_div_right (c:=bs) h;omega
     rw[hP.2.1 i (by omega),hP.2.1 j (by omega)];exact hx i j (by omega) q2 q3)
    rw[ek] at ih
    exact⟨permIn_trans _ _ _ _ _ (permIn_mono _ _ _ _ 0 n (by omega) hlt hs hP) ih.1,ih.2⟩
  · rw[if_neg hlt]
    by_cases hm:2*bs*k+bs<n
    · rw[if_pos hm]
      obtain⟨hP,hS⟩:=uq (lt:=lt) hL (n - 2*bs*k) (2*bs*k) (2*bs*k+bs) n d (by omega) (by omega) (by omega) (by omega)
       (fun i j q1 q2 q3 q4=>hx i j q1 (by rw[dl i q1 q2,dr j q3 (by omega)];omega) (by omega)) (by rwa[min_eq_left (by omega)] at hl) (by rwa[Nat.min_eq_right (by omega)] at hr)
      refine⟨permIn_mono _ _ _ _ 0 n (by omega) (le_refl _) hs hP,hu.perm hP (k:=k) rfl (by rw[ek];omega) (le_refl _) hs,fun j _=> ?_⟩
      by_cases hjk:j<k
      · exact old _ _ hP j hjk
      · by_cases hj:j=k
        · subst hj
          intro x y q1 q2 q3
          exact hS x y q1 q2 (by omega)
        · have:2*bs*(k+1)<=2*bs*j:=Nat.mul_le_mul_left _ (by omega)
          intro x y q1 q2 q3;omega
    · rw[if_neg hm]
      refine⟨permIn_refl _ _ _,hu,fun j _=> ?_⟩
      by_cases hjk:j<k
      · exact hb j hjk
      · by_cases hj:j=k
        · subst hj
          intro x y q1 q2 q3
          exact hl x y q1 q2 (by omega)
        · have:2*bs*(k+1)<=2*bs*j:=Nat.mul_le_mul_left _ (by omega)
          intro x y q1 q2 q3;omega
theorem Ed(hL:SWO L){n:Nat}:∀(f bs:Nat)(d:Array α),1<=bs->n - bs<f->n<=d.size->Unl lt L n bs d->FY L n bs (fun _=>True) d->PermIn 0 n d (rK lt n f bs d)∧SortedIn L 0 n (rK lt n f bs d)
 |0,bs,d,_,h,_,_,_=>by omega
 |f+1,bs,d,h1,hf,hs,hu,hb=>by
  rw[rK]
  by_cases hlt:bs<n
  · rw[if_pos hlt]
    obtain⟨m1,m2,m3⟩:=EU (lt:=lt) hL h1 (n:=n) (n+1) 0 d (by omega) (by omega) hs (fun i j q1 q2=>hu i j (by
     rw[mul_comm 2 bs,<-Nat.div_div_eq_div_mul,<-Nat.div_div_eq_div_mul] at q1;omega) q2) (fun j hj=>by omega) (fun j _=>hb j trivial) (fun i j _ q2 q3=>hu i j q2 q3)
    rw[mul_zero] at m1 m2 m3
    obtain⟨p1,p2⟩:=Ed hL (n:=n) f (2*bs) _ (by omega) (by omega) (by rw[m1.1];exact hs) m2 m3
    exact⟨permIn_trans _ _ _ _ _ m1 p1,p2⟩
  · rw[if_neg hlt]
    refine⟨permIn_refl _ _ _,?_⟩
    have:=hb 0 trivial
    rw[mul_zero,Nat.min_eq_right (by omega)] at this
    exact this
theorem w4(hL:SWO L){n:Nat}{d:Array α}(hs:n<=d.size)(h:∀i j,i<j->j<n->lt d[j]! d[i]! =L d[j]! d[i]!):PermIn 0 n d (bR lt n d)∧SortedIn L 0 n (bR lt n d):=by
 unfold bR
 obtain⟨b1,b2,b3⟩:=D4 (lt:=lt) hL (n:=n) (n+1) 0 d (by omega) (by omega) hs (fun i j q1 q2=>h i j (by
  rcases Nat.lt_or_ge i j with h|h
  · exact h
  · have:=Nat.div_le_div_right (c:=20) h;omega) q2) (fun j hj=>by omega) (fun p q _ q2 q3=>h p q q2 q3)
 rw[mul_zero] at b1 b2 b3
 obtain⟨p1,p2⟩:=Ed (lt:=lt) hL (n:=n) (n+1) 20 _ (by omega) (by omega) (by rw[b1.1];exact hs) b2 b3
 exact⟨permIn_trans _ _ _ _ _ b1 p1,p2⟩
end Go.Vx
namespace Go.Vx
open Go.RowKit Go.Sort
variable {α:Type} [Inhabited α]
structure Srt (P:Program) (I:World->Array α->Prop) (blk sz:Nat) (lt:α->α->Bool) (g:Nat) (lb:Array Value) (sf:Nat) (sb:Array Value):Prop where
 eg:∀args w,(callFunc g args).run P w= .ok (.enter g args) w
 small:sz<4611686018427387904
 inw:∀{w d},I w d->blk<w.heap.size
 size:∀{w d},I w d->d.size=sz
 alloc:∀{w d}(o:Obj),I w d->I (w.alloc o) d
 drew:∀{w d}(q:Nat),I w d->I (w.drewN q) d
 less:∀{w d},I w d->∀i j:Nat,i<sz->j<sz->Calls P g (#[.int .i64 i,.int .i64 j]++lb) w fun e w'=>e= .returned (.bool (lt d[i]! d[j]!))∧I w' d∧Below w.heap.size w w'
 swap:∀{w d},I w d->∀i j:Nat,i<sz->j<sz->i≠j->∃w',(callFunc sf (#[.int .i64 i,.int .i64 j]++sb)).run P w= .ok (.value (.tuple #[])) w'∧I w' (swp d i j)∧Fr w [blk] w'∧w'.heap.size=w.heap.size
section
variable {P:Program} {I:World->Array α->Prop} {blk sz:Nat} {lt:α->α->Bool} {g:Nat} {lb:Array Value} {sf:Nat} {sb:Array Value}
theorem gQ(w:World)(X:List Nat):Fr w X w:=⟨rfl,rfl,rfl,le_refl _,fun _ _ _=>rfl⟩
theorem da{w w' w'':World}{X:List Nat}(h:Fr w X w')(h':Fr w' X w''):Fr w X w'':=
 ⟨h'.os.trans h.os,h'.tape.trans h.tape,h'.output.trans h.output,Nat.le_trans h.size h'.size,fun k hk hx=>(h'.block k (lt_of_lt_of_le hk h.size) hx).trans (h.block k hk hx)⟩
theorem cH{w w':World}{X:List Nat}(h:Below w.heap.size w w'):Fr w X w':=⟨h.os,h.tape,h.output,h.size,fun k hk _=>h.block k hk⟩
theorem dA(w:World)(o:Obj)(X:List Nat):Fr w X (w.alloc o):=cH ((Below.refl _ _).alloc (le_refl _) o)
theorem jn(w:World)(q:Nat)(X:List Nat):Fr w X (w.drewN q):=⟨rfl,rfl,rfl,le_refl _,fun _ _ _=>rfl⟩
theorem fS{w w':World}{X:List Nat}(h:Fr w X w'){b o:Nat}{v:Value}(hb:b ∉ X)(hc:w.cell? ⟨b,o,none⟩=some v):w'.cell? ⟨b,o,none⟩=some v:=by
 rw[World.cell?_of_block (w:=w) (h.block b (fw hc) hb)];exact hc
structure Bx (blk bx:Nat) (lb:Array Value) (g sf:Nat) (sb:Array Value) (W w:World):Prop where
 ne:bx≠blk
 fr:Fr W [blk] w
 c0:w.cell? ⟨bx,0,none⟩=some (.func (.func g) #[] lb)
 c1:w.cell? ⟨bx,1,none⟩=some (.func (.func sf) #[] sb)
theorem Bx.start(S:Srt P I blk sz lt g lb sf sb){w:World}{d:Array α}(h:I w d)(t:TypeId):Bx blk w.heap.size lb g sf sb w (w.alloc (.cells #[.func (.func g) #[] lb,.func (.func sf) #[] sb] t)):=
 ⟨Nat.ne_of_gt (S.inw h),dA _ _ _,by simp,by simp⟩
theorem Bx.on{bx:Nat}{W w w':World}(h:Bx blk bx lb g sf sb W w)(hf:Fr w [blk] w'):Bx blk bx lb g sf sb W w':=
 ⟨h.ne,da h.fr hf,fS hf (by simpa using h.ne) h.c0,fS hf (by simpa using h.ne) h.c1⟩
end
section
variable {β:Type} [Inhabited β]
def posR(p:β->Bool)(l:List β):Nat->Nat
 |0=>0
 |k+1=>if p (l.getD k default)=true then posR p l k else k+1
def jY(lt:β->β->Bool)(l:List β)(x:β):List β:=l.take (posR (lt x) l l.length)++x::l.drop (posR (lt x) l l.length)
def stS(lt:β->β->Bool)(l:List β):List β:=l.foldl (jY lt) []
theorem ln(p:β->Bool)(l:List β):∀k,posR p l k<=k
 |0=>le_refl _
 |k+1=>by
  rw[posR]
  split
  · have:=ln p l k;omega
  · exact le_refl _
theorem zy(p:β->Bool)(l:List β):∀k j,posR p l k<=j->j<k->p (l.getD j default)=true
 |0,j,_,h=>by omega
 |k+1,j,h1,h2=>by
  rw[posR] at h1
  split at h1
  · rename_i hp
    by_cases hj:j=k
    · rw[hj];exact hp
    · exact zy p l k j h1 (by omega)
  · omega
theorem y3(p:β->Bool)(l:List β):∀k,0<posR p l k->p (l.getD (posR p l k - 1) default)=false
 |0,h=>by simp[posR] at h
 |k+1,h=>by
  rw[posR] at h⊢
  split
  · rename_i hp
    rw[if_pos hp] at h
    exact y3 p l k h
  · rename_i hp
    simpa using hp
theorem AQ(lt:β->β->Bool)(l:List β)(x:β):(jY lt l x).length=l.length+1:=by
 have:=ln (lt x) l l.length
 unfold jY
 simp only[List.length_append,length_take,List.length_cons,List.length_drop]
 omega
theorem yc(lt:β->β->Bool)(l:List β)(x:β):(jY lt l x).Perm (x::l):=by
 unfold jY
 refine perm_middle.trans ?_
 rw[List.take_append_drop]
theorem Bh{lt L:β->β->Bool}(hL:SWO L){l:List β}{x:β}(hs:l.Pairwise fun a b=>L b a=false)(hx:∀y,y∈l->lt x y=L x y):(jY lt l x).Pairwise fun a b=>L b a=false:=by
 have hle:=ln (lt x) l l.length
 have hup:=zy (lt x) l l.length
 have hat:=y3 (lt x) l l.length
 unfold jY
 generalize posR (lt x) l l.length=k at*
 have hsp:=hs
 rw[<-List.take_append_drop k l] at hsp
 obtain⟨s1,s2,s3⟩:=List.pairwise_append.1 hsp
 have hd:∀b,b∈l.drop k->L x b=true:=fun b hb=>by
  obtain⟨j,hj,rfl⟩:=getElem_of_mem hb
  rw[List.getElem_drop]
  rw[List.length_drop] at hj
  have:=hup (k+j) (by omega) (by omega)
  rw[getD_eq_getElem?_getD,getElem?_eq_getElem (by omega),getD_some] at this
  rw[<-hx _ (List.getElem_mem _)]
  exact this
 have ht:∀a,a∈l.take k->L x a=false:=fun a ha=>by
  obtain⟨j,hj,rfl⟩:=getElem_of_mem ha
  rw[List.getElem_take]
  rw[length_take] at hj
  have h0:=hat (by omega)
  rw[getD_eq_getElem?_getD,getElem?_eq_getElem (by omega),getD_some,hx _ (List.getElem_mem _)] at h0
  by_cases hjk:j=k - 1
  · subst hjk;exact h0
  · exact hL.ntrans _ _ _ h0 (List.pairwise_iff_getElem.1 hs j (k - 1) (by omega) (by omega) (by omega))
 refine List.pairwise_append.2 ⟨s1,List.pairwise_cons.2 ⟨fun b hb=>hL.asymmA (hd b hb),s2⟩,fun a ha b hb=> ?_⟩
 rcases mem_cons.1 hb with rfl|hb
 · exact ht a ha
 · exact s3 a ha b hb
theorem E1{lt L:β->β->Bool}(hL:SWO L):∀(l acc:List β),(acc.Pairwise fun a b=>L b a=false)->(l.Pairwise fun a b=>lt b a=L b a)->(∀x,x∈l->∀y,y∈acc->lt x y=L x y)->
 (l.foldl (jY lt) acc).Perm (acc++l)∧(l.foldl (jY lt) acc).Pairwise fun a b=>L b a=false
 |[],acc,hs,_,_=>⟨by simp,hs⟩
 |x::l,acc,hs,hl,hx=>by
  rw[foldl_cons]
  obtain⟨h1,h2⟩:=List.pairwise_cons.1 hl
  have hp:=yc lt acc x
  obtain⟨q1,q2⟩:=E1 hL l (jY lt acc x) (Bh hL hs (hx x (by simp))) h2 fun y hy z hz=>by
   rcases mem_cons.1 (hp.mem_iff.1 hz) with rfl|hz
   · exact h1 y hy
   · exact hx y (by simp[hy]) z hz
  refine⟨q1.trans ?_,q2⟩
  exact(hp.append_right l).trans (perm_middle.symm)
theorem zT{γ:Type} [Inhabited γ](f:β->γ)(p:γ->Bool)(l:List β):∀k,k<=l.length->posR p (l.map f) k=posR (fun x=>p (f x)) l k
 |0,_=>rfl
 |k+1,h=>by
  have e:(l.map f).getD k default=f (l.getD k default):=by
   rw[getD_eq_getElem?_getD,getD_eq_getElem?_getD,getElem?_map,getElem?_eq_getElem (by omega)]
   rfl
  rw[posR,posR,e,zT f p l k (by omega)]
theorem Ig{γ:Type} [Inhabited γ](f:β->γ)(lt:γ->γ->Bool)(l:List β)(x:β):(jY (fun a b=>lt (f a) (f b)) l x).map f=jY lt (l.map f) (f x):=by
 unfold jY
 rw[length_map,zT f _ l _ (le_refl _)]
 simp only[List.map_append,List.map_take,map_cons,List.map_drop]
theorem zB{γ:Type} [Inhabited γ](f:β->γ)(lt:γ->γ->Bool)(l:List β):(stS (fun a b=>lt (f a) (f b)) l).map f=stS lt (l.map f):=by
 unfold stS
 have:∀(l acc:List β),(l.foldl (jY fun a b=>lt (f a) (f b)) acc).map f=(l.map f).foldl (jY lt) (acc.map f):=by
  intro l
  induction l with
  |nil=>intro acc;rfl
  |cons x l ih=>intro acc;rw[foldl_cons,ih,map_cons,foldl_cons,Ig]
 exact this l []
end
def wm{β:Type}(lt:β->β->Bool)(p q:β×Nat):Bool:=lt p.1 q.1||(!lt q.1 p.1&&decide (p.2<q.2))
theorem zJ{β:Type}{lt:β->β->Bool}(h:SWO lt):SWO (wm lt):=by
 refine⟨fun x=>by simp[wm,h.irrefl],fun x y z hxy hyz=> ?_,fun x y z hxy hyz=> ?_⟩
 · simp only[wm,Bool.or_eq_true,and_eq_true,not_eq_true',decide_eq_true_eq] at*
   rcases hxy with hxy|⟨hxy,h1⟩
   · rcases hyz with hyz|⟨hyz,h2⟩
     · exact .inl (h.trans _ _ _ hxy hyz)
     · left
       cases hxz:lt x.1 z.1 with
       |true=>rfl
       |false=>
        have:=h.ntrans _ _ _ hxz hyz
        rw[this] at hxy;cases hxy
   · rcases hyz with hyz|⟨hyz,h2⟩
     · left
       cases hxz:lt x.1 z.1 with
       |true=>rfl
       |false=>
        have:=h.ntrans _ _ _ hxy hxz
        rw[this] at hyz;cases hyz
     · by_cases hxz:lt x.1 z.1=true
       · exact .inl hxz
       · exact .inr ⟨h.ntrans _ _ _ hyz hxy,by omega⟩
 · simp only[wm,Bool.or_eq_false_iff,Bool.and_eq_false_imp,not_eq_true',decide_eq_false_iff_not] at*
   refine⟨h.ntrans _ _ _ hxy.1 hyz.1,fun hzx=> ?_⟩
   have h1:lt y.1 x.1=false:=by
    cases hyx:lt y.1 x.1 with
    |false=>rfl
    |true=>
     have:lt z.1 x.1=true:=by
      cases hq:lt z.1 x.1 with
      |true=>rfl
      |false=>
       have:=h.ntrans _ _ _ hyz.1 hq
       rw[this] at hyx;cases hyx
     rw[this] at hzx;cases hzx
   have h2:lt z.1 y.1=false:=by
    cases hzy:lt z.1 y.1 with
    |false=>rfl
    |true=>
     have:=h.ntrans _ _ _ hzx hxy.1
     rw[this] at hzy;cases hzy
   have h3:=hxy.2 h1
   have h4:=hyz.2 h2
   omega
theorem uK{β:Type} [Inhabited β]{lt:β->β->Bool}(h:SWO lt){d:Array (β×Nat)}(ht:∀i j,i<j->j<d.size->d[i]!.2<d[j]!.2):
 ((bR (fun p q=>lt p.1 q.1) d.size d).toList.map Prod.fst)=stS lt (d.toList.map Prod.fst):=by
 have hL:=zJ h
 have hag:∀i j,i<j->j<d.size->(fun p q:β×Nat=>lt p.1 q.1) d[j]! d[i]! =wm lt d[j]! d[i]! :=fun i j hij hj=>by
  have:=ht i j hij hj
  have hn:decide (d[j]!.2<d[i]!.2)=false:=by simp;omega
  simp only[wm,hn,Bool.and_false,Bool.or_false]
 obtain⟨hP,hS⟩:=w4 (lt:=fun p q:β×Nat=>lt p.1 q.1) hL (n:=d.size) (d:=d) (le_refl _) hag
 have hsz:(bR (fun p q:β×Nat=>lt p.1 q.1) d.size d).size=d.size:=hP.1
 have hget:∀(e:Array (β×Nat))(i:Nat)(hi:i<e.size),e.toList[i]'(by simpa using hi)=e[i]! :=fun e i hi=>by
  rw[getElem!_pos e i hi];simp
 have hperm:(bR (fun p q:β×Nat=>lt p.1 q.1) d.size d).toList.Perm d.toList:=by
  have:=hP.2.2
  have e1:(bR (fun p q:β×Nat=>lt p.1 q.1) d.size d).extract 0 d.size=bR (fun p q:β×Nat=>lt p.1 q.1) d.size d:=by
   have:=extract_size (xs:=bR (fun p q:β×Nat=>lt p.1 q.1) d.size d)
   rwa[hsz] at this
  rwa[e1,extract_size] at this
 have hsort:(bR (fun p q:β×Nat=>lt p.1 q.1) d.size d).toList.Pairwise fun a b=>wm lt b a=false:=by
  rw[List.pairwise_iff_getElem]
  intro i j hi hj hij
  have hi':i<(bR (fun p q:β×Nat=>lt p.1 q.1) d.size d).size:=by simpa using hi
  have hj':j<(bR (fun p q:β×Nat=>lt p.1 q.1) d.size d).size:=by simpa using hj
  rw[hget _ i hi',hget _ j hj']
  exact hS i j (Nat.zero_le _) hij (by rw[<-hsz];exact hj')
 obtain⟨q1,q2⟩:=E1 (lt:=fun p q:β×Nat=>lt p.1 q.1) hL d.toList [] List.Pairwise.nil (by
  rw[List.pairwise_iff_getElem]
  intro i j hi hj hij
  have hi':i<d.size:=by simpa using hi
  have hj':j<d.size:=by simpa using hj
  rw[hget _ i hi',hget _ j hj']
  exact hag i j hij hj') (fun x _ y hy=>by simp at hy)
 rw[List.nil_append] at q1
 have heq:(bR (fun p q:β×Nat=>lt p.1 q.1) d.size d).toList=stS (fun p q:β×Nat=>lt p.1 q.1) d.toList:=by
  refine Perm.eq_of_pairwise (le:=fun x y=>wm lt y x=false) (fun a b ha hb h1 h2=> ?_) hsort q2 (hperm.trans q1.symm)
  have ha':=hperm.mem_iff.1 ha
  have hb':=q1.mem_iff.1 hb
  obtain⟨i,hi,rfl⟩:=getElem_of_mem ha'
  obtain⟨j,hj,rfl⟩:=getElem_of_mem hb'
  have hi':i<d.size:=by simpa using hi
  have hj':j<d.size:=by simpa using hj
  rw[hget _ i hi',hget _ j hj'] at h1 h2⊢
  simp only[wm,Bool.or_eq_false_iff,Bool.and_eq_false_imp,not_eq_true',decide_eq_false_iff_not] at h1 h2
  have a1:=h1.2 h2.1
  have a2:=h2.2 h1.1
  rcases Nat.lt_trichotomy i j with hij|hij|hij
  · have:=ht i j hij hj';omega
  · rw[hij]
  · have:=ht j i hij hi';omega
 rw[heq]
 exact zB Prod.fst lt d.toList
end Go.Vx
namespace Go.Vx
open Go.RowKit Go.Sort
theorem Kg{w:World}{b:Nat}{cur:Array Value}{e:TypeId}(h:w.heap[b]? =some (.cells cur e (0,0)))(p:Nat):w.cell? ⟨b,p,none⟩=cur[p]? :=by
 simp[World.cell?,h]
theorem FF{w:World}{b:Nat}{cur:Array Value}{e:TypeId}(h:w.heap[b]? =some (.cells cur e (0,0)))(p:Nat):w.frozen? ⟨b,p,none⟩=false:=by
 simp[World.frozen?,h]
theorem oa{b:Nat}{e:TypeId}:∀(vs:List Value)(s:Nat){w:World}{cur:Array Value},w.heap[b]? =some (.cells cur e (0,0))->
 (w.setCells b s vs).heap[b]? =some (.cells (setMany cur s vs) e (0,0))∧(∀k,k≠b->(w.setCells b s vs).heap[k]? =w.heap[k]?)∧(w.setCells b s vs).heap.size=w.heap.size∧(w.setCells b s vs).os=w.os∧(w.setCells b s vs).tape=w.tape∧(w.setCells b s vs).output=w.output
 |[],s,w,cur,h=>⟨h,fun _ _=>rfl,rfl,rfl,rfl,rfl⟩
 |v::r,s,w,cur,h=>by
  have h1:(w.setCell ⟨b,s,none⟩ v).heap[b]? =some (.cells (cur.setIfInBounds s v) e (0,0)):=by
   simp only[World.setCell,Array.getElem?_modify,if_pos,h,map_some]
   rfl
  obtain⟨q1,q2,q3,q4,q5,q6⟩:=oa (e:=e) r (s+1) h1
  refine⟨q1,fun k hk=>(q2 k hk).trans (Below.heap_setCell w ⟨b,s,none⟩ v k hk),q3.trans (by simp[World.setCell]),q4,q5,q6⟩
abbrev El:=(List Value×List D×List Nat)×Nat
def oI(k:Nat)(x:El):List Value:=(x.1.1++List.replicate k undef).take k
theorem lW(k:Nat)(x:El):(oI k x).length=k:=by simp[oI]
theorem qX{k:Nat}{x:El}(h:x.1.1.length=k):oI k x=x.1.1:=by
 unfold oI
 rw[List.take_append_of_le_length (by omega),List.take_of_length_le (by omega)]
structure RowsIn (w0:World) (b cap n k:Nat) (e:TypeId) (Q:El->Prop) (w:World) (d:Array El):Prop where
 fr:Fr w0 [b] w
 size:d.size=n
 all:∀i,i<n->Q d[i]!
 mem:∃cur,w.heap[b]? =some (.cells cur e (0,0))∧cur.size=cap*k∧∀t,t<n*k->cur[t]! =(flatK (oI k) k d)[t]!
theorem RowsIn.below{w0:World}{b cap n k:Nat}{e:TypeId}{Q:El->Prop}{w w':World}{d:Array El}(h:RowsIn w0 b cap n k e Q w d)(hb:Below w.heap.size w w'):RowsIn w0 b cap n k e Q w' d:=by
 obtain⟨cur,h1,h2,h3⟩:=h.mem
 exact⟨da h.fr (cH hb),h.size,h.all,cur,by rw[hb.block b (Array.getElem?_eq_some_iff.1 h1).1];exact h1,h2,h3⟩
theorem RowsIn.cell{w0:World}{b cap n k:Nat}{e:TypeId}{Q:El->Prop}{w:World}{d:Array El}(h:RowsIn w0 b cap n k e Q w d)(hn:n<=cap){i c:Nat}(hi:i<n)(hc:c<k):w.cell? ⟨b,i*k+c,none⟩=(oI k d[i]!)[c]? :=by
 obtain⟨cur,h1,h2,h3⟩:=h.mem
 have lt:i*k+c<n*k:=by
  have:=mul_le_mul_right k (show i+1<=n from hi);rw[Nat.add_mul,Nat.one_mul] at this;omega
 have lt':i*k+c<cur.size:=by rw[h2];exact lt_of_lt_of_le lt (mul_le_mul_right k hn)
 have e1:(i*k+c) / k=i:=(blk_iff k i _ (by omega)).1 ⟨by omega,by omega⟩
 have e2:(i*k+c) % k=c:=by rw[Nat.mod_eq_sub_div_mul,e1];omega
 have:=h3 _ lt
 rw[get_flatK _ _ _ _ (by rw[h.size];exact lt),e1,e2] at this
 rw[Kg h1,Array.getElem?_eq_getElem lt',<-getElem!_pos cur _ lt',this,getElem?_eq_getElem (by rw[lW];exact hc)]
 rw[getElem!_pos _ _ (by rw[lW];exact hc)]
theorem Av{P:Program}{w0:World}{b cap n k:Nat}{e:TypeId}{Q:El->Prop}(hn:n<=cap)(hsm:n<4611686018427387904){lt:El->El->Bool}{g:Nat}{lb:Array Value}{sf:Nat}{sb:Array Value}
 (eg:∀args w,(callFunc g args).run P w= .ok (.enter g args) w)
 (hone:∀x,Q x->∀v,v∈oI k x->v.oneCell'=true)
 (hless:∀{w d},RowsIn w0 b cap n k e Q w d->∀i j:Nat,i<n->j<n->Calls P g (#[.int .i64 i,.int .i64 j]++lb) w fun e w'=>e= .returned (.bool (lt d[i]! d[j]!))∧Below w.heap.size w w')
 (hswap:∀(W:World)(X Y:List Value)(i j:Nat),i<n->j<n->i≠j->X.length=k->Y.length=k->(∀v,v∈X->v.oneCell'=true)->(∀v,v∈Y->v.oneCell'=true)->
   (∀u v,X[u]? =some v->W.cell? ⟨b,i*k+u,none⟩=some v)->(∀u v,Y[u]? =some v->W.cell? ⟨b,j*k+u,none⟩=some v)->(∀p,W.frozen? ⟨b,p,none⟩=false)->
   (callFunc sf (#[.int .i64 i,.int .i64 j]++sb)).run P W= .ok (.value (.tuple #[])) ((W.setCells b (i*k) Y).setCells b (j*k) X)):
 Srt P (RowsIn w0 b cap n k e Q) b n lt g lb sf sb where
 eg:=eg
 small:=hsm
 inw:=fun h=>by obtain⟨cur,h1,_⟩:=h.mem;exact(Array.getElem?_eq_some_iff.1 h1).1
 size:=fun h=>h.size
 alloc:=fun{w d} o h=>h.below ((Below.refl _ _).alloc (le_refl _) o)
 drew:=fun{w d} q h=>h.below ⟨rfl,rfl,rfl,le_refl _,fun _ _=>rfl⟩
 less:=fun{w d} h i j hi hj=>(hless h i j hi hj).mono fun _ _ ⟨q1,q2⟩=>⟨q1,h.below q2,q2⟩
 swap:=fun{w d} h i j hi hj hij=>by
  obtain⟨cur,h1,h2,h3⟩:=h.mem
  have hcell:∀x,x<n->∀u v,(oI k d[x]!)[u]? =some v->w.cell? ⟨b,x*k+u,none⟩=some v:=fun x hx u v hu=>by
   rw[h.cell hn hx (by have:=(List.getElem?_eq_some_iff.1 hu).1;rwa[lW] at this)];exact hu
  have hr:=hswap w (oI k d[i]!) (oI k d[j]!) i j hi hj hij (lW _ _) (lW _ _) (hone _ (h.all i hi)) (hone _ (h.all j hj)) (hcell i hi) (hcell j hj) (FF h1)
  obtain⟨a1,a2,a3,a4,a5,a6⟩:=oa (e:=e) (oI k d[j]!) (i*k) h1
  obtain⟨b1,b2,b3,b4,b5,b6⟩:=oa (e:=e) (oI k d[i]!) (j*k) a1
  have hf:Fr w [b] ((w.setCells b (i*k) (oI k d[j]!)).setCells b (j*k) (oI k d[i]!)):=
   ⟨b4.trans a4,b5.trans a5,b6.trans a6,by rw[b3,a3];exact le_refl _,fun q _ hq=>(b2 q (by simpa using hq)).trans (a2 q (by simpa using hq))⟩
  have hdi:i<d.size:=by rw[h.size];exact hi
  have hdj:j<d.size:=by rw[h.size];exact hj
  refine⟨_,hr,⟨da h.fr hf,by rw[swp_size];exact h.size,fun q hq=> ?_,_,b1,by rw[size_setMany,size_setMany];exact h2,fun t ht=> ?_⟩,hf,by rw[b3,a3]⟩
  · rw[swp_get d hdi hdj]
    split
    · exact h.all i hi
    · split
      · exact h.all j hj
      · exact h.all q hq
  · have hts:t<cur.size:=by rw[h2];exact lt_of_lt_of_le ht (mul_le_mul_right k hn)
    have htf:t<(flatK (oI k) k d).size:=by rw[size_flatK,h.size];exact ht
    rw[get_setMany _ _ _ t (by rw[size_setMany];exact hts),get_setMany _ _ _ t hts,<-setMany_swp (oI k) k (lW k) d i j hdi hdj,get_setMany _ _ _ t (by rw[size_setMany];exact htf),get_setMany _ _ _ t htf,h3 t ht]
section
variable {w0:World} {M:Nat->Nat->Prop} {t:TypeId} {ks:List K} {dp:Bool} {xs:List (List D)} {F:List Nat} {b cap n:Nat}
def tU(w0:World)(M:Nat->Nat->Prop)(ks:List K)(dp:Bool)(b:Nat)(x:El):Prop:=x.1.1.length=ks.length∧(if dp then bj w0 ks x.1.1 x.1.2.1 x.1.2.2∧b ∉ x.1.2.2 else aP w0 M ks x.1.1 x.1.2.1∧x.1.2.2=[])
theorem BD(h:bU w0 M t ks dp (.slice (some ⟨b,0,none⟩) n cap) xs F)(hF:F.Nodup):n=xs.length∧n<=cap∧n<=al∧∃d:Array El,RowsIn w0 b cap n ks.length t (tU w0 M ks dp b) w0 d∧d.toList.map (fun x=>x.1.2.1)=xs∧F=b::(d.toList.map fun x=>x.1.2.2).flatten∧
 ∀i j,i<j->j<d.size->d[i]!.2<d[j]!.2:=by
 obtain⟨vss,fps,h1,h2,h3,h4,h5,h6⟩:=h
 rcases h1.2 with ⟨e,_⟩|⟨gg,cp,cur,e,_,hg,hnc,hcm,hcs,htk⟩
 · cases e
 simp only[Value.slice.injEq,Option.some.injEq,Addr.mk.injEq,and_true] at e
 obtain⟨rfl,rfl,rfl⟩:=e
 have hlen:∀vs∈vss,vs.length=ks.length:=by
  intro vs hv
  obtain⟨i,hi⟩:=List.getElem?_of_mem hv
  have hlt:=(List.getElem?_eq_some_iff.1 hi).1
  have:=h6 i xs[i] vs fps[i] (getElem?_eq_getElem (by omega)) hi (getElem?_eq_getElem (by omega))
  split at this
  · exact this.length
  · exact this.1.length
 have hFc:F=b::fps.flatten:=by rw[h5];rfl
 rw[hFc] at hF
 have hbn:=(List.nodup_cons.1 hF).1
 let d:Array El:=(Array.range xs.length).map fun i=>((vss.getD i [],xs.getD i [],fps.getD i []),i)
 have hds:d.size=xs.length:=by simp[d]
 have hdg:∀i,i<xs.length->d[i]! =((vss.getD i [],xs.getD i [],fps.getD i []),i):=fun i hi=>by
  rw[getElem!_pos d i (by rw[hds];exact hi)];simp[d]
 have hdl:d.toList=(List.range xs.length).map fun i=>((vss.getD i [],xs.getD i [],fps.getD i []),i):=by simp[d,Array.toList_range]
 refine⟨rfl,hnc,h2,d,⟨gQ _ _,hds,fun i hi=> ?_,cur,hg,hcs,fun q hq=> ?_⟩,?_,?_,fun i j hij hj=> ?_⟩
 · rw[hdg i hi]
   have e1:vss[i]? =some (vss.getD i []):=by rw[getD_eq_getElem?_getD,getElem?_eq_getElem (by omega)];rfl
   have e2:xs[i]? =some (xs.getD i []):=by rw[getD_eq_getElem?_getD,getElem?_eq_getElem (by omega)];rfl
   have e3:fps[i]? =some (fps.getD i []):=by rw[getD_eq_getElem?_getD,getElem?_eq_getElem (by omega)];rfl
   refine⟨hlen _ (mem_of_getElem? e1),?_⟩
   have:=h6 i _ _ _ e2 e1 e3
   split at this
   · rename_i hd
     rw[if_pos hd]
     exact⟨this,fun hb=>hbn (List.mem_flatten.2 ⟨_,mem_of_getElem? e3,hb⟩)⟩
   · rename_i hd
     rw[if_neg hd]
     exact this
 · have hk:0<ks.length:=by
    rcases Nat.eq_zero_or_pos ks.length with h|h
    · rw[h] at hq;simp at hq
    · exact h
   have hq1:q / ks.length<xs.length:=(Nat.div_lt_iff_lt_mul hk).2 hq
   have hq2:=mod_lt q hk
   rw[get_flatK _ _ _ _ (by rw[hds];exact hq),hdg _ hq1]
   have e1:vss[q / ks.length]? =some (vss.getD (q / ks.length) []):=by rw[getD_eq_getElem?_getD,getElem?_eq_getElem (by omega)];rfl
   have hl1:=hlen _ (mem_of_getElem? e1)
   rw[qX hl1]
   have hqc:q<cur.size:=by rw[hcs];exact lt_of_lt_of_le hq (mul_le_mul_right _ hnc)
   have:=jx ks.length vss hlen (q / ks.length) _ (q % ks.length) _ e1 (getElem?_eq_getElem (by rw[hl1];exact hq2))
   rw[show q / ks.length*ks.length+q % ks.length=q by rw[mul_comm];exact Nat.div_add_mod q _,<-htk,List.getElem?_take,if_pos hq] at this
   rw[getElem!_pos cur q hqc,getElem!_pos (vss.getD (q / ks.length) []) (q % ks.length) (by rw[hl1];exact hq2)]
   have h7:cur[q]? =some ((vss.getD (q / ks.length) [])[q % ks.length]'(by rw[hl1];exact hq2)):=by rw[<-Array.getElem?_toList];exact this
   rw[Array.getElem?_eq_getElem hqc] at h7
   exact Option.some.inj h7
 · rw[hdl,map_map]
   refine ext_getElem (by simp) fun i h7 h8=> ?_
   simp only[List.getElem_map,List.getElem_range,Function.comp]
   rw[getD_eq_getElem?_getD,getElem?_eq_getElem h8];rfl
 · rw[hFc,hdl,map_map]
   congr 2
   refine ext_getElem (by simp;omega) fun i h7 h8=> ?_
   simp only[List.getElem_map,List.getElem_range,Function.comp]
   rw[getD_eq_getElem?_getD,getElem?_eq_getElem h7];rfl
 · have hj':j<xs.length:=by rw[<-hds];exact hj
   rw[hdg i (by omega),hdg j hj']
   exact hij
theorem B5{w:World}{d d':Array El}(h0:RowsIn w0 b cap n ks.length t (tU w0 M ks dp b) w0 d)(hF:F=b::(d.toList.map fun x=>x.1.2.2).flatten)(hFn:F.Nodup)(hFl:∀c,c∈F->c<w0.heap.size) (hn:n<=cap) (hl:n<=al) (hcap:cap<=maxLen)
 (h:RowsIn w0 b cap n ks.length t (tU w0 M ks dp b) w d') (hp:d'.toList.Perm d.toList) (hM:∀o,M b o) (M':Nat->Nat->Prop) (hM':∀c o,M' c o->M c o):
 ∃F',bU w M' t ks dp (.slice (some ⟨b,0,none⟩) n cap) (d'.toList.map fun x=>x.1.2.1) F'∧F'.Perm F:=by
 obtain⟨cur,h1,h2,h3⟩:=h.mem
 have hdn:d'.toList.length=n:=by rw[length_toList];exact h.size
 have hget:∀i(hi:i<d'.toList.length),d'.toList[i]=d'[i]! :=fun i hi=>by
  rw[getElem!_pos d' i (by simpa using hi)];simp
 have hok:∀i,i<n->tU w0 M ks dp b d'[i]! :=fun i hi=>h.all i hi
 have hpf:(d'.toList.map fun x=>x.1.2.2).flatten.Perm (d.toList.map fun x=>x.1.2.2).flatten:=(hp.map _).flatten
 have hbn:=(List.nodup_cons.1 (by rw[hF] at hFn;exact hFn)).1
 have keep:∀{c:Nat},c<w0.heap.size->c≠b->w.heap[c]? =w0.heap[c]? :=fun hc hb=>h.fr.block _ hc (by simpa using hb)
 have hK:Keeps w0 M w M':=fun c o v hcell hn=>by
  have hcb:c≠b:=fun e=>hn (by rw[e];exact hM o)
  have hclt:=fw hcell
  exact⟨by rw[World.cell?_of_block (w:=w0) (keep hclt hcb)];exact hcell,fun hm=>hn (hM' _ _ hm)⟩
 refine⟨b::(d'.toList.map fun x=>x.1.2.2).flatten,⟨d'.toList.map fun x=>x.1.1,d'.toList.map fun x=>x.1.2.2,⟨?_,.inr ⟨b,cap,cur,by simp[h.size],Nat.zero_le _,h1,by simp only[length_map,length_toList,h.size];exact hn,hcap,h2,?_⟩⟩,by simp only[length_map,length_toList,h.size];exact hl,by simp,by simp,rfl,fun i row vs f e1 e2 e3=> ?_⟩,?_⟩
 · rw[bm (n:=ks.length) (fun vs hv=> ?_)]
   · simp
   · obtain⟨x,hx,rfl⟩:=mem_map.1 hv
     obtain⟨i,hi,rfl⟩:=getElem_of_mem hx
     rw[hget i hi]
     exact(hok i (by omega)).1
 · have hvl:∀vs∈d'.toList.map (fun x=>x.1.1),vs.length=ks.length:=fun vs hv=>by
    obtain⟨x,hx,rfl⟩:=mem_map.1 hv
    obtain⟨i,hi,rfl⟩:=getElem_of_mem hx
    rw[hget i hi]
    exact(hok i (by omega)).1
   refine ext_getElem ?_ fun q hq1 hq2=> ?_
   · rw[length_take,bm hvl]
     simp only[length_map,length_toList,h.size,h2]
     exact min_eq_left (mul_le_mul_right _ hn)
   · rw[bm hvl] at hq2
     simp only[length_map,length_toList,h.size] at hq2
     have hk:0<ks.length:=by
      rcases Nat.eq_zero_or_pos ks.length with h|h
      · rw[h] at hq2;simp at hq2
      · exact h
     have hqi:q / ks.length<n:=(Nat.div_lt_iff_lt_mul hk).2 hq2
     have hqm:=mod_lt q hk
     have hqc:q<cur.size:=by rw[h2];exact lt_of_lt_of_le hq2 (mul_le_mul_right _ hn)
     have e0:=h3 q hq2
     rw[get_flatK _ _ _ _ (by rw[h.size];exact hq2),qX (hok _ hqi).1] at e0
     have hl0:q % ks.length<(d'[q / ks.length]!).1.1.length:=by rw[(hok _ hqi).1];exact hqm
     have e1:(d'.toList.map fun x=>x.1.1)[q / ks.length]? =some (d'[q / ks.length]!).1.1:=by
      rw[getElem?_map,getElem?_eq_getElem (by omega),hget];rfl
     have e2:=jx ks.length _ hvl (q / ks.length) _ (q % ks.length) _ e1 (getElem?_eq_getElem hl0)
     rw[show q / ks.length*ks.length+q % ks.length=q by rw[mul_comm];exact Nat.div_add_mod q _] at e2
     have e3:=(List.getElem?_eq_some_iff.1 e2).2
     rw[e3,List.getElem_take]
     rw[getElem!_pos cur q hqc,getElem!_pos (d'[q / ks.length]!).1.1 (q % ks.length) hl0] at e0
     rw[<-e0];simp
 · rw[getElem?_map] at e1 e2 e3
   obtain⟨x,hx,rfl⟩:=Option.map_eq_some_iff.1 e1
   rw[hx] at e2 e3
   simp only[map_some,Option.some.injEq] at e2 e3
   subst e2 e3
   have hi:=(List.getElem?_eq_some_iff.1 hx).1
   have hxe:x=d'[i]! :=by rw[getElem?_eq_getElem hi,hget i hi] at hx;exact(Option.some.inj hx).symm
   have:=(hok i (by omega)).2
   rw[<-hxe] at this
   split at this
   · rename_i hd
     rw[if_pos hd]
     refine this.1.keeps fun c hc=>keep (hFl c ?_) fun e=>this.2 (e▸hc)
     rw[hF]
     exact List.mem_cons_of_mem _ (hpf.mem_iff.1 (List.mem_flatten.2 ⟨_,mem_map.2 ⟨x,mem_of_getElem? hx,rfl⟩,hc⟩))
   · rename_i hd
     rw[if_neg hd]
     exact⟨this.1.keeps hK,this.2⟩
 · rw[hF]
   exact Perm.cons _ hpf
end
end Go.Vx
namespace Go.Vx
open Go.RowKit Go.Sort
def dv:List (List D)->List (List D)->Bool
 |_,[]=>false
 |[],_::_=>true
 |r::a,s::b=>if(cell r 0).ao=(cell s 0).ao then(if(cell r 1).ao=(cell s 1).ao then dv a b else Op.bytesLess (cell r 1).ao.toList (cell s 1).ao.toList) else Op.bytesLess (cell r 0).ao.toList (cell s 0).ao.toList
def uS(l:List (List D)):List (List UInt8):=l.flatMap fun r=>[(cell r 0).ao.toList,(cell r 1).ao.toList]
theorem zO{a b:ByteArray}:a.toList=b.toList↔a=b:=by
 refine⟨fun h=> ?_,fun h=>by rw[h]⟩
 rw[Lib.toList_data,Lib.toList_data] at h
 cases a;cases b
 simp only[ByteArray.mk.injEq]
 exact ext' h
theorem rq:∀(a b:List (List D)),dv a b=decide (uS a<uS b)
 |[],[]=>by simp[dv,uS]
 |_::_,[]=>by simp[dv,uS]
 |[],_::_=>by simp[dv,uS]
 |r::a,s::b=>by
  have ih:=rq a b
  have e:∀(q:List D)(l:List (List D)),uS (q::l)=(cell q 0).ao.toList::(cell q 1).ao.toList::uS l:=fun _ _=>rfl
  rw[e,e,dv]
  simp only[List.cons_lt_cons_iff,<-zO,Go.Proofs.bytesLess_eq,ih]
  by_cases h1:(cell r 0).ao.toList=(cell s 0).ao.toList
  · rw[if_pos h1]
    by_cases h2:(cell r 1).ao.toList=(cell s 1).ao.toList
    · rw[if_pos h2,h1,h2]
      simp[lt_irrefl]
    · rw[if_neg h2,h1]
      simp[lt_irrefl,h2]
  · rw[if_neg h1]
    simp[h1]
theorem y4{α β:Type}{lt:β->β->Bool}(f:α->β)(h:SWO lt):SWO fun a b=>lt (f a) (f b):=
 ⟨fun _=>h.irrefl _,fun _ _ _=>h.trans _ _ _,fun _ _ _=>h.ntrans _ _ _⟩
theorem ki:SWO dv where
 irrefl:=fun x=>by rw[rq];simp[lt_irrefl]
 trans:=fun x y z h1 h2=>by
  simp only[rq,decide_eq_true_eq] at*
  exact List.lt_trans h1 h2
 ntrans:=fun x y z h1 h2=>by
  simp only[rq,decide_eq_false_iff_not,List.not_lt] at*
  exact List.le_trans h2 h1
theorem Fe:SWO fun a b:Int=>decide (a<b) where
 irrefl:=fun x=>by simp
 trans:=fun x y z h1 h2=>by simp at*;omega
 ntrans:=fun x y z h1 h2=>by simp at*;omega
theorem HA{w:World}{b:Nat}:∀{vs:List Value}{o:Nat},(∀(j:Nat) v,vs[j]? =some v->w.cell? ⟨b,o+j,none⟩=some v)->Row w b o vs
 |[],_,_=>trivial
 |v::vs,o,h=>⟨by have:=h 0 v rfl;simpa using this,HA fun j u hj=>by have:=h (j+1) u (by simpa using hj);rw[show o+1+j=o+(j+1) by omega];exact this⟩
theorem tr{β:Type} [Inhabited β]{lt:β->β->Bool}(h:SWO lt){d:Array (β×Nat)}(ht:∀i j,i<j->j<d.size->d[i]!.2<d[j]!.2):
 (bR (fun p q=>lt p.1 q.1) d.size d).toList.Perm d.toList:=by
 have hL:=zJ h
 have hag:∀i j,i<j->j<d.size->(fun p q:β×Nat=>lt p.1 q.1) d[j]! d[i]! =wm lt d[j]! d[i]! :=fun i j hij hj=>by
  have:=ht i j hij hj
  have hn:decide (d[j]!.2<d[i]!.2)=false:=by simp;omega
  simp only[wm,hn,Bool.and_false,Bool.or_false]
 obtain⟨hP,hS⟩:=w4 (lt:=fun p q:β×Nat=>lt p.1 q.1) hL (n:=d.size) (d:=d) (le_refl _) hag
 have hsz:(bR (fun p q:β×Nat=>lt p.1 q.1) d.size d).size=d.size:=hP.1
 have:=hP.2.2
 have e1:(bR (fun p q:β×Nat=>lt p.1 q.1) d.size d).extract 0 d.size=bR (fun p q:β×Nat=>lt p.1 q.1) d.size d:=by
  have:=extract_size (xs:=bR (fun p q:β×Nat=>lt p.1 q.1) d.size d)
  rwa[hsz] at this
 rwa[e1,extract_size] at this
theorem i0{β:Type} [Inhabited β](lt:β->β->Bool)(xs:List β):(stS lt xs).length=xs.length:=by
 have:∀(l acc:List β),(l.foldl (jY lt) acc).length=acc.length+l.length:=by
  intro l
  induction l with
  |nil=>intro acc;rfl
  |cons x l ih=>intro acc;rw[foldl_cons,ih,AQ];simp;omega
 rw[stS,this];simp
section
variable {w0:World} {M:Nat->Nat->Prop} {t:TypeId} {ks:List K} {dp:Bool} {b cap n:Nat}
theorem RowsIn.dat{w:World}{d:Array El}(h:RowsIn w0 b cap n ks.length t (tU w0 M ks dp b) w d)(hn:n<=cap)(hl:n<=al)(hM:∀o,M b o):
 bV w (fun _ _=>False) (.sl t ks) (.slice (some ⟨b,0,none⟩) n cap) (.sl (d.toList.map fun x=>x.1.2.1)):=by
 have hdn:d.toList.length=n:=by rw[length_toList];exact h.size
 have hget:∀i(hi:i<d.toList.length),d.toList[i]=d[i]! :=fun i hi=>by
  rw[getElem!_pos d i (by simpa using hi)];simp
 have keep:∀{c:Nat},c<w0.heap.size->c≠b->w.heap[c]? =w0.heap[c]? :=fun hc hb=>h.fr.block _ hc (by simpa using hb)
 have hK:Keeps w0 M w (fun _ _=>False):=fun c o v hcell hn=>by
  have hcb:c≠b:=fun e=>hn (by rw[e];exact hM o)
  have hclt:=fw hcell
  exact⟨by rw[World.cell?_of_block (w:=w0) (keep hclt hcb)];exact hcell,fun hm=>hm⟩
 have hlen:(D.sl (d.toList.map fun x=>x.1.2.1)).ae.length=n:=by simp only[D.aQ,length_map,hdn]
 refine⟨some ⟨b,0,none⟩,cap,by rw[hlen],by rw[hlen];exact hn,by rw[hlen];exact hl,.inr ⟨b,0,rfl,fun i row hi=> ?_⟩⟩
 rw[D.aQ,getElem?_map] at hi
 obtain⟨x,hx,rfl⟩:=Option.map_eq_some_iff.1 hi
 have hlt:=(List.getElem?_eq_some_iff.1 hx).1
 have hxe:x=d[i]! :=by rw[getElem?_eq_getElem hlt,hget i hlt] at hx;exact(Option.some.inj hx).symm
 have hin:i<n:=by omega
 have hok:=h.all i hin
 rw[<-hxe] at hok
 refine⟨x.1.1,?_,fun _ _ h=>h,?_⟩
 · refine HA fun j v hj=> ?_
   have hjk:j<ks.length:=by rw[<-hok.1];exact(List.getElem?_eq_some_iff.1 hj).1
   rw[Nat.zero_add,h.cell hn hin hjk,<-hxe,qX hok.1]
   exact hj
 · have:=hok.2
   split at this
   · exact(this.1.keeps fun c hc=>keep (this.1.lt c hc) fun e=>this.2 (e▸hc)).toC fun _ _ _ h=>h
   · exact this.1.keeps hK
end
section
variable {Φ:Fns} {post:List D->Prop} {env:List D} {B:Nat->List D->Prop}
theorem IP{id l n:Nat}{fs:List (K×Nat)}{cs:List E}{c e0:E}{body:VC}{L:List (List D)}(hn:env.length=n)(hN:(L.length:Int)<=140737488355328)(p:List D->Bool)(h0:e0.den Φ env= .int L.length)
 (hq:∀k:Nat,k<=L.length->conj Φ (env++[.int k]) cs)
 (hc:∀k:Nat,k<=L.length->(c.den Φ (env++[.int k])).ZZ=(decide (0<k)&&p (ag L (k - 1))))
 (hb:∀q,body.wp Φ post (env++[.int (posR p L L.length:Nat)]) (eC B l q)):
 (VC.loop id l 1 fs [e0] (.req cs (.ite c (.back l [.op (.bin .sub .i64) [.var n,.int 1]]) body))).wp Φ post env B:=by
 refine wp_loop' (fun v=>∃k:Nat,v=[.int k]∧k<=L.length∧posR p L L.length=posR p L k) (fun v=>(cell v 0).ZY.toNat) ⟨L.length,by simp[h0],by omega,rfl⟩ ?_
 simp only[cA,cz]
 intro d
 refine bS fun _=> ?_
 rintro⟨k,hd,hk,hp⟩
 simp only[List.cons.injEq,and_true] at hd
 subst hd
 have hv:cell (env++[.int k]) n= .int k:=by subst hn;simp[cell]
 rw[aJ]
 refine⟨hq k hk,?_⟩
 rw[aO,hc k hk]
 refine⟨fun h=> ?_,fun h=> ?_⟩
 · simp only[and_eq_true,decide_eq_true_eq] at h
   simp only[dO,map_cons,List.map_nil,dD,b9,aS,a8,bF,eM,hv,eT,lO,D.aI,aq]
   rw[w64 (by omega) (by omega)]
   obtain⟨k',rfl⟩:∃k',k=k'+1:=⟨k - 1,by omega⟩
   refine⟨⟨k',by simp,by omega,?_⟩,by simp⟩
   rw[hp,posR,if_pos]
   exact h.2
 · have:posR p L k=k:=by
    cases k with
    |zero=>rfl
    |succ k=>
     rw[posR,if_neg]
     simp only[Nat.zero_lt_succ,decide_true,Bool.true_and,Nat.add_sub_cancel] at h
     have h':p (L.getD k default)=false:=h
     rw[h'];simp
   rw[this] at hp
   rw[<-hp]
   exact hb _
theorem vC{β:Type} [Inhabited β](lt:β->β->Bool)(l:List β)(x:β):stS lt (l++[x])=jY lt (stS lt l) x:=by simp[stS]
theorem lG{γ:Type}(f:List D->γ){xs:List (List D)}{i:Nat}(h:i<xs.length):(xs.take (i+1)).map f=(xs.take i).map f++[f (ag xs i)]:=by
 rw[List.take_add_one,getElem?_eq_getElem h,List.map_append,fu h];rfl
end
def ti{β:Type}(c:Nat->Bool)(f:Nat->β):Nat->List β
 |0=>[]
 |n+1=>ti c f n++(if c n=true then[f n] else[])
theorem x7{β:Type}(c:Nat->Bool)(f:Nat->β):∀n,(ti c f n).length<=n
 |0=>le_refl _
 |n+1=>by
  have:=x7 c f n
  simp only[ti,List.length_append]
  split<;>simp<;>omega
theorem rV{β:Type}{c:Nat->Bool}{f:Nat->β}{x:β}:∀{n:Nat},x∈ti c f n->∃i,i<n∧c i=true∧x=f i
 |0,h=>by cases h
 |n+1,h=>by
  rw[ti] at h
  rcases List.mem_append.1 h with h|h
  · obtain⟨i,h1,h2⟩:=rV h
    exact⟨i,by omega,h2⟩
  · split at h
    · rename_i hc
      exact⟨n,by omega,hc,by simpa using h⟩
    · cases h
theorem uE{β:Type} [Inhabited β](lt:β->β->Bool)(l:List β):(stS lt l).Perm l:=by
 have:∀(l acc:List β),(l.foldl (jY lt) acc).Perm (acc++l):=by
  intro l
  induction l with
  |nil=>intro acc;simp
  |cons x l ih=>
   intro acc
   rw[foldl_cons]
   refine(ih _).trans ?_
   refine((yc lt acc x).append_right l).trans ?_
   simp only[List.cons_append]
   exact(perm_middle (l₁:=acc) (l₂:=l) (a:=x)).symm
 simpa[stS] using this l []
theorem Gb{p:List D->Nat}{l l':List (List D)}(h:l.Perm l'):aD p l=aD p l':=by
 induction h with
 |nil=>rfl
 |cons x _ ih=>simp only[aD,ih]
 |swap x y l=>simp only[aD];omega
 |trans _ _ ih1 ih2=>exact ih1.trans ih2
end Go.Vx
namespace Go.Vx
open Go.RowKit (Below)
def zj(t1 t3:Nat)(T1:TypeId)(k1:K)(T3 e3:TypeId)(ks3:List K)(s:SSt):Option (List E):=match s.tmp t1,s.tmp t3 with
 | .ptr z1 _ 0,.ptr z3 _ 0=>match s.obj z1,s.obj z3 with
   |some (.box T1' [.dat k1' x1]),some (.box T3' [.ref z none])=>match s.obj z with
    |some (.arr e' ks' _ xs)=>bif T1'==T1&&(K.eqb k1' k1&&(T3'==T3&&(e'==e3&&K.ct ks' ks3)))&& !(z1==z3)&& !(z1==z)&& !(z3==z) then some [x1,xs] else none
    |_=>none
   |_,_=>none
 |_,_=>none
section
variable {Φ:Fns} {env:List D} {C:Cx} {g:Gh} {s:SSt} {a:Act} {w:World}
theorem yN(R:Rel C g (s.den Φ env) a w){t1 t3:Nat}{T1:TypeId}{k1:K}{T3 e3:TypeId}{ks3:List K}{es:List E}(h:zj t1 t3 T1 k1 T3 e3 ks3 s=some es):
 ∃(x1 xs:E) (b1 b3:Nat) (v1 v3:Value) (dp:Bool) (F:List Nat) (Mx:Nat->Nat->Prop),es=[x1,xs]∧a.tmps.getD t1 undef= .pointer (some ⟨b1,0,none⟩)∧a.tmps.getD t3 undef= .pointer (some ⟨b3,0,none⟩)∧
  w.heap[b1]? =some (.cells #[v1] T1 (0,0))∧w.heap[b3]? =some (.cells #[v3] T3 (0,0))∧bV w Mx k1 v1 (x1.den Φ env)∧bU w Mx e3 ks3 dp v3 (xs.den Φ env).ae F∧F.Nodup∧
  b1≠b3∧b1 ∉ F∧b3 ∉ F∧(∀b,b∈F->(C.w0.heap.size<=b∨b∈C.X)∧b<w.heap.size)∧(C.w0.heap.size<=b1∨b1∈C.X)∧(C.w0.heap.size<=b3∨b3∈C.X)∧
  (∀b o,C.M b o->Mx b o)∧(∀b,v3.ownBlock=some b->∀o,Mx b o):=by
 unfold zj at h
 split at h
 · rename_i z1 i1 z3 i3 h1 h3
   split at h
   · rename_i T1' k1' x1 T3' z o1 o3
     split at h
     · rename_i e' ks' dp xs oz
       obtain⟨hc,hx⟩:=ak h
       clear h
       rw[and_eq_true,and_eq_true,and_eq_true,and_eq_true,and_eq_true,and_eq_true,and_eq_true] at hc
       obtain⟨⟨⟨⟨q1,hk,q2,q3,hks⟩,n13⟩,n1⟩,n3⟩:=hc
       replace q1:=beq_iff_eq.1 q1
       replace q2:=beq_iff_eq.1 q2
       replace q3:=beq_iff_eq.1 q3
       replace n13:z1≠z3:=by simpa using n13
       replace n1:z1≠z:=by simpa using n1
       replace n3:z3≠z:=by simpa using n3
       subst q1 q2 q3
       replace hk:=K.aY hk
       replace hks:=K.bp hks
       subst hk hks
       obtain rfl:=Option.some.inj hx
       have o1':=aT (Φ:=Φ) (env:=env) o1
       have o3':=aT (Φ:=Φ) (env:=env) o3
       have oz':=aT (Φ:=Φ) (env:=env) oz
       have p1:=R.tmps t1
       have p3:=R.tmps t3
       rw[show(s.den Φ env).tmp t1=(s.tmp t1).den Φ env from SSt.fx s t1,h1] at p1
       rw[show(s.den Φ env).tmp t3=(s.tmp t3).den Φ env from SSt.fx s t3,h3] at p3
       have p1:aV (sur C g (s.den Φ env) w) z1 _ 0 _:=p1
       have p3:aV (sur C g (s.den Φ env) w) z3 _ 0 _:=p3
       unfold aV at p1 p3
       simp only[sur,o1',SOb.den] at p1
       simp only[sur,o3',SOb.den] at p3
       obtain⟨b1,hd1,e1⟩:=p1
       obtain⟨b3,hd3,e3⟩:=p3
       have r1:=R.objs z1
       have r3:=R.objs z3
       have rz:=R.objs z
       unfold bv at r1 r3 rz
       simp only[sur,o1',SOb.den] at r1
       simp only[sur,o3',SOb.den] at r3
       simp only[sur,oz',SOb.den] at rz
       obtain⟨b1',vs1,hd1',hf1,hh1,v1,u1,rfl,_,c1,rfl⟩:=r1
       obtain⟨b3',vs3,hd3',hf3,hh3,v3,u3,rfl,_,c3,rfl⟩:=r3
       rw[hd1] at hd1'
       rw[hd3] at hd3'
       simp only[Value.pointer.injEq,Option.some.injEq,Addr.mk.injEq,and_true] at hd1' hd3'
       subst hd1' hd3'
       have c3:aB _ z none v3:=c3
       unfold aB at c3
       simp only[sur,oz',SOb.den] at c3
       obtain⟨_,rfl⟩:=c3
       have hO:bU w (Me C.M (s.den Φ env).obj g.hd g.fp) e' ks' dp (g.hd z) (xs.den Φ env).ae (g.fp z):=rz
       have hblk:bq (g.hd z)=(g.hd z).ownBlock:=by obtain⟨_,_,q,_⟩:=hO;exact fe q
       have m1:b1∈g.fp z1:=by rw[hf1];simp
       have m3:b3∈g.fp z3:=by rw[hf3];simp
       refine⟨x1,xs,b1,b3,v1,g.hd z,dp,g.fp z,Me C.M (s.den Φ env).obj g.hd g.fp,rfl,e1,e3,hh1,hh3,c1,hO,R.own z,?_,?_,?_,R.alw z,(R.alw z1 b1 m1).1,(R.alw z3 b3 m3).1,fun b o h=>.inl h,fun b hb o=>.inr (.inl ⟨z,by rw[oz'];rfl,by rw[hblk];exact hb⟩)⟩
       · intro e
         subst e
         exact R.apart z1 z3 n13 _ m1 m3
       · exact R.apart z1 z n1 _ m1
       · exact R.apart z3 z n3 _ m3
     · cases h
   · cases h
 · cases h
end
end Go.Vx

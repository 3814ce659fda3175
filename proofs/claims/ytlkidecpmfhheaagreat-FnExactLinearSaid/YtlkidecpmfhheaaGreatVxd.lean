import Derived.Test.YtlkidecpmfhheaaGreatVxc
import Derived.ProofKit
import Derived.OpenShut
import Derived.SizedLaws
import Derived.WideKeyArgs
set_option linter.all false
open List (mem_cons getElem?_cons_zero mem_cons_of_mem mem_append toArray getD_eq_getElem?_getD map_cons flatMap_cons flatten_cons getD_cons_zero map_append flatMap_append cons_append mem_cons_self mem_map getElem_of_mem mem_singleton append_nil getElem?_eq_getElem nil_append getElem_map length_map take_add_one map_nil length_cons tail_cons)
open Nat (zero_add le_refl mul_add)
open Bool (and_eq_true not_eq_true')
open Option (toList)
open Int (natCast_add)
namespace Go.Vx
open Go.RowKit (Below)
def bk(i:Nat):Nat:=1000000000+100*i
def mL(key:Nat)(e:Nat->E):Nat->List BC->List SC
 |j,.keep k::cs=>.dat k (e j)::mL key e (j+1) cs
 |j,.im k::cs=>.dat k (e j)::mL key e (j+1) cs
 |j,.own _ _::cs=>.ref (key+j) none::mL key e (j+1) cs
 |j,.ex _ _ _::cs=>.ref (key+j) none::mL key e (j+1) cs
 |_,[]=>[]
def lK(key:Nat)(e:Nat->E):Nat->List BC->List (Nat×SOb)
 |j,.keep _::cs=>lK key e (j+1) cs
 |j,.im _::cs=>lK key e (j+1) cs
 |j,.own t ks::cs=>(key+j,.arr t ks false (e j))::lK key e (j+1) cs
 |j,.ex t ks _::cs=>(key+j,.arx t ks (e j))::lK key e (j+1) cs
 |_,[]=>[]
def vF(i:Nat)(j:Nat):E:=.op (.fld j) [.var i]
def wU(i:Nat):BSh->SV×List (Nat×SOb)
 | .im s=>(SN i s,[])
 | .one c=>(.one ((mL (bk i+1) (fun _=>.var i) 0 [c]).headD .dead),lK (bk i+1) (fun _=>.var i) 0 [c])
 | .agg cs=>(.agg (mL (bk i+1) (vF i) 0 cs),lK (bk i+1) (vF i) 0 cs)
 | .box T cs=>(.ptr (bk i) (.int 0) 0,(bk i,.box T (mL (bk i+1) (vF i) 0 cs))::lK (bk i+1) (vF i) 0 cs)
def ed:Nat->List BSh->List SV×List (Nat×SOb)
 |_,[]=>([],[])
 |i,b::bs=>((wU i b).1::(ed (i+1) bs).1,(wU i b).2++(ed (i+1) bs).2)
def ip(args:List BSh)(n:Nat):SSt:=⟨(ed 0 args).1++List.replicate (n - args.length) .dead,(ed 0 args).2⟩
def iD(key:Nat)(e:Nat->E):Nat->List BC->List Value->List (List Nat)->List Itm
 |j,.keep _::cs,_::us,Fs=>iD key e (j+1) cs us Fs
 |j,.im _::cs,_::us,Fs=>iD key e (j+1) cs us Fs
 |j,.own t ks::cs,u::us,F::Fs=>⟨key+j,.arr t ks false (e j),u,F⟩::iD key e (j+1) cs us Fs
 |j,.ex t ks _::cs,u::us,F::Fs=>⟨key+j,.arx t ks (e j),u,F⟩::iD key e (j+1) cs us Fs
 |_,_,_,_=>[]
def qQ(w:World):Value->List Value
 | .pointer (some a)=>match w.heap[a.block]? with
   |some (.cells us _ _)=>us.toList
   |_=>[]
 |_=>[]
def mY(key:Nat):Nat->List BC->List Value->List (Nat×TypeId×List K×Value)
 |j,.ex t ks true::cs,u::us=>(key+j,t,ks,u)::mY key (j+1) cs us
 |j,_::cs,_::us=>mY key (j+1) cs us
 |_,_,_=>[]
def lh(w:World):Nat->List BSh->List Value->List (Nat×TypeId×List K×Value)
 |i,.box _ cs::ss,v::vs=>mY (bk i+1) 0 cs (qQ w v)++lh w (i+1) ss vs
 |i,_::ss,_::vs=>lh w (i+1) ss vs
 |_,_,_=>[]
def lq:Nat->List BSh->List Value->List (Nat×Value)
 |i,.box _ _::ss,v::vs=>(bk i,v)::lq (i+1) ss vs
 |i,_::ss,_::vs=>lq (i+1) ss vs
 |_,_,_=>[]
theorem rZ{key:Nat}:∀{cs:List BC}{us:List Value}{j:Nat}{p:Nat×TypeId×List K×Value},p∈mY key j cs us->∃n t ks,p.1=key+(j+n)∧cs[n]? =some (.ex t ks true)∧p.2.1=t∧p.2.2.1=ks∧us[n]? =some p.2.2.2
 |[],_,_,_,h=>by simp[mY] at h
 |c::cs,[],_,_,h=>by
  cases c with
  |ex t ks pin=>cases pin<;>simp[mY] at h
  |_=>simp[mY] at h
 |c::cs,u::us,j,p,h=>by
  have rest:p∈mY key (j+1) cs us->∃n t ks,p.1=key+(j+n)∧(c::cs)[n]? =some (.ex t ks true)∧p.2.1=t∧p.2.2.1=ks∧(u::us)[n]? =some p.2.2.2:=fun h=>by
   obtain⟨n,t,ks,h1,h2,h3,h4,h5⟩:=rZ h
   exact⟨n+1,t,ks,by omega,by simpa using h2,h3,h4,by simpa using h5⟩
  cases c with
  |keep k=>exact rest h
  |im k=>exact rest h
  |own t ks=>exact rest h
  |ex t ks pin=>
   cases pin with
   |false=>exact rest h
   |true=>
    simp only[mY,mem_cons] at h
    rcases h with rfl|h
    · exact⟨0,t,ks,rfl,rfl,rfl,rfl,rfl⟩
    · exact rest h
theorem x0{key:Nat}:∀{cs:List BC}{us:List Value}{j n:Nat}{t:TypeId}{ks:List K}{u:Value},cs[n]? =some (.ex t ks true)->us[n]? =some u->(key+(j+n),t,ks,u)∈mY key j cs us
 |[],_,_,_,_,_,_,h,_=>by simp at h
 |c::cs,[],_,_,_,_,_,_,h=>by simp at h
 |c::cs,u::us,j,0,t,ks,u',h,h'=>by
  simp only[getElem?_cons_zero,Option.some.injEq] at h h'
  subst h h'
  simp[mY]
 |c::cs,u::us,j,n+1,t,ks,u',h,h'=>by
  have:=x0 (key:=key) (j:=j+1) (cs:=cs) (us:=us) (n:=n) (by simpa using h) (by simpa using h')
  rw[show j+1+n=j+(n+1) by omega] at this
  cases c with
  |ex t2 ks2 pin=>
   cases pin with
   |false=>exact this
   |true=>simp only[mY];exact mem_cons_of_mem _ this
  |_=>exact this
theorem mc{w:World}:∀{ss:List BSh}{vs:List Value}{i:Nat}{p:Nat×TypeId×List K×Value},p∈lh w i ss vs->1000000000<=p.1
 |[],_,_,_,h=>by simp[lh] at h
 |s::ss,[],_,_,h=>by cases s<;>simp[lh] at h
 |s::ss,v::vs,i,p,h=>by
  cases s with
  |box T cs=>
   simp only[lh,mem_append] at h
   rcases h with h|h
   · obtain⟨n,t,ks,e,_⟩:=rZ h
     unfold bk at e;omega
   · exact mc h
  |im s=>exact mc (ss:=ss) h
  |one c=>exact mc (ss:=ss) h
  |agg cs=>exact mc (ss:=ss) h
theorem l8:∀{ss:List BSh}{vs:List Value}{i:Nat}{p:Nat×Value},p∈lq i ss vs->1000000000<=p.1
 |[],_,_,_,h=>by simp[lq] at h
 |s::ss,[],_,_,h=>by cases s<;>simp[lq] at h
 |s::ss,v::vs,i,p,h=>by
  cases s with
  |box T cs=>
   simp only[lq,mem_cons] at h
   rcases h with rfl|h
   · unfold bk;omega
   · exact l8 h
  |im s=>exact l8 (ss:=ss) h
  |one c=>exact l8 (ss:=ss) h
  |agg cs=>exact l8 (ss:=ss) h
inductive AI (Φ:Fns) (env:List D) (w:World) (M0:Nat->Nat->Prop) (l:List Itm) (i:Itm):Prop where
 |arr (t:TypeId) (ks:List K) (xs:E) (h:i.ob= .arr t ks false xs) (ho:bU w M0 t ks false i.hd (xs.den Φ env).ae i.fp)
 |arx (t:TypeId) (ks:List K) (xs:E) (h:i.ob= .arx t ks xs) (ho:bU w M0 t ks true i.hd (xs.den Φ env).ae i.fp)
 |box (T:TypeId) (cs:List SC) (b:Nat) (us:List Value) (h:i.ob= .box T cs) (hh:i.hd= .pointer (some ⟨b,0,none⟩)) (hf:i.fp=[b]) (hw:w.heap[b]? =some (.cells (toArray us) T (0,0)))
   (hc:∀S:Sur,S.w=w->(∀b o,S.me b o->M0 b o)->(∀i,i∈l->S.obj i.key=some (i.ob.den Φ env)∧S.hd i.key=i.hd)->aE S (cs.map (SC.den Φ env)) us)
theorem AI.mono{Φ:Fns}{env:List D}{w:World}{M0:Nat->Nat->Prop}{l l':List Itm}{i:Itm}(h:AI Φ env w M0 l i)(hl:∀i,i∈l->i∈l'):AI Φ env w M0 l' i:=by
 cases h with
 |arr t ks xs h ho=>exact .arr t ks xs h ho
 |arx t ks xs h ho=>exact .arx t ks xs h ho
 |box T cs b us h hh hf hw hc=>exact .box T cs b us h hh hf hw fun S q1 q2 q3=>hc S q1 q2 fun i hi=>q3 i (hl i hi)
section
variable {Φ:Fns} {env:List D}
theorem kg{w:World}{M0:Nat->Nat->Prop}{key:Nat}{e:Nat->E}:∀{cs:List BC}{us:List Value}{dd:List D}{Fs:List (List Nat)}{j:Nat},ch w M0 (cs.map BC.rc) us dd Fs->(∀i,i<cs.length->dd.getD i default=(e (j+i)).den Φ env)->
 ((iD key e j cs us Fs).map fun i=>(i.key,i.ob))=lK key e j cs∧(iD key e j cs us Fs).flatMap Itm.fp=Fs.flatten∧(∀i,i∈iD key e j cs us Fs->AI Φ env w M0 [] i)∧
 ∀S:Sur,S.w=w->(∀b o,S.me b o->M0 b o)->(∀i,i∈iD key e j cs us Fs->S.obj i.key=some (i.ob.den Φ env)∧S.hd i.key=i.hd)->aE S ((mL key e j cs).map (SC.den Φ env)) us
 |[],us,dd,Fs,j,hr,hd=>by
  obtain⟨rfl,rfl⟩:=hr
  exact⟨rfl,rfl,fun i hi=>by simp[iD] at hi,fun S _ _ _=>rfl⟩
 |c::cs,us,dd,Fs,j,hr,hd=>by
  have hd0:dd.headD default=(e j).den Φ env:=by
   have:=hd 0 (by simp)
   simpa[List.headD_eq_head?_getD,getD_eq_getElem?_getD,List.head?_eq_getElem?] using this
  have hd1:∀i,i<cs.length->dd.tail.getD i default=(e (j+1+i)).den Φ env:=fun i hi=>by
   have:=hd (i+1) (by simpa using hi)
   rw[show j+(i+1)=j+1+i by omega] at this
   rw[<-this]
   simp[getD_eq_getElem?_getD,List.getElem?_tail]
  have im:∀k,(∃v vs',us=v::vs'∧bV w M0 k v (dd.headD default)∧ch w M0 (cs.map BC.rc) vs' dd.tail Fs)->
   ∀(c:BC),(∀(v:Value) vs',iD key e j (c::cs) (v::vs') Fs=iD key e (j+1) cs vs' Fs)->lK key e j (c::cs)=lK key e (j+1) cs->mL key e j (c::cs)= .dat k (e j)::mL key e (j+1) cs->
   ((iD key e j (c::cs) us Fs).map fun i=>(i.key,i.ob))=lK key e j (c::cs)∧(iD key e j (c::cs) us Fs).flatMap Itm.fp=Fs.flatten∧(∀i,i∈iD key e j (c::cs) us Fs->AI Φ env w M0 [] i)∧
   ∀S:Sur,S.w=w->(∀b o,S.me b o->M0 b o)->(∀i,i∈iD key e j (c::cs) us Fs->S.obj i.key=some (i.ob.den Φ env)∧S.hd i.key=i.hd)->aE S ((mL key e j (c::cs)).map (SC.den Φ env)) us:=by
   rintro k ⟨v,vs',rfl,hc,hr⟩ c e1 e2 e3
   obtain⟨i1,i2,i3,i4⟩:=kg (key:=key) (e:=e) hr hd1
   rw[e1,e2,e3]
   refine⟨i1,i2,i3,fun S hS hM hi=>⟨v,vs',rfl,hc.jU,?_,i4 S hS hM hi⟩⟩
   show bV S.w S.me k v _
   rw[hS,<-hd0]
   exact hc.mono hM
  cases c with
  |keep k=>exact im k hr (.keep k) (fun _ _=>rfl) rfl rfl
  |im k=>exact im k hr (.im k) (fun _ _=>rfl) rfl rfl
  |own t ks=>
   obtain⟨v,vs',F,Fs',rfl,rfl,ho,hr⟩:=hr
   obtain⟨i1,i2,i3,i4⟩:=kg (key:=key) (e:=e) hr hd1
   refine⟨by simp only[iD,lK,map_cons,i1],by simp only[iD,flatMap_cons,i2,flatten_cons],fun i hi=> ?_,fun S hS hM hi=>⟨v,vs',rfl,?_,?_,i4 S hS hM fun i hm=>hi i (mem_cons_of_mem _ hm)⟩⟩
   · rcases mem_cons.1 hi with rfl|hi
     · exact .arr t ks _ rfl (by rw[<-hd0];exact ho)
     · exact i3 i hi
   · obtain⟨_,_,hown,_⟩:=ho
     rcases be hown with ⟨e,_⟩|⟨b,c,e,_⟩<;>rw[e]<;>rfl
   · obtain⟨q1,q2⟩:=hi ⟨key+j,.arr t ks false (e j),v,F⟩ (by simp[iD])
     show aB S (key+j) none v
     unfold aB
     rw[q1]
     exact⟨trivial,q2.symm⟩
  |ex t ks pin=>
   obtain⟨v,vs',F,Fs',rfl,rfl,ho,hr⟩:=hr
   obtain⟨i1,i2,i3,i4⟩:=kg (key:=key) (e:=e) hr hd1
   refine⟨by simp only[iD,lK,map_cons,i1],by simp only[iD,flatMap_cons,i2,flatten_cons],fun i hi=> ?_,fun S hS hM hi=>⟨v,vs',rfl,?_,?_,i4 S hS hM fun i hm=>hi i (mem_cons_of_mem _ hm)⟩⟩
   · rcases mem_cons.1 hi with rfl|hi
     · exact .arx t ks _ rfl (by rw[<-hd0];exact ho)
     · exact i3 i hi
   · obtain⟨_,_,hown,_⟩:=ho
     rcases be hown with ⟨e,_⟩|⟨b,c,e,_⟩<;>rw[e]<;>rfl
   · obtain⟨q1,q2⟩:=hi ⟨key+j,.arx t ks (e j),v,F⟩ (by simp[iD])
     show aB S (key+j) none v
     unfold aB
     rw[q1]
     exact q2.symm
theorem BL{w:World}{M0:Nat->Nat->Prop}{key:Nat}{e:Nat->E}:∀{cs:List BC}{us:List Value}{dd:List D}{Fs:List (List Nat)}{j n:Nat}{t:TypeId}{ks:List K}{pin:Bool}{u:Value},ch w M0 (cs.map BC.rc) us dd Fs->
 cs[n]? =some (.ex t ks pin)->us[n]? =some u->∃F,(⟨key+(j+n),.arx t ks (e (j+n)),u,F⟩:Itm)∈iD key e j cs us Fs
 |[],_,_,_,_,_,_,_,_,_,_,h,_=>by simp at h
 |c::cs,us,dd,Fs,j,0,t,ks,pin,u,hr,h,hu=>by
  simp only[getElem?_cons_zero,Option.some.injEq] at h
  subst h
  obtain⟨v,vs',F,Fs',rfl,rfl,ho,hr⟩:=hr
  simp only[getElem?_cons_zero,Option.some.injEq] at hu
  subst hu
  exact⟨F,by simp[iD]⟩
 |c::cs,us,dd,Fs,j,n+1,t,ks,pin,u,hr,h,hu=>by
  have go:∀{vs':List Value}{dd':List D}{Fs':List (List Nat)},ch w M0 (cs.map BC.rc) vs' dd' Fs'->vs'[n]? =some u->∃F,(⟨key+(j+(n+1)),.arx t ks (e (j+(n+1))),u,F⟩:Itm)∈iD key e (j+1) cs vs' Fs':=fun hr hv=>by
   have:=BL (key:=key) (e:=e) (j:=j+1) (pin:=pin) hr (by simpa using h) hv
   rwa[show j+1+n=j+(n+1) by omega] at this
  cases c with
  |keep k=>obtain⟨v,vs',rfl,_,hr⟩:=hr;exact go hr (by simpa using hu)
  |im k=>obtain⟨v,vs',rfl,_,hr⟩:=hr;exact go hr (by simpa using hu)
  |own t2 ks2=>
   obtain⟨v,vs',F,Fs',rfl,rfl,_,hr⟩:=hr
   obtain⟨F,hF⟩:=go hr (by simpa using hu)
   exact⟨F,by simp only[iD];exact mem_cons_of_mem _ hF⟩
  |ex t2 ks2 p2=>
   obtain⟨v,vs',F,Fs',rfl,rfl,_,hr⟩:=hr
   obtain⟨F,hF⟩:=go hr (by simpa using hu)
   exact⟨F,by simp only[iD];exact mem_cons_of_mem _ hF⟩
theorem yg:∀(ss:List BSh)(i:Nat),(ed i ss).1.length=ss.length
 |[],_=>rfl
 |s::ss,i=>by simp[ed,yg ss]
theorem nV.len{w:World}{M:Nat->Nat->Prop}:∀{ss:List BSh}{vs:List Value}{ds:List D}{Fs:List (List Nat)},nV w M ss vs ds Fs->vs.length=ss.length∧ds.length=ss.length
 |[],_,_,_,⟨e1,e2,_⟩=>by rw[e1,e2];exact⟨rfl,rfl⟩
 | .im _::_,_,_,_,⟨v,vs',d,ds',e1,e2,_,h⟩=>by rw[e1,e2];simp[h.len.1,h.len.2]
 | .one _::_,_,_,_,⟨v,vs',d,ds',F,Fs',e1,e2,_,_,h⟩=>by rw[e1,e2];simp[h.len.1,h.len.2]
 | .agg _::_,_,_,_,⟨v,vs',d,ds',F,Fs',e1,e2,_,_,h⟩=>by rw[e1,e2];simp[h.len.1,h.len.2]
 | .box _ _::_,_,_,_,⟨b,us,vs',d,ds',F,Fs',e1,e2,_,_,_,h⟩=>by rw[e1,e2];simp[h.len.1,h.len.2]
theorem mb{w:World}{M0:Nat->Nat->Prop}:∀{ss:List BSh}{vs:List Value}{ds:List D}{Fs:List (List Nat)}{i:Nat},nV w M0 ss vs ds Fs->(∀j,env.getD (i+j) default=ds.getD j default)->
 ∃l:List Itm,(l.map fun i=>(i.key,i.ob))=(ed i ss).2∧l.flatMap Itm.fp=Fs.flatten∧(∀it,it∈l->AI Φ env w M0 l it)∧
  (∀S:Sur,S.w=w->(∀b o,S.me b o->M0 b o)->(∀i,i∈l->S.obj i.key=some (i.ob.den Φ env)∧S.hd i.key=i.hd)->∀t,bB S (((ed i ss).1.getD t .dead).den Φ env) (vs.getD t undef))∧
  (∀p,p∈lh w i ss vs->∃xs F,(⟨p.1,.arx p.2.1 p.2.2.1 xs,p.2.2.2,F⟩:Itm)∈l)∧(∀p,p∈lq i ss vs->∃T cs F b,(⟨p.1,.box T cs,p.2,F⟩:Itm)∈l∧p.2= .pointer (some ⟨b,0,none⟩))
 |[],vs,ds,Fs,i,h,he=>by
  obtain⟨rfl,rfl,rfl⟩:=h
  exact⟨[],rfl,rfl,fun i hi=>by simp at hi,fun S _ _ _ t=>by simp[ed,SV.den,bB],fun p hp=>by simp[lh] at hp,fun p hp=>by simp[lq] at hp⟩
 |s::ss,vs,ds,Fs,i,h,he=>by
  have he':∀{d:D}{ds':List D},ds=d::ds'->env.getD i default=d∧∀j,env.getD (i+1+j) default=ds'.getD j default:=fun e=>by
   subst e
   refine⟨by simpa using he 0,fun j=> ?_⟩
   have:=he (j+1)
   rw[show i+(j+1)=i+1+j by omega] at this
   simpa using this
  cases s with
  |im sh=>
   obtain⟨v,vs',d,ds',rfl,rfl,hv,h⟩:=h
   obtain⟨e0,e1⟩:=he' rfl
   obtain⟨l,i1,i2,i3,i4,i5,i6⟩:=mb (i:=i+1) h e1
   refine⟨l,by simpa[ed,wU] using i1,i2,i3,fun S hS hM hi t=> ?_,fun p hp=>i5 p hp,fun p hp=>i6 p hp⟩
   cases t with
   |succ t=>simpa[ed] using i4 S hS hM hi t
   |zero=>
    simp only[ed,wU,getD_cons_zero]
    cases sh with
    |one k=>
     have hv:bV w M0 k v d:=hv
     refine⟨?_,hv.jU⟩
     show bV S.w S.me k v (env.getD i default)
     rw[hS,e0]
     exact hv.mono hM
    |agg ks=>
     obtain⟨us,rfl,hv⟩:=hv
     refine⟨us,rfl,?_⟩
     rw[kb]
     refine kP ?_
     rw[hS,E.den,e0]
     exact hv.mono hM
    |pim ks=>
     obtain⟨b,o,us,rfl,h1,h2,hv⟩:=hv
     refine⟨b,o,us,rfl,by rw[hS];exact h1,fun j hj hm=>h2 j hj (hM _ _ hm),?_⟩
     rw[hS,E.den,e0]
     exact hv.mono hM
  |one c=>
   obtain⟨v,vs',d,ds',F,Fs',rfl,rfl,rfl,hc,h⟩:=h
   obtain⟨e0,e1⟩:=he' rfl
   obtain⟨l,i1,i2,i3,i4,i5,i6⟩:=mb (i:=i+1) h e1
   obtain⟨c1,c2,c3,c4⟩:=kg (Φ:=Φ) (env:=env) (key:=bk i+1) (e:=fun _=>.var i) (j:=0) (cs:=[c]) hc (fun q hq=>by
    simp only[List.length_singleton] at hq
    have:q=0:=by omega
    subst this
    simp[E.den,<-e0])
   refine⟨iD (bk i+1) (fun _=>.var i) 0 [c] [v] F++l,by simp only[map_append,c1,i1,ed,wU],by simp only[flatMap_append,c2,i2,List.flatten_append],fun it hit=> ?_,fun S hS hM hi t=> ?_,fun p hp=> ?_,fun p hp=> ?_⟩
   · rcases mem_append.1 hit with hit|hit
     · exact(c3 it hit).mono fun _ h=>by simp at h
     · exact(i3 it hit).mono fun _ h=>mem_append.2 (.inr h)
   · cases t with
     |succ t=>simpa[ed] using i4 S hS hM (fun it h=>hi it (mem_append.2 (.inr h))) t
     |zero=>
      simp only[ed,wU,getD_cons_zero]
      have h4:=c4 S hS hM (fun it h=>hi it (mem_append.2 (.inl h)))
      cases c<;>
      · obtain⟨v',vs2,e2,o2,r2,_⟩:=h4
        simp only[List.cons.injEq] at e2
        obtain⟨rfl,rfl⟩:=e2
        exact⟨r2,o2⟩
   · obtain⟨xs,F,hm⟩:=i5 p hp
     exact⟨xs,F,mem_append.2 (.inr hm)⟩
   · obtain⟨T,cs,F,b,hm,hb⟩:=i6 p hp
     exact⟨T,cs,F,b,mem_append.2 (.inr hm),hb⟩
  |agg cs=>
   obtain⟨us,vs',d,ds',F,Fs',rfl,rfl,rfl,hc,h⟩:=h
   obtain⟨e0,e1⟩:=he' rfl
   obtain⟨l,i1,i2,i3,i4,i5,i6⟩:=mb (i:=i+1) h e1
   obtain⟨c1,c2,c3,c4⟩:=kg (Φ:=Φ) (env:=env) (key:=bk i+1) (e:=vF i) (j:=0) hc (fun q hq=>by rw[zero_add];show d.row.getD q default=(env.getD i default).row.getD q default;rw[e0])
   refine⟨iD (bk i+1) (vF i) 0 cs us F++l,by simp only[map_append,c1,i1,ed,wU],by simp only[flatMap_append,c2,i2,List.flatten_append],fun it hit=> ?_,fun S hS hM hi t=> ?_,fun p hp=> ?_,fun p hp=> ?_⟩
   · rcases mem_append.1 hit with hit|hit
     · exact(c3 it hit).mono fun _ h=>by simp at h
     · exact(i3 it hit).mono fun _ h=>mem_append.2 (.inr h)
   · cases t with
     |succ t=>simpa[ed] using i4 S hS hM (fun it h=>hi it (mem_append.2 (.inr h))) t
     |zero=>
      simp only[ed,wU,getD_cons_zero]
      exact⟨us,rfl,c4 S hS hM fun it h=>hi it (mem_append.2 (.inl h))⟩
   · obtain⟨xs,F,hm⟩:=i5 p hp
     exact⟨xs,F,mem_append.2 (.inr hm)⟩
   · obtain⟨T,cs,F,b,hm,hb⟩:=i6 p hp
     exact⟨T,cs,F,b,mem_append.2 (.inr hm),hb⟩
  |box T cs=>
   obtain⟨b,us,vs',d,ds',F,Fs',rfl,rfl,rfl,hw,hc,h⟩:=h
   obtain⟨e0,e1⟩:=he' rfl
   obtain⟨l,i1,i2,i3,i4,i5,i6⟩:=mb (i:=i+1) h e1
   obtain⟨c1,c2,c3,c4⟩:=kg (Φ:=Φ) (env:=env) (key:=bk i+1) (e:=vF i) (j:=0) hc (fun q hq=>by rw[zero_add];show d.row.getD q default=(env.getD i default).row.getD q default;rw[e0])
   let bx:Itm:=⟨bk i,.box T (mL (bk i+1) (vF i) 0 cs),.pointer (some ⟨b,0,none⟩),[b]⟩
   refine⟨bx::(iD (bk i+1) (vF i) 0 cs us F++l),by simp only[bx,map_cons,map_append,c1,i1,ed,wU,cons_append],
    by simp only[bx,flatMap_cons,flatMap_append,c2,i2,flatten_cons,List.flatten_append],fun it hit=> ?_,fun S hS hM hi t=> ?_,fun p hp=> ?_,fun p hp=> ?_⟩
   · rcases mem_cons.1 hit with rfl|hit
     · exact .box T _ b us rfl rfl rfl hw fun S hS hM hi=>c4 S hS hM fun it h=>hi it (mem_cons_of_mem _ (mem_append.2 (.inl h)))
     · rcases mem_append.1 hit with hit|hit
       · exact(c3 it hit).mono fun _ h=>by simp at h
       · exact(i3 it hit).mono fun _ h=>mem_cons_of_mem _ (mem_append.2 (.inr h))
   · cases t with
     |succ t=>simpa[ed] using i4 S hS hM (fun it h=>hi it (mem_cons_of_mem _ (mem_append.2 (.inr h)))) t
     |zero=>
      simp only[ed,wU,getD_cons_zero]
      obtain⟨q1,q2⟩:=hi bx (mem_cons_self ..)
      show aV S (bk i) _ 0 _
      unfold aV
      rw[q1]
      exact⟨b,q2,rfl⟩
   · simp only[lh,mem_append] at hp
     rcases hp with hp|hp
     · obtain⟨n,t,ks,h1,h2,h3,h4,h5⟩:=rZ hp
       have hcl:qQ w (.pointer (some ⟨b,0,none⟩))=us:=by simp only[qQ,hw]
       rw[hcl] at h5
       obtain⟨F',hF'⟩:=BL (key:=bk i+1) (e:=vF i) (j:=0) hc h2 h5
       refine⟨vF i (0+n),F',mem_cons_of_mem _ (mem_append.2 (.inl ?_))⟩
       rw[h1,h3,h4]
       exact hF'
     · obtain⟨xs,F,hm⟩:=i5 p hp
       exact⟨xs,F,mem_cons_of_mem _ (mem_append.2 (.inr hm))⟩
   · simp only[lq,mem_cons] at hp
     rcases hp with rfl|hp
     · exact⟨T,_,[b],b,mem_cons_self ..,rfl⟩
     · obtain⟨T,cs,F,b,hm,hb⟩:=i6 p hp
       exact⟨T,cs,F,b,mem_cons_of_mem _ (mem_append.2 (.inr hm)),hb⟩
theorem vN(x:Nat):∀l:List Itm,cI x (l.map fun i=>(i.key,i.ob))=(fM x l).map Itm.ob
 |[]=>rfl
 |i::l=>by
  simp only[map_cons,cI,fM]
  by_cases h:x=i.key
  · rw[if_pos h]
    have:(x==i.key)=true:=by simpa using h
    rw[this];rfl
  · rw[if_neg h]
    have:(x==i.key)=false:=by simpa using h
    rw[this,cond_false,vN x l]
theorem DC{C:Cx}{args:List BSh}{vs:List Value}{ds:List D}{Fs:List (List Nat)}(h:nV C.w0 (fun b o=>C.M b o∨b∈Fs.flatten) args vs ds Fs)(hl:args.length<=C.n)(hX:C.X=Fs.flatten)(hnd:Fs.flatten.Nodup)
 (hlt:∀b,b∈Fs.flatten->b<C.w0.heap.size) (hk:iA ((ed 0 args).2.map (·.1))=true) (hpin:C.pin=lh C.w0 0 args vs) (hpinB:C.yO=lq 0 args vs):
 ∃g,Rel C g ((ip args C.n).den Φ ds) { tmps:=vs.toArray++Array.replicate (C.n - vs.toArray.size) undef,defers:=[] } C.w0:=by
 obtain⟨h3,h2⟩:=h.len
 obtain⟨l,i1,i2,i3,i4,i5,i6⟩:=mb (Φ:=Φ) (env:=ds) (i:=0) h fun j=>by rw[zero_add]
 have hkn:(l.map Itm.key).Nodup:=by
  have:l.map Itm.key=(ed 0 args).2.map (·.1):=by rw[<-i1];simp[Function.comp_def]
  rw[this];exact gU hk
 have hobj:∀x,((ip args C.n).den Φ ds).obj x=(fM x l).map fun i=>i.ob.den Φ ds:=fun x=>by
  rw[SSt.eL]
  show(cI x (ed 0 args).2).map _=_
  rw[<-i1,vN]
  cases fM x l<;>rfl
 let g:Gh:=G0.eX l
 have hhd:∀i,i∈l->g.hd i.key=i.hd:=fun i hi=>by simp only[g,Gh.eX,gD hkn hi]
 have hfp:∀i,i∈l->g.fp i.key=i.fp:=fun i hi=>by simp only[g,Gh.eX,gD hkn hi]
 have hob:∀i,i∈l->((ip args C.n).den Φ ds).obj i.key=some (i.ob.den Φ ds):=fun i hi=>by rw[hobj,gD hkn hi];rfl
 have hno:∀x,x ∉ l.map Itm.key->((ip args C.n).den Φ ds).obj x=none∧g.fp x=[]:=fun x hx=>by
  have:=fY.2 hx
  exact⟨by rw[hobj,this];rfl,by simp only[g,Gh.eX,this,G0]⟩
 have hmem:∀i,i∈l->∀b,b∈i.fp->b∈Fs.flatten:=fun i hi b hb=>by rw[<-i2];exact List.mem_flatMap.2 ⟨i,hi,hb⟩
 have hme:∀b o,Me C.M ((ip args C.n).den Φ ds).obj g.hd g.fp b o->C.M b o∨b∈Fs.flatten:=fun b o hm=>by
  rcases hm with hm|⟨x,hx,hb⟩|⟨x,hx,hb⟩
  · exact .inl hm
  · by_cases hxl:x∈l.map Itm.key
    · obtain⟨i,hi,rfl⟩:=mem_map.1 hxl
      rw[hhd i hi] at hb
      rw[hob i hi] at hx
      refine .inr (hmem i hi b ?_)
      cases i3 i hi with
      |arr t ks xs h ho=>
       obtain⟨_,_,h1,_,_,_,h5,_⟩:=ho
       rw[fe h1] at hb
       rw[h5,hb];simp
      |arx t ks xs h ho=>rw[h] at hx;simp[SOb.den,Ob.live] at hx
      |box T cs b' us h hh hf hw hc=>
       rw[hh] at hb
       simp only[bq,Option.some.injEq] at hb
       rw[hf,hb];simp
    · rw[(hno x hxl).1] at hx;simp[Ob.live] at hx
  · by_cases hxl:x∈l.map Itm.key
    · obtain⟨i,hi,rfl⟩:=mem_map.1 hxl
      rw[hfp i hi] at hb
      exact .inr (hmem i hi b hb)
    · rw[(hno x hxl).2] at hb;simp at hb
 have hplace:∀i,i∈l->(sur C g ((ip args C.n).den Φ ds) C.w0).obj i.key=some (i.ob.den Φ ds)∧(sur C g ((ip args C.n).den Φ ds) C.w0).hd i.key=i.hd:=fun i hi=>⟨hob i hi,hhd i hi⟩
 have hpw:=List.pairwise_flatten.1 (by rw[<-List.flatMap_def,i2];exact hnd:(l.map Itm.fp).flatten.Nodup)
 refine⟨g,rfl,by simp[h3];omega,by simp[SSt.den,ip,yg];omega,fun t=> ?_,fun x=> ?_,fun x=> ?_,fun x y hxy b hb hb'=> ?_,fun x b hb=> ?_,⟨rfl,rfl,rfl,le_refl _,fun _ _ _=>rfl⟩,⟨fun p hp=> ?_,fun p hp=> ?_⟩⟩
 · rw[SSt.fx]
   have ht:(ip args C.n).tmp t=(ed 0 args).1.getD t .dead:=by
    unfold SSt.tmp ip
    simp only[getD_eq_getElem?_getD,List.getElem?_append,List.getElem?_replicate]
    split
    · rfl
    · rename_i hn
      rw[List.getElem?_eq_none (l:=(ed 0 args).1) (by omega)]
      split<;>rfl
   have hv:(vs.toArray++Array.replicate (C.n - vs.toArray.size) undef).getD t undef=vs.getD t undef:=by
    simp only[Array.getD_eq_getD_getElem?,getD_eq_getElem?_getD,Array.getElem?_append,Array.getElem?_replicate,List.getElem?_toArray,List.size_toArray]
    split
    · rfl
    · rename_i hn
      rw[List.getElem?_eq_none (l:=vs) (by omega)]
      split<;>rfl
   rw[ht]
   show bB _ _ ((vs.toArray++Array.replicate (C.n - vs.toArray.size) undef).getD t undef)
   rw[hv]
   exact i4 _ rfl hme hplace t
 · by_cases hxl:x∈l.map Itm.key
   · obtain⟨i,hi,rfl⟩:=mem_map.1 hxl
     unfold bv
     simp only[sur,hob i hi,hhd i hi,hfp i hi]
     cases i3 i hi with
     |arr t ks xs h ho=>
      simp only[h,SOb.den]
      obtain⟨vss,fps,q1,q2,q3,q4,q5,q6⟩:=ho
      refine⟨vss,fps,q1,q2,q3,q4,q5,fun j row us f e1 e2 e3=> ?_⟩
      have:=q6 j row us f e1 e2 e3
      rw[if_neg (by simp)] at this⊢
      exact⟨this.1.mono hme,this.2⟩
     |arx t ks xs h ho=>
      simp only[h,SOb.den]
      obtain⟨vss,fps,q1,q2,q3,q4,q5,q6⟩:=ho
      exact⟨vss,fps,q1,q2,q3,q4,q5,fun j row us f e1 e2 e3=>by have:=q6 j row us f e1 e2 e3;rwa[if_pos rfl] at this⟩
     |box T cs b us h hh hf hw hc=>
      simp only[h,SOb.den]
      exact⟨b,us,hh,hf,hw,hc _ rfl hme hplace⟩
   · unfold bv
     simp only[sur,(hno x hxl).1]
     exact(hno x hxl).2
 · by_cases hxl:x∈l.map Itm.key
   · obtain⟨i,hi,rfl⟩:=mem_map.1 hxl
     rw[hfp i hi]
     exact hpw.1 _ (mem_map.2 ⟨i,hi,rfl⟩)
   · rw[(hno x hxl).2];exact List.nodup_nil
 · by_cases hxl:x∈l.map Itm.key
   · by_cases hyl:y∈l.map Itm.key
     · obtain⟨i,hi,rfl⟩:=mem_map.1 hxl
       obtain⟨j,hj,rfl⟩:=mem_map.1 hyl
       rw[hfp i hi] at hb
       rw[hfp j hj] at hb'
       obtain⟨p,hp,rfl⟩:=getElem_of_mem hi
       obtain⟨q,hq,rfl⟩:=getElem_of_mem hj
       have hpq:p≠q:=fun e=>hxy (by subst e;rfl)
       have hP:=List.pairwise_iff_getElem.1 hpw.2
       rcases Nat.lt_or_gt_of_ne hpq with h|h
       · exact hP p q (by simpa using hp) (by simpa using hq) h b (by simpa using hb) b (by simpa using hb') rfl
       · exact hP q p (by simpa using hq) (by simpa using hp) h b (by simpa using hb') b (by simpa using hb) rfl
     · rw[(hno y hyl).2] at hb';simp at hb'
   · rw[(hno x hxl).2] at hb;simp at hb
 · by_cases hxl:x∈l.map Itm.key
   · obtain⟨i,hi,rfl⟩:=mem_map.1 hxl
     rw[hfp i hi] at hb
     have:=hmem i hi b hb
     exact⟨.inr (by rw[hX];exact this),hlt b this⟩
   · rw[(hno x hxl).2] at hb;simp at hb
 · rw[hpin] at hp
   obtain⟨xs,F,hm⟩:=i5 p hp
   obtain⟨q1,q2⟩:=hplace _ hm
   refine⟨_,q1,fun e ks ys he=> ?_⟩
   simp only[SOb.den,Ob.arx.injEq] at he
   obtain⟨rfl,rfl,_⟩:=he
   exact⟨rfl,rfl,q2,fun i j u hu=>hu⟩
 · rw[hpinB] at hp
   obtain⟨T,cs,F,b,hm,hb⟩:=i6 p hp
   obtain⟨q1,q2⟩:=hplace _ hm
   unfold aV
   simp only at q1 q2
   rw[q1,q2]
   exact⟨b,hb,hb⟩
end
def oZ(s:SSt):RC->SC->Option (E×List (Nat×Bool))
 | .im k,c=>match lY s c,jP s k c with
   |[],some (e,_)=>some (e,[])
   |_,_=>none
 | .own t ks _,.nil t' ks'=>bif t'==t&&K.ct ks' ks then some (.nl,[]) else none
 | .own t ks dp,.ref z none=>match s.obj z with
   |some (.arr t' ks' dp' xs)=>bif (t'==t&&K.ct ks' ks)&&(dp'||(!dp||eO ks)) then some (.op .asl [xs],[(z,dp&&dp')]) else none
   |some (.arx t' ks' xs)=>bif t'==t&&K.ct ks' ks then some (.op .asl [xs],[(z,dp)]) else none
   |_=>none
 |_,_=>none
def pK(s:SSt):List RC->List SC->Option (List E×List (Nat×Bool))
 |[],[]=>some ([],[])
 |r::rs,c::cs=>match oZ s r c,pK s rs cs with
  |some (e,k),some (es,ks)=>some (e::es,k++ks)
  |_,_=>none
 |_,_=>none
def s6(s:SSt)(key:Nat)(j:Nat):BC->SC->Option (E×List (Nat×Bool))
 | .im k,c=>oZ s (.im k) c
 | .own t ks,c=>oZ s (.own t ks false) c
 | .ex t ks false,.nil t' ks'=>bif t'==t&&K.ct ks' ks then some (.nl,[]) else none
 | .ex t ks pin,.ref z none=>match s.obj z with
   |some (.arx t' ks' xs)=>bif (t'==t&&K.ct ks' ks)&&(!pin||z==key+j) then some (.op .asl [xs],[(z,true)]) else none
   |_=>none
 |_,_=>none
def pv(s:SSt)(key:Nat):Nat->List BC->List SC->Option (List E×List (Nat×Bool))
 |_,[],[]=>some ([],[])
 |j,r::rs,c::cs=>match s6 s key j r c,pv s key (j+1) rs cs with
  |some (e,k),some (es,ks)=>some (e::es,k++ks)
  |_,_=>none
 |_,_,_=>none
def tv(s:SSt):Nat->List BSh->Option (List E×List (Nat×Bool))
 |_,[]=>some ([],[])
 |i,.box T cs::ss=>match s.obj (bk i) with
  |some (.box T' ds)=>bif T'==T then match pv s (bk i+1) 0 cs ds,tv s (i+1) ss with
    |some (es,k),some (es',k')=>some (es++es',(bk i,true)::(k++k'))
    |_,_=>none
   else none
  |_=>none
 |i,.im _::ss=>tv s (i+1) ss
 |i,.one _::ss=>tv s (i+1) ss
 |i,.agg _::ss=>tv s (i+1) ss
def KG(T:TypeId->TI)(rv:List ResultVar)(ax:List RSh)(args:List BSh)(s:SSt):Option (List E):=
 match w7 T s rv with
 |some vs=>match kq ax vs with
  |some cs=>match pK s (ax.flatMap RSh.cells) cs,tv s 0 args with
   |some (es,k),some (es',k')=>bif iA ((k++k').map (·.1)) then some (es++es') else none
   |_,_=>none
  |none=>none
 |none=>none
section
variable {Φ:Fns} {env:List D} {C:Cx} {g:Gh} {s:SSt} {a:Act} {w:World}
def InX(C:Cx)(g:Gh)(σ:St)(kx:List (Nat×Bool))(b:Nat):Prop:=∃q,q∈kx∧b∈xB g q∧∀o,Me C.M σ.obj g.hd g.fp b o
theorem InX.mono{σ:St}{kx kx':List (Nat×Bool)}{b:Nat}(h:InX C g σ kx b)(hk:∀q,q∈kx->q∈kx'):InX C g σ kx' b:=by
 obtain⟨q,h1,h2⟩:=h
 exact⟨q,hk q h1,h2⟩
theorem ES(R:Rel C g (s.den Φ env) a w){z:Nat}(hz:(∃t ks dp xs,s.obj z=some (.arr t ks dp xs))∨∃t ks xs,s.obj z=some (.arx t ks xs)){b:Nat}(hb:b∈(g.hd z).ownBlock.toList):b∈g.fp z∧∀o,Me C.M (s.den Φ env).obj g.hd g.fp b o:=by
 have ho:=R.objs z
 unfold bv at ho
 rcases hz with ⟨t,ks,dp,xs,hz⟩|⟨t,ks,xs,hz⟩
 · have hz':=aT (Φ:=Φ) (env:=env) hz
   simp only[sur,hz',SOb.den] at ho
   obtain⟨vss,fps,h1,_,_,_,h5,_⟩:=ho
   refine⟨by rw[h5];exact mem_append.2 (.inl hb),fun o=>.inr (.inl ⟨z,by rw[hz'];rfl,by rw[fe h1];simpa using hb⟩)⟩
 · have hz':=aT (Φ:=Φ) (env:=env) hz
   simp only[sur,hz',SOb.den] at ho
   obtain⟨vss,fps,h1,_,_,_,h5,_⟩:=ho
   have:b∈g.fp z:=by rw[h5];exact mem_append.2 (.inl hb)
   exact⟨this,fun o=>.inr (.inr ⟨z,by rw[hz'];rfl,this⟩)⟩
theorem rW(R:Rel C g (s.den Φ env) a w){M0:Nat->Nat->Prop}{r:RC}{c:SC}{v:Value}{e:E}{kx:List (Nat×Bool)}(hc:iN (sur C g (s.den Φ env) w) (c.den Φ env) v)(h:oZ s r c=some (e,kx))(hH:Hand C g (s.den Φ env) M0 kx):
 (∀q,q∈kx->∀b,b∈xB g q->b∈g.fp q.1)∧(∀b,b∈r.head v->InX C g (s.den Φ env) kx b)∧
 match r with
 | .im k=>bV w M0 k v (e.den Φ env)∧kx=[]
 | .own t ks dp=>bU w M0 t ks dp v (e.den Φ env).ae (kx.flatMap (xB g)):=by
 cases r with
 |im k=>
  simp only[oZ] at h
  split at h
  · rename_i e' l hl hs
    simp only[Option.some.injEq,Prod.mk.injEq] at h
    obtain⟨rfl,rfl⟩:=h
    exact⟨fun q hq=>by simp at hq,fun b hb=>by simp[RC.head] at hb,mq R hH.le (fun z hz=>by rw[hl] at hz;simp at hz) hc hs,rfl⟩
  · cases h
 |own t0 ks dp=>
  cases c with
  |nil t' ks'=>
   obtain⟨_,h4⟩:=ak (show(bif t'==t0&&K.ct ks' ks then some ((.nl,[]):E×List (Nat×Bool)) else none)=some (e,kx) from h)
   simp only[Option.some.injEq,Prod.mk.injEq] at h4
   obtain⟨rfl,rfl⟩:=h4
   have hv:v= .slice none 0 0:=hc
   subst hv
   exact⟨fun q hq=>by simp at hq,fun b hb=>by simp[RC.head,Value.ownBlock] at hb,ud _ _ _ _ _⟩
  |ref z p=>
   cases p with
   |some p=>simp[oZ] at h
   |none=>
    simp only[oZ] at h
    have hr':aB (sur C g (s.den Φ env) w) z none v:=hc
    split at h
    · rename_i t' ks' dp' ys hz
      obtain⟨h3,h4⟩:=ak h
      simp only[and_eq_true,beq_iff_eq] at h3
      obtain⟨⟨rfl,h5⟩,h7⟩:=h3
      have h6:=K.bp h5
      subst h6
      simp only[Option.some.injEq,Prod.mk.injEq] at h4
      obtain⟨rfl,rfl⟩:=h4
      have hz':=aT (Φ:=Φ) (env:=env) hz
      unfold aB at hr'
      simp only[sur,hz',SOb.den] at hr'
      have hv:v=g.hd z:=hr'.2
      subst hv
      have hhead:∀b,b∈(g.hd z).ownBlock.toList->b∈g.fp z∧∀o,Me C.M (s.den Φ env).obj g.hd g.fp b o:=fun b hb=>ES R (.inl ⟨_,_,_,_,hz⟩) hb
      have hin:∀b,b∈(g.hd z).ownBlock.toList->b∈xB g (z,dp&&dp'):=fun b hb=>by
       unfold xB;split
       · exact(hhead b hb).1
       · exact hb
      have hob:=R.objs z
      unfold bv at hob
      simp only[sur,hz',SOb.den] at hob
      obtain⟨vss,fps,q1,q2,q3,q4,q5,q6⟩:=hob
      refine⟨fun q hq b hb=> ?_,fun b hb=>⟨_,mem_singleton.2 rfl,hin b (by simpa[RC.head] using hb),(hhead b (by simpa[RC.head] using hb)).2⟩,?_⟩
      · simp only[mem_singleton] at hq
        subst hq
        unfold xB at hb
        split at hb
        · exact hb
        · exact(hhead b hb).1
      · simp only[flatMap_cons,List.flatMap_nil,append_nil]
        have hden:((E.op .asl [ys]).den Φ env).ae=(ys.den Φ env).ae:=by simp[E.den,E.bC,opD]
        rw[hden]
        cases dp with
        |false=>
         have:=EL R hH.le hz
         simpa[xB] using this
        |true=>
         cases dp' with
         |true=>
          simp only[Bool.and_self,xB,if_true]
          exact⟨vss,fps,q1,q2,q3,q4,q5,fun i row us f e1 e2 e3=>by have:=q6 i row us f e1 e2 e3;rwa[if_pos rfl] at this⟩
         |false=>
          have hp:eO ks'=true:=by simpa using h7
          simp only[Bool.and_false,xB,Bool.false_eq_true,if_false]
          refine⟨vss,List.replicate (ys.den Φ env).ae.length [],q1,q2,q3,by simp,by simp,fun i row us f e1 e2 e3=> ?_⟩
          have hlt:=(List.getElem?_eq_some_iff.1 e1).1
          have e4:fps[i]? =some (fps[i]'(by omega)):=getElem?_eq_getElem (by omega)
          have:=q6 i row us _ e1 e2 e4
          rw[if_neg (by simp)] at this
          rw[if_pos rfl,(List.mem_replicate.1 (List.mem_of_getElem? e3)).2]
          exact this.1.plain hp
    · rename_i t' ks' ys hz
      obtain⟨h3,h4⟩:=ak h
      simp only[and_eq_true,beq_iff_eq] at h3
      obtain⟨rfl,h5⟩:=h3
      have h6:=K.bp h5
      subst h6
      simp only[Option.some.injEq,Prod.mk.injEq] at h4
      obtain⟨rfl,rfl⟩:=h4
      have hz':=aT (Φ:=Φ) (env:=env) hz
      unfold aB at hr'
      simp only[sur,hz',SOb.den] at hr'
      have hv:v=g.hd z:=hr'
      subst hv
      have hhead:∀b,b∈(g.hd z).ownBlock.toList->b∈g.fp z∧∀o,Me C.M (s.den Φ env).obj g.hd g.fp b o:=fun b hb=>ES R (.inr ⟨_,_,_,hz⟩) hb
      have hin:∀b,b∈(g.hd z).ownBlock.toList->b∈xB g (z,dp):=fun b hb=>by
       unfold xB;split
       · exact(hhead b hb).1
       · exact hb
      refine⟨fun q hq b hb=> ?_,fun b hb=>⟨_,mem_singleton.2 rfl,hin b (by simpa[RC.head] using hb),(hhead b (by simpa[RC.head] using hb)).2⟩,?_⟩
      · simp only[mem_singleton] at hq
        subst hq
        unfold xB at hb
        split at hb
        · exact hb
        · exact(hhead b hb).1
      · simp only[flatMap_cons,List.flatMap_nil,append_nil]
        have hden:((E.op .asl [ys]).den Φ env).ae=(ys.den Φ env).ae:=by simp[E.den,E.bC,opD]
        rw[hden]
        cases dp with
        |false=>
         have:=EQ R (M0:=M0) hz (fun b hb o hm=>by have:=hH.off (z,false) (by simp) b hb o hm;simpa[xB] using this)
         simpa[xB] using this
        |true=>
         have:=Dz R (M0:=M0) hz
         simpa[xB] using this
    · cases h
  |_=>simp[oZ] at h
theorem wh(R:Rel C g (s.den Φ env) a w){M0:Nat->Nat->Prop}:∀{rs:List RC}{cs:List SC}{vs:List Value}{es:List E}{kx:List (Nat×Bool)},aE (sur C g (s.den Φ env) w) (cs.map (SC.den Φ env)) vs->pK s rs cs=some (es,kx)->Hand C g (s.den Φ env) M0 kx->
 (∃Fs,ch w M0 rs vs (es.map (E.den Φ env)) Fs∧Fs.flatten=kx.flatMap (xB g))∧es.length=rs.length∧(∀q,q∈kx->∀b,b∈xB g q->b∈g.fp q.1)∧∀b,b∈bD rs vs->InX C g (s.den Φ env) kx b
 |[],[],vs,es,kx,hv,h,_=>by
  simp only[pK,Option.some.injEq,Prod.mk.injEq] at h
  obtain⟨rfl,rfl⟩:=h
  have hv:vs=[]:=hv
  subst hv
  exact⟨⟨[],⟨rfl,rfl⟩,rfl⟩,rfl,fun q hq=>by simp at hq,fun b hb=>by simp[bD] at hb⟩
 |[],_::_,_,_,_,_,h,_=>by simp[pK] at h
 |_::_,[],_,_,_,_,h,_=>by simp[pK] at h
 |r::rs,c::cs,vs,es,kx,hv,h,hH=>by
  obtain⟨v,vs',rfl,_,hc,hr⟩:=hv
  simp only[pK] at h
  split at h
  · rename_i e k1 es1 k2 h1 h2
    simp only[Option.some.injEq,Prod.mk.injEq] at h
    obtain⟨rfl,rfl⟩:=h
    obtain⟨⟨Fs,i1,i2⟩,i3,i4,i5⟩:=wh R (M0:=M0) hr h2 ⟨hH.le,fun q hq=>hH.off q (mem_append.2 (.inr hq))⟩
    obtain⟨j1,j2,j3⟩:=rW R hc h1 ⟨hH.le,fun q hq=>hH.off q (mem_append.2 (.inl hq))⟩
    refine⟨?_,by simp[i3],fun q hq=> ?_,fun b hb=> ?_⟩
    · cases r with
      |im k=>
       obtain⟨j3,rfl⟩:=j3
       exact⟨Fs,⟨v,vs',rfl,j3,i1⟩,by simpa using i2⟩
      |own t ks dp=>exact⟨k1.flatMap (xB g)::Fs,⟨v,vs',_,Fs,rfl,rfl,j3,i1⟩,by simp[i2]⟩
    · rcases mem_append.1 hq with hq|hq
      · exact j1 q hq
      · exact i4 q hq
    · simp only[bD,mem_append] at hb
      rcases hb with hb|hb
      · exact(j2 b hb).mono fun q hq=>mem_append.2 (.inl hq)
      · exact(i5 b hb).mono fun q hq=>mem_append.2 (.inr hq)
  · cases h
theorem vI(R:Rel C g (s.den Φ env) a w){M0:Nat->Nat->Prop}{key:Nat}:∀{rs:List BC}{cs:List SC}{vs:List Value}{es:List E}{kx:List (Nat×Bool)}{j:Nat},aE (sur C g (s.den Φ env) w) (cs.map (SC.den Φ env)) vs->pv s key j rs cs=some (es,kx)->Hand C g (s.den Φ env) M0 kx->
 (∃Fs,ch w M0 (rs.map BC.rc) vs (es.map (E.den Φ env)) Fs∧Fs.flatten=kx.flatMap (xB g)∧∀b,b∈cHD rs vs Fs->InX C g (s.den Φ env) kx b)∧es.length=rs.length∧(∀q,q∈kx->∀b,b∈xB g q->b∈g.fp q.1)∧
 (∀n t ks,rs[n]? =some (.ex t ks true)->∃xs,s.obj (key+(j+n))=some (.arx t ks xs)∧vs[n]? =some (g.hd (key+(j+n))))∧∀k,BC.keep k ∉ rs
 |[],[],vs,es,kx,j,hv,h,_=>by
  simp only[pv,Option.some.injEq,Prod.mk.injEq] at h
  obtain⟨rfl,rfl⟩:=h
  have hv:vs=[]:=hv
  subst hv
  exact⟨⟨[],⟨rfl,rfl⟩,rfl,fun b hb=>by simp[cHD] at hb⟩,rfl,fun q hq=>by simp at hq,fun n t ks h=>by simp at h,fun k h=>by simp at h⟩
 |[],_::_,_,_,_,_,_,h,_=>by simp[pv] at h
 |_::_,[],_,_,_,_,_,h,_=>by simp[pv] at h
 |r::rs,c::cs,vs,es,kx,j,hv,h,hH=>by
  obtain⟨v,vs',rfl,_,hc,hr⟩:=hv
  simp only[pv] at h
  split at h
  · rename_i e k1 es1 k2 h1 h2
    simp only[Option.some.injEq,Prod.mk.injEq] at h
    obtain⟨rfl,rfl⟩:=h
    obtain⟨⟨Fs,i1,i2,i2'⟩,i3,i4,i5,i6⟩:=vI R (M0:=M0) hr h2 ⟨hH.le,fun q hq=>hH.off q (mem_append.2 (.inr hq))⟩
    have hH1:Hand C g (s.den Φ env) M0 k1:=⟨hH.le,fun q hq=>hH.off q (mem_append.2 (.inl hq))⟩
    have tail5:∀n t ks,rs[n]? =some (.ex t ks true)->∃xs,s.obj (key+(j+(n+1)))=some (.arx t ks xs)∧vs'[n]? =some (g.hd (key+(j+(n+1)))):=fun n t ks hn=>by
     have:=i5 n t ks hn
     rwa[show j+1+n=j+(n+1) by omega] at this
    have i4':(∀q,q∈k1->∀b,b∈xB g q->b∈g.fp q.1)->∀q,q∈k1++k2->∀b,b∈xB g q->b∈g.fp q.1:=fun j1 q hq=>by
     rcases mem_append.1 hq with hq|hq
     · exact j1 q hq
     · exact i4 q hq
    have i2'':∀b,b∈cHD rs vs' Fs->InX C g (s.den Φ env) (k1++k2) b:=fun b hb=>(i2' b hb).mono fun q hq=>mem_append.2 (.inr hq)
    cases r with
    |keep k=>simp[s6] at h1
    |im k=>
     obtain⟨j1,j2,j3,rfl⟩:=rW R hc (show oZ s (.im k) c=some (e,k1) from by simpa[s6] using h1) hH1
     refine⟨⟨Fs,⟨v,vs',rfl,j3,i1⟩,by simpa using i2,i2''⟩,by simp[i3],i4' j1,fun n t ks hn=> ?_,fun k' hk=> ?_⟩
     · cases n with
       |zero=>simp at hn
       |succ n=>exact tail5 n t ks (by simpa using hn)
     · rcases mem_cons.1 hk with hk|hk
       · cases hk
       · exact i6 k' hk
    |own t0 ks0=>
     obtain⟨j1,j2,j3⟩:=rW R hc (show oZ s (.own t0 ks0 false) c=some (e,k1) from by simpa[s6] using h1) hH1
     refine⟨⟨k1.flatMap (xB g)::Fs,⟨v,vs',_,Fs,rfl,rfl,j3,i1⟩,by simp[i2],fun b hb=> ?_⟩,by simp[i3],i4' j1,fun n t ks hn=> ?_,fun k' hk=> ?_⟩
     · simp only[cHD,mem_append] at hb
       rcases hb with hb|hb
       · exact(j2 b hb).mono fun q hq=>mem_append.2 (.inl hq)
       · exact i2'' b hb
     · cases n with
       |zero=>simp at hn
       |succ n=>exact tail5 n t ks (by simpa using hn)
     · rcases mem_cons.1 hk with hk|hk
       · cases hk
       · exact i6 k' hk
    |ex t0 ks0 pin=>
     have main:(∃F,bU w M0 t0 ks0 true v (e.den Φ env).ae F∧F=k1.flatMap (xB g))∧(∀q,q∈k1->∀b,b∈xB g q->b∈g.fp q.1)∧(∀b,b∈k1.flatMap (xB g)->InX C g (s.den Φ env) k1 b)∧
      (pin=true->∃xs,s.obj (key+j)=some (.arx t0 ks0 xs)∧v=g.hd (key+j)):=by
      have ref:∀{z:Nat},c= .ref z none->(match s.obj z with
       |some (.arx t' ks' xs)=>bif (t'==t0&&K.ct ks' ks0)&&(!pin||z==key+j) then some (E.op .asl [xs],[(z,true)]) else none
       |_=>none)=some (e,k1)->(∃F,bU w M0 t0 ks0 true v (e.den Φ env).ae F∧F=k1.flatMap (xB g))∧(∀q,q∈k1->∀b,b∈xB g q->b∈g.fp q.1)∧(∀b,b∈k1.flatMap (xB g)->InX C g (s.den Φ env) k1 b)∧
       (pin=true->∃xs,s.obj (key+j)=some (.arx t0 ks0 xs)∧v=g.hd (key+j)):=fun{z} ec hm1=>by
       subst ec
       have hr':aB (sur C g (s.den Φ env) w) z none v:=hc
       split at hm1
       · rename_i t' ks' ys hz
         obtain⟨h3,h4⟩:=ak hm1
         simp only[and_eq_true,beq_iff_eq] at h3
         obtain⟨⟨rfl,h5⟩,h7⟩:=h3
         have h6:=K.bp h5
         subst h6
         simp only[Option.some.injEq,Prod.mk.injEq] at h4
         obtain⟨rfl,rfl⟩:=h4
         have hz':=aT (Φ:=Φ) (env:=env) hz
         unfold aB at hr'
         simp only[sur,hz',SOb.den] at hr'
         have hv:v=g.hd z:=hr'
         subst hv
         have hden:((E.op .asl [ys]).den Φ env).ae=(ys.den Φ env).ae:=by simp[E.den,E.bC,opD]
         refine⟨⟨g.fp z,by rw[hden];exact Dz R (M0:=M0) hz,by simp[xB]⟩,fun q hq b hb=> ?_,fun b hb=> ?_,fun hp=> ?_⟩
         · simp only[mem_singleton] at hq
           subst hq
           simpa[xB] using hb
         · have hb':b∈g.fp z:=by simpa[xB] using hb
           exact⟨(z,true),by simp,by simpa[xB] using hb',fun o=>.inr (.inr ⟨z,by rw[hz'];rfl,hb'⟩)⟩
         · rw[hp] at h7
           have:z=key+j:=by simpa using h7
           subst this
           exact⟨ys,hz,rfl⟩
       · cases hm1
      cases c with
      |nil t' ks'=>
       cases pin with
       |true=>simp[s6] at h1
       |false=>
        obtain⟨_,h4⟩:=ak (show(bif t'==t0&&K.ct ks' ks0 then some ((.nl,[]):E×List (Nat×Bool)) else none)=some (e,k1) from h1)
        simp only[Option.some.injEq,Prod.mk.injEq] at h4
        obtain⟨rfl,rfl⟩:=h4
        have hv:v= .slice none 0 0:=hc
        subst hv
        exact⟨⟨[],ud _ _ _ _ _,rfl⟩,fun q hq=>by simp at hq,fun b hb=>by simp at hb,fun h=>by cases h⟩
      |ref z p=>
       cases p with
       |some p=>cases pin<;>simp[s6] at h1
       |none=>exact ref rfl (by cases pin<;>exact h1)
      |dat _ _=>cases pin<;>simp[s6] at h1
      |dead=>cases pin<;>simp[s6] at h1
     obtain⟨⟨F,j3,rfl⟩,j1,j2,j4⟩:=main
     refine⟨⟨k1.flatMap (xB g)::Fs,⟨v,vs',_,Fs,rfl,rfl,j3,i1⟩,by simp[i2],fun b hb=> ?_⟩,by simp[i3],i4' j1,fun n t ks hn=> ?_,fun k' hk=> ?_⟩
     · simp only[cHD,mem_append] at hb
       rcases hb with hb|hb
       · exact(j2 b hb).mono fun q hq=>mem_append.2 (.inl hq)
       · exact i2'' b hb
     · cases n with
       |zero=>
        simp only[getElem?_cons_zero,Option.some.injEq,BC.ex.injEq] at hn
        obtain⟨rfl,rfl,rfl⟩:=hn
        obtain⟨xs,hx,rfl⟩:=j4 rfl
        exact⟨xs,hx,rfl⟩
       |succ n=>exact tail5 n t ks (by simpa using hn)
     · rcases mem_cons.1 hk with hk|hk
       · cases hk
       · exact i6 k' hk
  · cases h
theorem mp{w0:World}{M:Nat->Nat->Prop}:∀{cs:List BC}{us0 us:List Value}{ds:List D}{Gs:List (List Nat)},ch w M (cs.map BC.rc) us ds Gs->us0.length=cs.length->(∀k,BC.keep k ∉ cs)->
 (∀(n:Nat)(t:TypeId)(ks:List K),cs[n]? =some (BC.ex t ks true)->us[n]? =us0[n]? ∧∀v i j x,us0[n]? =some v->fK w0 ks v i j x->fK w ks v i j x)->lF w0 w M cs us0 us ds Gs
 |[],_,_,_,_,h,_,_,_=>h
 |c::cs,[],_,_,_,_,hl,_,_=>by simp at hl
 |c::cs,v0::us0,us,ds,Gs,h,hl,hk,hp=>by
  have hl':us0.length=cs.length:=by simpa using hl
  have hk':∀k,BC.keep k ∉ cs:=fun k hm=>hk k (mem_cons_of_mem _ hm)
  have hp':∀{us':List Value}{v:Value},us=v::us'->∀(n:Nat)(t:TypeId)(ks:List K),cs[n]? =some (BC.ex t ks true)->us'[n]? =us0[n]? ∧∀v i j x,us0[n]? =some v->fK w0 ks v i j x->fK w ks v i j x:=fun e n t ks hn=>by
   subst e
   simpa using hp (n+1) t ks (by simpa using hn)
  cases c with
  |keep k=>exact absurd (mem_cons_self ..) (hk k)
  |im k=>
   obtain⟨v,vs',rfl,hc,hr⟩:=h
   exact⟨v0,us0,v,vs',rfl,rfl,hc,mp hr hl' hk' (hp' rfl)⟩
  |own t ks=>
   obtain⟨v,vs',F,Fs',rfl,rfl,ho,hr⟩:=h
   exact⟨v0,us0,v,vs',F,Fs',rfl,rfl,rfl,ho,mp hr hl' hk' (hp' rfl)⟩
  |ex t ks pin=>
   obtain⟨v,vs',F,Fs',rfl,rfl,ho,hr⟩:=h
   refine⟨v0,us0,v,vs',F,Fs',rfl,rfl,rfl,ho,fun e=> ?_,mp hr hl' hk' (hp' rfl)⟩
   subst e
   obtain⟨h1,h2⟩:=hp 0 t ks rfl
   simp only[getElem?_cons_zero,Option.some.injEq] at h1
   exact⟨h1,fun i j x=>h2 v0 i j x rfl⟩
def oW:List BSh->List RC
 |[]=>[]
 | .box _ cs::ss=>cs.map BC.rc++oW ss
 | .im _::ss=>oW ss
 | .one _::ss=>oW ss
 | .agg _::ss=>oW ss
def bd(φ:Nat->D):Nat->List BSh->List D
 |_,[]=>[]
 |n,.box _ cs::ss=>(List.range cs.length).map (fun j=>(φ n).row.getD j default)++bd φ (n+1) ss
 |n,.im _::ss=>bd φ n ss
 |n,.one _::ss=>bd φ n ss
 |n,.agg _::ss=>bd φ n ss
theorem lI:∀{cs cs':List RC}{x x' y y':List D},x.length=cs.length->y.length=cs.length->em (cs++cs') (x++x') (y++y')->em cs x y∧em cs' x' y'
 |[],cs',x,x',y,y',hx,hy,h=>by
  have hx:x=[]:=List.eq_nil_of_length_eq_zero hx
  have hy:y=[]:=List.eq_nil_of_length_eq_zero hy
  subst hx hy
  exact⟨trivial,h⟩
 |c::cs,cs',[],_,_,_,hx,_,_=>by simp at hx
 |c::cs,cs',_::_,_,[],_,_,hy,_=>by simp at hy
 |c::cs,cs',a::x,x',b::y,y',hx,hy,h=>by
  obtain⟨h1,h2⟩:=h
  obtain⟨h3,h4⟩:=lI (x:=x) (y:=y) (by simpa using hx) (by simpa using hy) h2
  exact⟨⟨h1,h3⟩,h4⟩
theorem F7(n:Nat)(r:List D)(j:Nat)(hj:j<n):((List.range n).map fun j=>r.getD j default).getD j default=r.getD j default:=by
 simp[getD_eq_getElem?_getD,hj]
theorem mf(R:Rel C g (s.den Φ env) a w){M0 M':Nat->Nat->Prop}(hM:∀b o,M' b o->M0 b o):∀{ss:List BSh}{i n:Nat}{vs:List Value}{ds:List D}{Fs:List (List Nat)}{es:List E}{kx:List (Nat×Bool)}{φ:Nat->D}{Mx:Nat->Nat->Prop},
 nV C.w0 Mx ss vs ds Fs->tv s i ss=some (es,kx)->Hand C g (s.den Φ env) M0 kx->(∀p,p∈lh C.w0 i ss vs->p∈C.pin)->(∀p,p∈lq i ss vs->p∈C.yO)->em (oW ss) (es.map (E.den Φ env)) (bd φ n ss)->
 ∃Bs Gs,nt C.w0 w M' n ss vs φ Bs Gs∧bFp ss vs Gs=kx.flatMap (xB g)∧(∀b,b∈bHD ss vs Bs Gs->InX C g (s.den Φ env) kx b)∧∀q,q∈kx->∀b,b∈xB g q->b∈g.fp q.1
 |[],i,n,vs,ds,Fs,es,kx,φ,Mx,hb,h,hH,hp,hpB,he=>by
  simp only[tv,Option.some.injEq,Prod.mk.injEq] at h
  obtain⟨rfl,rfl⟩:=h
  obtain⟨rfl,rfl,rfl⟩:=hb
  exact⟨[],[],⟨rfl,rfl⟩,rfl,fun b hb=>by simp[bHD] at hb,fun q hq=>by simp at hq⟩
 | .im sh::ss,i,n,vs,ds,Fs,es,kx,φ,Mx,hb,h,hH,hp,hpB,he=>by
   obtain⟨v,vs',d,ds',rfl,rfl,_,hb⟩:=hb
   exact mf R hM (ss:=ss) hb h hH (fun p hm=>hp p hm) (fun p hm=>hpB p hm) he
 | .one c::ss,i,n,vs,ds,Fs,es,kx,φ,Mx,hb,h,hH,hp,hpB,he=>by
   obtain⟨v,vs',d,ds',F,Fs',rfl,rfl,rfl,_,hb⟩:=hb
   exact mf R hM (ss:=ss) hb h hH (fun p hm=>hp p hm) (fun p hm=>hpB p hm) he
 | .agg cs::ss,i,n,vs,ds,Fs,es,kx,φ,Mx,hb,h,hH,hp,hpB,he=>by
   obtain⟨us,vs',d,ds',F,Fs',rfl,rfl,rfl,_,hb⟩:=hb
   exact mf R hM (ss:=ss) hb h hH (fun p hm=>hp p hm) (fun p hm=>hpB p hm) he
 | .box T cs::ss,i,n,vs,ds,Fs,es,kx,φ,Mx,hb,h,hH,hp,hpB,he=>by
   obtain⟨b,us0,vs',d,ds',F,Fs',rfl,rfl,rfl,hw0,hrc,hb⟩:=hb
   simp only[tv] at h
   split at h
   · rename_i T' dc hy
     obtain⟨h1,h2⟩:=ak h
     clear h
     have h1:T'=T:=by simpa using h1
     subst h1
     split at h2
     · rename_i es1 k1 es2 k2 hf hr
       simp only[Option.some.injEq,Prod.mk.injEq] at h2
       obtain⟨rfl,rfl⟩:=h2
       have hy':=aT (Φ:=Φ) (env:=env) hy
       have hpt:=R.pin.2 _ (hpB (bk i,.pointer (some ⟨b,0,none⟩)) (by simp[lq]))
       unfold aV at hpt
       simp only[sur,hy',SOb.den] at hpt
       obtain⟨b1,hb',e'⟩:=hpt
       simp only[Value.pointer.injEq,Option.some.injEq,Addr.mk.injEq,and_true] at e'
       rw[<-e'] at hb'
       clear e'
       have ho:=R.objs (bk i)
       unfold bv at ho
       simp only[sur,hy',SOb.den] at ho
       obtain⟨b2,us,hb2,hfp,hh,hcs⟩:=ho
       rw[hb'] at hb2
       simp only[Value.pointer.injEq,Option.some.injEq,Addr.mk.injEq,and_true] at hb2
       rw[<-hb2] at hfp hh
       clear hb2
       have hH1:Hand C g (s.den Φ env) M0 k1:=⟨hH.le,fun q hq=>hH.off q (mem_cons_of_mem _ (mem_append.2 (.inl hq)))⟩
       have hH2:Hand C g (s.den Φ env) M0 k2:=⟨hH.le,fun q hq=>hH.off q (mem_cons_of_mem _ (mem_append.2 (.inr hq)))⟩
       obtain⟨⟨G,g1,g2,g3⟩,g4,g5,g6,g7⟩:=vI R hcs hf hH1
       have hlen0:us0.length=cs.length:=by
        have:∀{cs:List RC}{vs:List Value}{ds:List D}{Fs:List (List Nat)},ch C.w0 Mx cs vs ds Fs->vs.length=cs.length:=by
         intro cs
         induction cs with
         |nil=>intro vs ds Fs h;rw[h.1];rfl
         |cons c cs ih=>
          intro vs ds Fs h
          cases c with
          |im k=>obtain⟨v,vs',rfl,_,h⟩:=h;simp[ih h]
          |own t ks dp=>obtain⟨v,vs',F,Fs',rfl,_,_,h⟩:=h;simp[ih h]
        simpa using this hrc
       have hle:((es1++es2).map (E.den Φ env))=es1.map (E.den Φ env)++es2.map (E.den Φ env):=by simp
       rw[hle] at he
       obtain⟨he1,he2⟩:=lI (by simp[g4]) (by simp) (show em (cs.map BC.rc++oW ss) _ ((List.range cs.length).map (fun j=>(φ n).row.getD j default)++bd φ (n+1) ss) from he)
       obtain⟨Bs,Gs,i1,i2,i3,i4⟩:=mf R hM (i:=i+1) (n:=n+1) hb hr hH2 (fun p hm=>hp p (by simp only[lh];exact mem_append.2 (.inr hm))) (fun p hm=>hpB p (by simp only[lq];exact mem_cons_of_mem _ hm)) he2
       have gR:ch w M' (cs.map BC.rc) us (φ n).row G:=((g1.eqv he1).ext fun j hj=>F7 _ _ _ (by simpa using hj)).to (.inl hM)
       refine⟨us::Bs,G::Gs,⟨b,us0,vs',us,Bs,G,Gs,rfl,hw0,rfl,rfl,hh,mp gR hlen0 g7 fun m t ks hm=> ?_,i1⟩,?_,fun c hc=> ?_,fun q hq=> ?_⟩
       · obtain⟨xs,q1,q2⟩:=g6 m t ks hm
         rw[zero_add] at q1 q2
         have hml:m<us0.length:=by rw[hlen0];exact(List.getElem?_eq_some_iff.1 hm).1
         have hu0:us0[m]? =some us0[m]:=getElem?_eq_getElem hml
         have hpm:(bk i+1+m,t,ks,us0[m])∈C.pin:=hp _ (by
          simp only[lh]
          refine mem_append.2 (.inl ?_)
          have hcl:qQ C.w0 (.pointer (some ⟨b,0,none⟩))=us0:=by simp only[qQ,hw0]
          rw[hcl]
          have:=x0 (key:=bk i+1) (j:=0) hm hu0
          rwa[zero_add] at this)
         obtain⟨o,ho,hx⟩:=R.pin.1 _ hpm
         have q1':=aT (Φ:=Φ) (env:=env) q1
         simp only[sur,q1',Option.some.injEq] at ho
         obtain⟨_,_,x3,x4⟩:=hx _ _ _ ho.symm
         simp only[sur] at x3 x4
         refine⟨by rw[q2,x3,hu0],fun v i' j' x hv hl=> ?_⟩
         rw[hu0] at hv
         simp only[Option.some.injEq] at hv
         subst hv
         exact x4 i' j' x hl
       · simp only[bFp,bq,toList,i2,g2,flatMap_cons,flatMap_append,xB,if_true,hfp,cons_append,nil_append]
       · simp only[bHD,bq,mem_append,toList] at hc
         rcases hc with hc|hc|hc
         · simp only[mem_singleton] at hc
           subst hc
           exact⟨(bk i,true),by simp,by simp[xB,hfp],fun o=>.inr (.inl ⟨bk i,by rw[hy'];rfl,by rw[hb'];rfl⟩)⟩
         · exact(g3 c hc).mono fun q hq=>mem_cons_of_mem _ (mem_append.2 (.inl hq))
         · exact(i3 c hc).mono fun q hq=>mem_cons_of_mem _ (mem_append.2 (.inr hq))
       · rcases mem_cons.1 hq with rfl|hq
         · intro b hb;simpa[xB] using hb
         · rcases mem_append.1 hq with hq|hq
           · exact g5 q hq
           · exact i4 q hq
     · cases h2
   · cases h
theorem J9{P:Program}{T:TypeId->TI}(tok:∀t,(T t).ok=true->TOk P T t) (hm:P.follows .mixedOrders=true) {CT:Nat->Option Sig} (hCT:Told P Φ CT) {f:FuncId} {fn:Func} {c:Code}
 (hf:P.funcs[f]? =some fn) (hb:fn.body=some c) {args:List BSh} {ax:List RSh} {φ:Nat->List D->D} {G:Nat->SSt->Code->List It->Option (SSt×Nat)} {fuel:Nat} {vc:VC}
 (hl:args.length<=fn.ntmps) (hk:iA ((ed 0 args).2.map (·.1))=true)
 (hv:run T CT G (KG T fn.results.toList ax args) fuel args.length (ip args fn.ntmps) [.code c]=some vc)
 (hw:∀ds,ds.length=args.length->(φ 1000 ds).ZZ=true->vc.wp Φ (fun l=>em (ax.flatMap RSh.cells++oW args) l (dG (fun c=>φ c ds) 0 ax++bd (fun n=>φ (2000+n) ds) 0 args)) ds fun _ _=>False):Fz P f args ax φ:=by
 intro w M vs ds Fs hM hgl hargs hnd hlt hpre
 have hlen:=hargs.len
 let C:Cx:={ P:=P,T:=T,tok:=tok,w0:=w,X:=Fs.flatten,M:=M,oL:=hM,n:=fn.ntmps,pin:=lh w 0 args vs,u5:=fun p hp=>mc hp,yO:=lq 0 args vs,qR:=fun p hp=>l8 hp,gl:=hgl }
 refine calls_of_wp hf hb ?_
 obtain⟨g0,R0⟩:∃g,Rel C g ((ip args fn.ntmps).den Φ ds) { tmps:=vs.toArray++Array.replicate (fn.ntmps - vs.toArray.size) undef,defers:=[] } w:=DC (C:=C) hargs hl rfl hnd hlt hk rfl rfl
 let F:Exit->Act->World->Prop:=bodyPost P fn fun e w'=>∃us Rs Bs Gs,e= .returned (jt ax us)∧Fr w Fs.flatten w'∧
     ch w' (MeH M (bD (ax.flatMap RSh.cells) us++bHD args vs Bs Gs)) (ax.flatMap RSh.cells) us (dG (fun c=>φ c ds) 0 ax) Rs∧
     nt w w' (MeH M (bD (ax.flatMap RSh.cells) us++bHD args vs Bs Gs)) 0 args vs (fun n=>φ (2000+n) ds) Bs Gs∧
     (Rs.flatten++bFp args vs Gs).Nodup∧∀b,b∈Rs.flatten++bFp args vs Gs->(w.heap.size<=b∨b∈Fs.flatten)∧b<w'.heap.size
 have hend:∀env g s a w' es,KG T fn.results.toList ax args s=some es->Rel C g (SSt.den Φ env s) a w'->(fun l=>em (ax.flatMap RSh.cells++oW args) l (dG (fun c=>φ c ds) 0 ax++bd (fun n=>φ (2000+n) ds) 0 args)) (es.map (E.den Φ env))->
  F .normal a w'∧F .ret a w':=fun env g s a w' es he R hp=>by
  suffices hh:∃us Rs Bs Gs,(results fn a.tmps).run C.P w'= .ok (jt ax us) w'∧Fr w Fs.flatten w'∧
   ch w' (MeH M (bD (ax.flatMap RSh.cells) us++bHD args vs Bs Gs)) (ax.flatMap RSh.cells) us (dG (fun c=>φ c ds) 0 ax) Rs∧
   nt w w' (MeH M (bD (ax.flatMap RSh.cells) us++bHD args vs Bs Gs)) 0 args vs (fun n=>φ (2000+n) ds) Bs Gs∧
   (Rs.flatten++bFp args vs Gs).Nodup∧∀b,b∈Rs.flatten++bFp args vs Gs->(w.heap.size<=b∨b∈Fs.flatten)∧b<w'.heap.size by
   obtain⟨us,Rs,Bs,Gs,e1,e2⟩:=hh
   exact⟨⟨R.defers,_,e1,us,Rs,Bs,Gs,rfl,e2⟩,⟨R.defers,_,e1,us,Rs,Bs,Gs,rfl,e2⟩⟩
  unfold KG at he
  split at he
  · rename_i uv h1
    split at he
    · rename_i cs h2
      split at he
      · rename_i es1 k1 es2 k2 h3 h4
        obtain⟨h5,h6⟩:=ak he
        clear he
        simp only[Option.some.injEq] at h6
        subst h6
        obtain⟨ws,r1,r2⟩:=sc R h1
        obtain⟨us,q1,q2,q3⟩:=qj r2 h2
        have hkn:=gU h5
        have hsame:∀q q',q∈k1++k2->q'∈k1++k2->q.1=q'.1->q=q':=fun q q' hq hq' e=>by
         obtain⟨i,hi,rfl⟩:=getElem_of_mem hq
         obtain⟨j,hj,rfl⟩:=getElem_of_mem hq'
         by_cases hij:i=j
         · subst hij;rfl
         · have hp:=List.pairwise_iff_getElem.1 hkn
           rcases Nat.lt_or_gt_of_ne hij with hlt|hlt
           · exact absurd (by rw[getElem_map,getElem_map];exact e) (hp i j (by simpa using hi) (by simpa using hj) hlt)
           · exact absurd (by rw[getElem_map,getElem_map];exact e.symm) (hp j i (by simpa using hj) (by simpa using hi) hlt)
        let M0:Nat->Nat->Prop:=fun b o=>Me C.M (s.den Φ env).obj g.hd g.fp b o∧∀q,q∈k1++k2->b∈g.fp q.1->b∈xB g q
        have hH:Hand C g (s.den Φ env) M0 (k1++k2):=⟨fun b o h=>h.1,fun q hq b hb o hm=>hm.2 q hq hb⟩
        obtain⟨⟨Rs,a1,a2⟩,a3,a4,a5⟩:=wh R (M0:=M0) q1 h3 ⟨hH.le,fun q hq=>hH.off q (mem_append.2 (.inl hq))⟩
        rw[map_append] at hp
        have hrl:(dG (fun c=>φ c ds) 0 ax).length=(ax.flatMap RSh.cells).length:=by
         have:=iF f ([]:List E) ax 0
         have h2:=lZ (Φ:=fun _ c _=>φ c ds) (env:=[]) f [] ax 0
         rw[<-this,<-length_map (f:=E.den (fun _ c _=>φ c ds) []),h2]
        obtain⟨p1,p2⟩:=lI (by simp[a3]) hrl hp
        have H2:Hand C g (s.den Φ env) M0 k2:=⟨hH.le,fun q hq=>hH.off q (mem_append.2 (.inr hq))⟩
        obtain⟨Bs,Gs,b1,b2,b3,b4⟩:=mf R (M0:=M0) (M':=M0) (fun _ _ h=>h) (i:=0) (n:=0) hargs h4 H2 (fun p hm=>hm) (fun p hm=>hm) p2
        have hfpx:∀q,q∈k1++k2->∀b,b∈xB g q->b∈g.fp q.1:=fun q hq=>by
         rcases mem_append.1 hq with hq|hq
         · exact a4 q hq
         · exact b4 q hq
        have hMM:∀b o,MeH M (bD (ax.flatMap RSh.cells) us++bHD args vs Bs Gs) b o->M0 b o:=fun b o hm=>by
         rcases hm with hm|hm
         · refine⟨.inl hm,fun q hq hbq=> ?_⟩
           have:=C.oL b o hm
           rcases(R.alw q.1 b hbq).1 with h7|h7
           · omega
           · exact absurd h7 this.2
         · have hX:InX C g (s.den Φ env) (k1++k2) b:=by
            rcases mem_append.1 hm with hm|hm
            · exact(a5 b hm).mono fun q hq=>mem_append.2 (.inl hq)
            · exact(b3 b hm).mono fun q hq=>mem_append.2 (.inr hq)
           obtain⟨q,hq,hbq,hme⟩:=hX
           refine⟨hme o,fun q' hq' hb'=> ?_⟩
           have hbf:=hfpx q hq b hbq
           by_cases e:q.1=q'.1
           · rw[<-hsame q q' hq hq' e];exact hbq
           · exact absurd hb' (R.apart q.1 q'.1 e b hbf)
        have outs:∀{M1 M2:Nat->Nat->Prop},(∀b o,M2 b o->M1 b o)->∀{ss:List BSh}{n:Nat}{vs:List Value}{φ:Nat->D}{Bs:List (List Value)}{Gs:List (List (List Nat))},nt w w' M1 n ss vs φ Bs Gs->nt w w' M2 n ss vs φ Bs Gs:=by
         intro M1 M2 hM12
         have cell:∀{cs:List BC}{us0 us:List Value}{ds:List D}{Gs:List (List Nat)},lF w w' M1 cs us0 us ds Gs->lF w w' M2 cs us0 us ds Gs:=by
          intro cs
          induction cs with
          |nil=>intro us0 us ds Gs h;exact h
          |cons c cs ih=>
           intro us0 us ds Gs h
           have ow:∀{t:TypeId}{ks:List K}{dp:Bool}{v:Value}{xs:List (List D)}{F:List Nat},bU w' M1 t ks dp v xs F->bU w' M2 t ks dp v xs F:=fun h=>by
            obtain⟨vss,fps,h1,h2,h3,h4,h5,h6⟩:=h
            refine⟨vss,fps,h1,h2,h3,h4,h5,fun i row us f e1 e2 e3=> ?_⟩
            have:=h6 i row us f e1 e2 e3
            split at this
            · rename_i hd;rw[if_pos hd];exact this
            · rename_i hd;rw[if_neg hd];exact⟨this.1.mono hM12,this.2⟩
           cases c with
           |keep k=>obtain⟨v,vs',us',e1,e2,h⟩:=h;exact⟨v,vs',us',e1,e2,ih h⟩
           |im k=>obtain⟨v,vs',u,us',e1,e2,h1,h⟩:=h;exact⟨v,vs',u,us',e1,e2,h1.mono hM12,ih h⟩
           |own t ks=>obtain⟨v,vs',u,us',G,Gs',e1,e2,e3,h1,h⟩:=h;exact⟨v,vs',u,us',G,Gs',e1,e2,e3,ow h1,ih h⟩
           |ex t ks pin=>obtain⟨v,vs',u,us',G,Gs',e1,e2,e3,h1,h2,h⟩:=h;exact⟨v,vs',u,us',G,Gs',e1,e2,e3,ow h1,h2,ih h⟩
         intro ss
         induction ss with
         |nil=>intro n vs φ Bs Gs h;exact h
         |cons x ss ih=>
          intro n vs φ Bs Gs h
          cases x with
          |box T cs=>obtain⟨b,us0,vs',us,Bs',G,Gs',e1,e2,e3,e4,e5,h1,h⟩:=h;exact⟨b,us0,vs',us,Bs',G,Gs',e1,e2,e3,e4,e5,cell h1,ih h⟩
          |im sh=>exact ih (n:=n) (vs:=vs.tail) h
          |one c=>exact ih (n:=n) (vs:=vs.tail) h
          |agg cs=>exact ih (n:=n) (vs:=vs.tail) h
        have hall:Rs.flatten++bFp args vs Gs=(k1++k2).flatMap (xB g):=by rw[a2,b2,flatMap_append]
        refine⟨us,Rs,Bs,Gs,?_,R.fr,(a1.eqv p1).to (.inl hMM),outs hMM b1,?_,fun b hb=> ?_⟩
        · rw[wk,show fn.results=fn.results.toList.toArray by simp]
          simp only[List.mapM_toArray,Sem.run_bind]
          have:((toArray <$>List.mapM (FB a.tmps) fn.results.toList:Sem (Array Value))).run C.P w'= .ok ws.toArray w':=by simp[r1]
          rw[this]
          simp only[Result.andThen,Sem.run_pure]
          subst q2
          congr 1
          rcases ax with _|⟨r,_|⟨r2,rs⟩⟩
          · rfl
          · have:us.take r.cells.length=us:=List.take_of_length_le (by rw[q3];simp)
            simp[ky,jt,this]
          · simp[ky,jt]
        · rw[hall]
          refine List.nodup_iff_pairwise_ne.2 ?_
          rw[List.pairwise_flatMap]
          refine⟨fun q hq=> ?_,?_⟩
          · have hnd:(xB g q).Nodup:=by
             unfold xB
             split
             · exact R.own q.1
             · cases(g.hd q.1).ownBlock<;>simp
            exact List.nodup_iff_pairwise_ne.1 hnd
          · have hp:=List.pairwise_map.1 hkn
            refine List.Pairwise.imp_of_mem (fun{q q'} hq hq' hne b hb b' hb' e=> ?_) hp
            subst e
            exact R.apart q.1 q'.1 hne b (hfpx q hq b hb) (hfpx q' hq' b hb')
        · rw[hall] at hb
          obtain⟨q,hq,hbq⟩:=List.mem_flatMap.1 hb
          exact R.alw q.1 b (hfpx q hq b hbq)
      · cases he
    · cases he
  · cases he
 have:=xO (C:=C) (Φ:=Φ) (CT:=CT) hm hCT (F:=F) hend fuel args.length (ip args fn.ntmps) [.code c] vc hv ds (fun _ _=>False) _ g0 _ w hlen.2 ⟨_,rfl,rfl⟩ R0 (hw ds hlen.2 hpre)
 exact this
end
end Go.Vx
namespace Go.Vx
open Go.RowKit (Below)
section
variable {Φ:Fns}
end
end Go.Vx
namespace Go.Vx
open Go.RowKit (Below)
def Cw:Code->List Oper
 | .region _ ops _=>ops.toList
 | .seq a b=>Cw a++Cw b
 | .cond _ a b=>Cw a++Cw b
 | .block _ c=>Cw c
 | .loop c=>Cw c
 |_=>[]
def MN(l:List Operand):List Nat:=l.filterMap fun x=>match x with| .tmp t=>some t|_=>none
def qY:Code->List Nat
 | .region _ ops _=>ops.toList.flatMap fun o=>MN o.op.operands.toList
 | .seq a b=>qY a++qY b
 | .cond x a b=>MN [x]++qY a++qY b
 | .block _ c=>qY c
 | .loop c=>qY c
 |_=>[]
def Az:List It->List Nat
 |[]=>[]
 | .code c::k=>qY c++Az k
 | .lp _ _ _ H::k=>((List.range H.tmps.length).zip H.tmps).filterMap (fun p=>match p.2 with| .dead=>none|_=>some p.1)++Az k
 |_::k=>Az k
def resT(l:List ResultVar):List Nat:=l.map fun r=>match r with| .tmp t=>t| .cell t _=>t
structure Hint where
 id:Nat
 keep:List Nat
 data:List Nat
 /-- the rows of its arrays own nothing -/
 flat:Bool
 deriving Inhabited
def wW(x:Nat)(l:List Nat):Bool:=l.any fun y=>y==x
def qC(ops:List Oper):Nat->Nat->Nat
 |0,p=>p
 |f+1,p=>match ops.find? fun o=>match o.dst with|some d=>d==p|none=>false with
  |some o=>match o.op with
   | .move (.tmp q)=>qC ops f q
   | .assign (.tmp q)=>qC ops f q
   | .fieldAddr _ (.tmp q) _=>qC ops f q
   | .indexAddr _ (.tmp q) _=>qC ops f q
   | .slice _ (.tmp q) _ _ _=>qC ops f q
   | .nilCheck (.tmp q)=>qC ops f q
   |_=>p
  |none=>p
def zv:SC->List Nat
 | .ref z _=>[z]
 |_=>[]
def yI:SV->List Nat
 | .one c=>zv c
 | .agg cs=>cs.flatMap zv
 | .ptr z _ _=>[z]
 |_=>[]
def touched(ops:List Oper)(s:SSt):List Nat:=ops.flatMap fun o=>match o.op with
 | .store _ (.tmp p) _=>yI (s.tmp (qC ops 8 p))
 | .call c=>match c.callee,c.args.toList with
   | .builtin .append,.tmp p::_=>yI (s.tmp (qC ops 8 p))
   | .value (.func _),xs=>xs.flatMap fun x=>match x with
     | .tmp p=>match s.tmp (qC ops 8 p) with| .ptr z _ _=>[z]|_=>[]
     |_=>[]
   |_,_=>[]
 |_=>[]
def Om(h:Hint)(i c:Nat):SC->SC×Nat×Nat
 | .dat k e=>bif wW c h.keep then(.dat k e,i,c+1) else(.dat k (.var i),i+1,c+1)
 | .nil t ks=>(.nil t ks,i,c)
 | .ref z none=>(.ref z none,i,c)
 |_=>(.dead,i,c)
def JC(h:Hint)(i c:Nat):List SC->List SC×Nat×Nat
 |[]=>([],i,c)
 |x::cs=>match Om h i c x with
  |(c',j,d)=>match JC h j d cs with
   |(cs',l)=>(c'::cs',l)
def X0(h:Hint)(t i c:Nat):SV->SV×List (Nat×SOb)×Nat×Nat
 | .one (.nil e ks)=>bif wW c h.keep then(.one (.nil e ks),[],i,c+1) else bif wW c h.data then(.one (.dat (.sl e ks) (.var i)),[],i+1,c+1) else
    (.one (.ref (64000000+t) none),[(64000000+t,.arr e ks (!h.flat||eO ks) (.var i))],i+1,c+1)
 | .one x=>match Om h i c x with|(c',j)=>(.one c',[],j)
 | .agg cs=>match JC h i c cs with|(cs',j)=>(.agg cs',[],j)
 |_=>(.dead,[],i,c)
def TM:SV->SV
 | .tup _=>.dead
 | .whn _ _=>.dead
 |v=>v
def LB(h:Hint)(mods use:List Nat):Nat->Nat->Nat->List SV->List SV×List (Nat×SOb)×List Nat×Nat×Nat
 |_,i,c,[]=>([],[],[],i,c)
 |t,i,c,v::vs=>bif !wW t use then match LB h mods use (t+1) i c vs with
   |(vs',os,ts,l)=>(.dead::vs',os,ts,l)
  else bif wW t mods then
   match X0 h t i c v with
   |(v',o,j,d)=>match LB h mods use (t+1) j d vs with
    |(vs',os,ts,l)=>(v'::vs',o++os,yI v++ts,l)
  else match LB h mods use (t+1) i c vs with
   |(vs',os,ts,l)=>(TM v::vs',os,ts,l)
def TY(h:Hint)(i c:Nat):SOb->SOb×Nat×Nat
 | .arr t ks dp e=>bif wW c h.keep then(.arr t ks dp e,i,c+1) else(.arr t ks (dp&&(!h.flat||eO ks)) (.var i),i+1,c+1)
 | .box T cs=>match JC h i c cs with|(cs',j)=>(.box T cs',j)
 | .arx t ks e=>bif wW c h.keep then(.arx t ks e,i,c+1) else(.arx t ks (.var i),i+1,c+1)
 |o=>(o,i,c)
def IF(h:Hint)(z:Nat):Nat->Nat->Nat->List SC->List SC×List (Nat×SOb)×Nat×Nat
 |_,i,c,[]=>([],[],i,c)
 |j,i,c,.nil e ks::cs=>match IF h z (j+1) (i+1) c cs with
  |(cs',os,l)=>(.ref (65000000+16*z+j) none::cs',(65000000+16*z+j,.arr e ks (!h.flat||eO ks) (.var i))::os,l)
 |j,i,c,x::cs=>match Om h i c x with
  |(c',i',d)=>match IF h z (j+1) i' d cs with
   |(cs',os,l)=>(c'::cs',os,l)
def Vp(h:Hint)(z i c:Nat)(o:SOb):List (Nat×SOb)×Nat×Nat:=match o with
 | .box T cs=>bif wW 1000000 h.data then(match IF h z 0 i c cs with|(cs',os,l)=>((z,.box T cs')::os,l)) else(match TY h i c o with|(o',l)=>([(z,o')],l))
 |_=>match TY h i c o with|(o',l)=>([(z,o')],l)
def E5(s:SSt)(h:Hint)(tou:List Nat):Nat->Nat->List Nat->List (Nat×SOb)×Nat×Nat
 |i,c,[]=>([],i,c)
 |i,c,z::zs=>match s.obj z with
  |some o=>bif wW z tou then match Vp h z i c o with
    |(o',j,d)=>match E5 s h tou j d zs with
     |(os,l)=>(o'++os,l)
   else match E5 s h tou i c zs with
    |(os,l)=>((z,o)::os,l)
  |none=>E5 s h tou i c zs
def uniq:List Nat->List Nat
 |[]=>[]
 |x::l=>bif wW x l then uniq l else x::uniq l
def LO(h:Hint)(rt:List Nat)(n:Nat)(s:SSt)(c:Code)(after:List Nat):Option (SSt×Nat):=
 let ops:=Cw c
 let mods:=ops.filterMap (·.dst)
 match LB h mods (rt++after) 0 n 0 s.tmps with
 |(tmps,new,ts,i,c)=>
  let refs:=tmps.flatMap yI
  let refs2:=refs++refs.flatMap fun z=>match s.obj z with|some (.box _ cs)=>cs.flatMap zv|_=>[]
  let big:=s.objs.filterMap fun p=>bif Nat.blt p.1 1000000000 then none else some p.1
  let tou:=touched ops s++ts++big
  let tou:=tou++tou.flatMap fun z=>match s.obj z with|some (.box _ cs)=>cs.flatMap zv|_=>[]
  match E5 s h tou i c (uniq (refs2++big)) with
  |(os,j,_)=>some (⟨tmps,os++new⟩,j - n)
def gen(hs:List Hint)(rt:List Nat)(n:Nat)(s:SSt)(c:Code)(k:List It):Option (SSt×Nat):=match c with
 | .loop (.seq x y)=>match hs.find? fun h=>h.id==1000000+(iq y).getD 0 with
   |some h=>LO h rt n s x (qY y++Az k)
   |none=>none
 |c=>LO ((hs.find? fun h=>h.id==(iq c).getD 0).getD ⟨(iq c).getD 0,[],[],false⟩) rt n s c (qY c++Az k)
structure ah where
 f:Nat
 args:List ASh
 ax:List RSh
 ex:Bool:=false
 xs:Option (List XSh):=none
 bs:Option (List BSh):=none
 so:Option (TypeId×List K):=none
 exn:List Nat:=[]
 nb:Option (TypeId×List K):=none
abbrev told(f:Nat)(args:List ASh)(ax:List RSh):ah:={ f:=f,args:=args,ax:=ax }
abbrev kK(f:Nat)(bs:List BSh)(ax:List RSh):ah:={ f:=f,args:=[],ax:=ax,bs:=some bs }
abbrev R9(f:Nat)(t:TypeId)(ks:List K):ah:={ f:=f,args:=[],ax:=[],so:=some (t,ks) }
abbrev ah.x(t:ah):ah:={ t with ex:=true }
def sigs:List ah->Nat->Option Sig
 |[],_=>none
 |t::l,f=>bif t.f==f then some { args:=t.args,ax:=t.ax,ex:=t.ex,xs:=t.xs,bs:=t.bs,so:=t.so,exn:=t.exn,nb:=t.nb } else sigs l f
def C0(T:TypeId->TI)(CT:Nat->Option Sig)(hs:List Hint)(fn:Func)(args:List ASh)(ax:List RSh):Option VC:=match fn.body with
 |some c=>run T CT (gen hs (resT fn.results.toList)) (fin T fn.results.toList ax) 2000 args.length (start args fn.ntmps) [.code c]
 |none=>none
def vcB(T:TypeId->TI)(CT:Nat->Option Sig)(hs:List Hint)(fn:Func)(args:List BSh)(ax:List RSh):Option VC:=match fn.body with
 |some c=>run T CT (gen hs (resT fn.results.toList)) (KG T fn.results.toList ax args) 2000 args.length (ip args fn.ntmps) [.code c]
 |none=>none
theorem Ln{Φ:Fns}{P:Program}{T:TypeId->TI}(tok:∀t,(T t).ok=true->TOk P T t) (hm:P.follows .mixedOrders=true) {CT:Nat->Option Sig} (hCT:Told P Φ CT) {f:FuncId} {fn:Func}
 (hf:P.funcs[f]? =some fn) {args:List BSh} {ax:List RSh} {φ:Nat->List D->D} {hs:List Hint} {vc:VC} (hl:args.length<=fn.ntmps) (hk:iA ((ed 0 args).2.map (·.1))=true) (hv:vcB T CT hs fn args ax=some vc)
 (hw:∀ds,ds.length=args.length->(φ 1000 ds).ZZ=true->vc.wp Φ (fun l=>em (ax.flatMap RSh.cells++oW args) l (dG (fun c=>φ c ds) 0 ax++bd (fun n=>φ (2000+n) ds) 0 args)) ds fun _ _=>False):Fz P f args ax φ:=by
 unfold vcB at hv
 split at hv
 · rename_i c hb
   exact J9 tok hm hCT hf hb hl hk hv hw
 · cases hv
theorem KU{Φ:Fns}{P:Program}{T:TypeId->TI}(tok:∀t,(T t).ok=true->TOk P T t) (hm:P.follows .mixedOrders=true) {CT:Nat->Option Sig} (hCT:Told P Φ CT) {f:FuncId} {fn:Func}
 (hf:P.funcs[f]? =some fn) {args:List ASh} {ax:List RSh} {φ:Nat->List D->D} {hs:List Hint} {vc:VC} (hl:args.length<=fn.ntmps) (hv:C0 T CT hs fn args ax=some vc)
 (hw:∀ds,ds.length=args.length->vD args ds->(φ 1000 ds).ZZ=true->vc.wp Φ (fun l=>em (ax.flatMap RSh.cells) l (dG (fun c=>φ c ds) 0 ax)) ds fun _ _=>False):BS P f args ax φ:=by
 unfold C0 at hv
 split at hv
 · rename_i c hb
   exact Kp tok hm hCT hf hb hl hv hw
 · cases hv
end Go.Vx
namespace Go.Vx
open Go.RowKit (Below)
def sE(P:Program):Nat->List Field->List K->Bool
 |_,[],[]=>true
 |j,f::fs,k::ks=> !decide (f.name= "_")&&(f.offset==j&&((match k,P.underlying f.type with
  | .int k,some (.int k')=>decide (k=k')
  | .bool,some .bool=>true
  | .str,some .string=>true
  |_,_=>false)&&sE P (j+1) fs ks))
 |_,_,_=>false
def LR(P:Program)(t:TypeId)(ks:List K):Bool:=match P.underlying t with
 |some (.struct fs)=>sE P 0 fs.toList ks
 |_=>false
theorem xd{P:Program}:∀{fs:List Field}{ks:List K}{j:Nat},sE P j fs ks=true->xZ P j fs ks
 |[],[],_,_=>trivial
 |[],_::_,_,h=>by simp[sE] at h
 |_::_,[],_,h=>by simp[sE] at h
 |f::fs,k::ks,j,h=>by
  simp only[sE,and_eq_true,not_eq_true',decide_eq_false_iff_not,beq_iff_eq] at h
  refine⟨h.1,h.2.1,?_,xd h.2.2.2⟩
  have:=h.2.2.1
  split at this
  · rename_i k1 k2 h2
    simp only[decide_eq_true_eq] at this
    subst this
    exact h2
  · rename_i h2;exact h2
  · rename_i h2;exact h2
  · cases this
def eqB(P:Program)(i:TI)(t:TypeId):Bool:= !i.eq||(LR P t i.ks&&(!P.stoodInHeld t&& !P.eqGuardType P.depth t))
theorem Pr{P:Program}{i:TI}{t:TypeId}(h:eqB P i t=true)(hi:i.eq=true):∃fs,P.underlying t=some (.struct fs)∧P.stoodInHeld t=false∧P.eqGuardType P.depth t=false∧xZ P 0 fs.toList i.ks:=by
 simp only[eqB,hi,Bool.not_true,Bool.false_or,and_eq_true,not_eq_true'] at h
 have h1:=h.1
 unfold LR at h1
 split at h1
 · rename_i fs hf
   exact⟨fs,hf,h.2.1,h.2.2,xd h1⟩
 · cases h1
def vu:List Value->List K->Bool
 |[],[]=>true
 | .int k n::vs,.int k'::ks=>decide (k=k')&&(decide (n=0)&&vu vs ks)
 | .bool b::vs,.bool::ks=> !b&&vu vs ks
 | .string s::vs,.str::ks=>decide (s=⟨#[]⟩)&&vu vs ks
 | .slice none 0 0::vs,.sl _ _::ks=>vu vs ks
 |_,_=>false
theorem Jp:∀{vs:List Value}{ks:List K},vu vs ks=true->vs=ks.map zeroV:=by
 intro vs ks
 fun_induction vu vs ks with
 |case1=>intro _;rfl
 |case2 k n vs k' ks ih=>
  intro h
  simp only[and_eq_true,decide_eq_true_eq] at h
  obtain⟨rfl,rfl,h⟩:=h
  simp[zeroV,ih h]
 |case3 b vs ks ih=>
  intro h
  simp only[and_eq_true,not_eq_true'] at h
  simp[zeroV,h.1,ih h.2]
 |case4 s vs ks ih=>
  intro h
  simp only[and_eq_true,decide_eq_true_eq] at h
  simp[zeroV,h.1,ih h.2]
 |case5 vs e ks' ks ih=>
  intro h
  simp[zeroV,ih h]
 |case6=>intro h;cases h
def x9:List (Nat×TypeId)->List (Nat×TypeId)->Bool
 |[],[]=>true
 |a::as,b::bs=>a.1==b.1&&(a.2==b.2&&x9 as bs)
 |_,_=>false
theorem AE:∀{a b:List (Nat×TypeId)},x9 a b=true->a=b
 |[],[],_=>rfl
 |[],_::_,h=>by simp[x9] at h
 |_::_,[],h=>by simp[x9] at h
 |(x,y)::as,(u,v)::bs,h=>by
  simp only[x9,and_eq_true,beq_iff_eq] at h
  rw[h.1,h.2.1,AE h.2.2]
def Ij(i:TI):TypeDesc->Bool
 | .struct fs=>i.agg&&(i.sl.isNone&&(i.ik.isNone&&(!i.isStr&&x9 (fs.toList.map fun f=>(f.offset,f.type)) i.gI)))
 | .slice e=> !i.agg&&(isN i.sl e&&(i.ik.isNone&&(!i.isStr&&match i.ks with|[.sl e' _]=>e'==e|_=>false)))
 | .int k=> !i.agg&&(i.sl.isNone&&((match i.ik with|some k'=>decide (k'=k)|none=>false)&&(!i.isStr&&K.ct i.ks [.int k])))
 | .bool=> !i.agg&&(i.sl.isNone&&(i.ik.isNone&&(!i.isStr&&K.ct i.ks [.bool])))
 | .string=> !i.agg&&(i.sl.isNone&&(i.ik.isNone&&(i.isStr&&K.ct i.ks [.str])))
 |_=>false
theorem I9{i:TI}{d:TypeDesc}(h:Ij i d=true):nT i d:=by
 cases d<;>simp only[Ij,Bool.false_eq_true,and_eq_true,not_eq_true',Option.isNone_iff_eq_none] at h
 case struct fs=>exact⟨h.1,h.2.1,h.2.2.1,h.2.2.2.1,AE h.2.2.2.2⟩
 case slice e=>
  refine⟨h.1,vh h.2.1,h.2.2.1,h.2.2.2.1,?_⟩
  have:=h.2.2.2.2
  split at this
  · rename_i e' ks hk
    have e1:e'=e:=by simpa using this
    subst e1
    exact⟨ks,hk⟩
  · cases this
 case int k=>
  refine⟨h.1,h.2.1,?_,h.2.2.2.1,K.bp h.2.2.2.2⟩
  have:=h.2.2.1
  split at this
  · rename_i k' hk
    rw[hk,of_decide_eq_true this]
  · cases this
 case bool=>exact⟨h.1,h.2.1,h.2.2.1,h.2.2.2.1,K.bp h.2.2.2.2⟩
 case string=>exact⟨h.1,h.2.1,h.2.2.1,h.2.2.2.1,K.bp h.2.2.2.2⟩
def TR(P:Program)(i:TI)(t:TypeId):Bool:= !i.ok||match P.info? t,P.underlying t with
 |some n,some d=>match n.zero with
  |some z=>n.size==i.ks.length&&(n.bytes==i.bytes&&(vu z.cells.toList i.ks&&(Ij i d&&eqB P i t)))
  |none=>false
 |_,_=>false
abbrev Tab:=List (Nat×TI)
def MQ(P:Program)(l:Tab):Bool:=l.all fun q=>TR P q.2 q.1
def zP(l:Tab)(t:TypeId):TI:=match l with
 |[]=>default
 |(u,i)::l=>bif Nat.beq u t then i else zP l t
theorem z6{t:TypeId}:∀{l:Tab},(zP l t).ok=true->(t,zP l t)∈l
 |[],h=>by simp[zP] at h;cases h
 |(u,i)::l,h=>by
  simp only[zP] at h⊢
  cases hu:Nat.beq u t with
  |true=>
   have:u=t:=Nat.eq_of_beq_eq_true hu
   subst this
   simp
  |false=>
   rw[hu] at h
   simp only[cond_false] at h⊢
   exact mem_cons_of_mem _ (z6 h)
theorem JN{P:Program}{l:Tab}(h:MQ P l=true)(t:TypeId)(ht:(zP l t).ok=true):TOk P (zP l) t:=by
 have h1:=List.all_eq_true.1 h _ (z6 ht)
 simp only[TR,ht,Bool.not_true,Bool.false_or] at h1
 split at h1
 · rename_i n d e1 e2
   split at h1
   · rename_i z e3
     simp only[and_eq_true,beq_iff_eq] at h1
     exact⟨⟨n,d,z,e1,e2,h1.1,h1.2.1,e3,Jp h1.2.2.1,I9 h1.2.2.2.1⟩,Pr h1.2.2.2.2⟩
   · cases h1
 · cases h1
def cW(P:Program)(Φ:Fns)(t:ah):Prop:=(t.xs=none->Ji P t.f t.bs t.so t.nb t.args t.ax (Φ t.f))∧(∀l,t.xs=some l->Hy P t.f l t.ax (Φ t.f))∧∃fn,P.funcs[t.f]? =some fn∧fn.body≠none∧fn.name≠ "runtime.NumGoroutine"
theorem cW.x{P:Program}{Φ:Fns}{t:ah}(h:cW P Φ t):cW P Φ t.x:=h
theorem cW.r{P:Program}{Φ:Fns}{t:ah}(h:cW P Φ t)(hx:t.xs=none)(hb:t.bs=none:=by rfl)(hs:t.so=none:=by rfl)(hn:t.nb=none:=by rfl):BS P t.f t.args t.ax (Φ t.f):=by
 have:=h.1 hx
 rwa[hs,hb,hn] at this
theorem cW.b{P:Program}{Φ:Fns}{t:ah}(h:cW P Φ t)(hx:t.xs=none){l:List BSh}(hb:t.bs=some l)(hs:t.so=none:=by rfl):Fz P t.f l t.ax (Φ t.f):=by
 have:=h.1 hx
 rwa[hs,hb] at this
theorem uc{P:Program}{Φ:Fns}:∀{l:List ah},(∀t∈l,cW P Φ t)->Told P Φ (sigs l)
 |[],_,f,sg,h=>by simp[sigs] at h
 |t::l,hl,f,sg,h=>by
  simp only[sigs] at h
  cases ht:t.f==f with
  |true=>
   rw[ht] at h
   simp only[cond_true,Option.some.injEq] at h
   have:t.f=f:=by simpa using ht
   subst this
   subst h
   exact hl t (by simp)
  |false=>
   rw[ht] at h
   exact uc (l:=l) (fun t ht=>hl t (by simp[ht])) f sg h
theorem HC{P:Program}{Φ:Fns}{T:TypeId->TI}(tok:∀t,(T t).ok=true->TOk P T t) (hm:P.follows .mixedOrders=true) {l:List ah} (hl:∀t∈l,cW P Φ t) {t:ah} {fn:Func} {hs:List Hint} {vc:VC}
 (hf:P.funcs[t.f]? =some fn) (hn:fn.name≠ "runtime.NumGoroutine") (hlen:t.args.length<=fn.ntmps) (hv:C0 T (sigs l) hs fn t.args t.ax=some vc)
 (hw:∀ds,ds.length=t.args.length->vD t.args ds->(Φ t.f 1000 ds).ZZ=true->vc.wp Φ (fun l=>em (t.ax.flatMap RSh.cells) l (dG (fun c=>Φ t.f c ds) 0 t.ax)) ds fun _ _=>False) (hx:t.xs=none:=by rfl) (hbs:t.bs=none:=by rfl) (hso:t.so=none:=by rfl) (hnb:t.nb=none:=by rfl):cW P Φ t:=by
 refine⟨fun _=>(by rw[hso,hbs,hnb];exact KU tok hm (uc hl) hf hlen hv hw),fun l e=>(by rw[hx] at e;cases e),fn,hf,?_,hn⟩
 intro hb
 unfold C0 at hv
 rw[hb] at hv
 cases hv
theorem TU{P:Program}{Φ:Fns}{T:TypeId->TI}(tok:∀t,(T t).ok=true->TOk P T t) (hm:P.follows .mixedOrders=true) {l:List ah} (hl:∀t∈l,cW P Φ t) {t:ah} {fn:Func} {hs:List Hint} {vc:VC}
 (hf:P.funcs[t.f]? =some fn) (hn:fn.name≠ "runtime.NumGoroutine") (hlen:t.args.length<=fn.ntmps) (hv:C0 T (sigs l) hs fn t.args t.ax=some vc)
 (hw:∀ds,ds.length=t.args.length->vD t.args ds->(Φ t.f 1000 ds).ZZ=true->vc.wp Φ (fun l=>l=dG (fun c=>Φ t.f c ds) 0 t.ax) ds fun _ _=>False) (hx:t.xs=none:=by rfl) (hbs:t.bs=none:=by rfl) (hso:t.so=none:=by rfl) (hnb:t.nb=none:=by rfl):cW P Φ t:=
 HC tok hm hl hf hn hlen hv (fun ds h1 h2 h3=>VC.wp_mono (fun l h=>by rw[h];exact nH _ _) _ _ _ (hw ds h1 h2 h3)) hx hbs hso hnb
theorem N4{P:Program}{Φ:Fns}{T:TypeId->TI}(tok:∀t,(T t).ok=true->TOk P T t) (hm:P.follows .mixedOrders=true) {l:List ah} (hl:∀t∈l,cW P Φ t) {t:ah} {args:List BSh} {fn:Func} {hs:List Hint} {vc:VC}
 (hf:P.funcs[t.f]? =some fn) (hn:fn.name≠ "runtime.NumGoroutine") (hlen:args.length<=fn.ntmps) (hk:iA ((ed 0 args).2.map (·.1))=true) (hv:vcB T (sigs l) hs fn args t.ax=some vc)
 (hw:∀ds,ds.length=args.length->(Φ t.f 1000 ds).ZZ=true->vc.wp Φ (fun l=>em (t.ax.flatMap RSh.cells++oW args) l (dG (fun c=>Φ t.f c ds) 0 t.ax++bd (fun n=>Φ t.f (2000+n) ds) 0 args)) ds fun _ _=>False)
 (hx:t.xs=none:=by rfl) (hbs:t.bs=some args:=by rfl) (hso:t.so=none:=by rfl):cW P Φ t:=by
 refine⟨fun _=>(by rw[hso,hbs];exact Ln tok hm (uc hl) hf hlen hk hv hw),fun l e=>(by rw[hx] at e;cases e),fn,hf,?_,hn⟩
 intro hb
 unfold vcB at hv
 rw[hb] at hv
 cases hv
theorem kD{P:Program}{Φ:Fns}{T:TypeId->TI}(tok:∀t,(T t).ok=true->TOk P T t) (hm:P.follows .mixedOrders=true) {l:List ah} (hl:∀t∈l,cW P Φ t) {t:ah} {args:List BSh} {fn:Func} {hs:List Hint} {vc:VC}
 (hf:P.funcs[t.f]? =some fn) (hn:fn.name≠ "runtime.NumGoroutine") (hlen:args.length<=fn.ntmps) (hk:iA ((ed 0 args).2.map (·.1))=true) (hv:vcB T (sigs l) hs fn args t.ax=some vc)
 (hw:∀ds,ds.length=args.length->(Φ t.f 1000 ds).ZZ=true->vc.wp Φ (fun l=>l=dG (fun c=>Φ t.f c ds) 0 t.ax++bd (fun n=>Φ t.f (2000+n) ds) 0 args) ds fun _ _=>False)
 (hx:t.xs=none:=by rfl) (hbs:t.bs=some args:=by rfl) (hso:t.so=none:=by rfl):cW P Φ t:=
 N4 tok hm hl hf hn hlen hk hv (fun ds h1 h2=>VC.wp_mono (fun l h=>by rw[h];exact nH _ _) _ _ _ (hw ds h1 h2)) hx hbs hso
abbrev K.i:K:=.int .i64
namespace E
abbrev v:Nat->E:=.var
abbrev i:Int->E:=.int
abbrev b:Bool->E:=.bool
abbrev q(x y:E):E:=.op (.bin .eql .i64) [x,y]
abbrev n(x y:E):E:=.op (.bin .neq .i64) [x,y]
abbrev l(x y:E):E:=.op (.bin .lss .i64) [x,y]
abbrev l'(x y:E):E:=.op (.bin .leq .i64) [x,y]
abbrev g(x y:E):E:=.op (.bin .gtr .i64) [x,y]
abbrev g'(x y:E):E:=.op (.bin .geq .i64) [x,y]
abbrev a(x y:E):E:=.op (.bin .add .i64) [x,y]
abbrev s(x y:E):E:=.op (.bin .sub .i64) [x,y]
abbrev N(x:E):E:=.op .not [x]
abbrev I(x y z:E):E:=.op .ite [x,y,z]
abbrev O(x y:E):E:=.op .ite [x,.bool true,y]
abbrev X(x y:E):E:=.op .ite [x,y,.bool false]
abbrev Y(x y:E):E:=.op .ite [x,y,.bool true]
abbrev T:E:=.bool true
abbrev U:E:=.bool false
abbrev L(x:E):E:=.op .len [x]
abbrev r(x y:E):E:=.op .row [x,y]
abbrev f(j:Nat)(x:E):E:=.op (.fld j) [x]
abbrev F(f c:Nat)(es:List E):E:=.op (.fn f c) es
abbrev m(es:List E):E:=.op .mk es
abbrev z(x y:E):E:=.op .le [x,y]
abbrev t(x y:E):E:=.op .lt [x,y]
abbrev A(x:E):E:=.op .asl [x]
end E
def fs(j:Nat):Nat->E->List E
 |0,_=>[]
 |n+1,x=>E.f j x::fs (j+1) n x
def fsA(j:Nat):Nat->E->List E
 |0,_=>[]
 |n+1,x=>E.A (E.f j x)::fsA (j+1) n x
@[simp] theorem TG (j:Nat) (x:E):fsA j 0 x=[]:=rfl
@[simp] theorem Uw (j n:Nat) (x:E):fsA j (n+1) x=E.A (E.f j x)::fsA (j+1) n x:=rfl
@[simp] theorem Xd (j:Nat) (x:E):fs j 0 x=[]:=rfl
@[simp] theorem Xh (j n:Nat) (x:E):fs j (n+1) x=E.f j x::fs (j+1) n x:=rfl
end Go.Vx
namespace Go.Vx
open Go.RowKit (Below)
def ag(xs:List (List D))(i:Nat):List D:=xs.getD i []
theorem fu{xs:List (List D)}{i:Nat}(h:i<xs.length):ag xs i=xs[i]:=by simp[ag,h]
theorem iG{xs:List (List D)}{i:Nat}(h:i<xs.length):ag xs i∈xs:=by rw[fu h];exact List.getElem_mem _
@[simp] theorem sq (x:List D) (xs:List (List D)):ag (x::xs) 0=x:=rfl
@[simp] theorem PI (x:List D) (xs:List (List D)) (i:Nat):ag (x::xs) (i+1)=ag xs i:=by simp[ag]
def aD(p:List D->Nat):List (List D)->Nat
 |[]=>0
 |x::xs=>p x+aD p xs
def eqR(p:List D->List D->Bool):List (List D)->List (List D)->Bool
 |[],[]=>true
 |x::xs,y::ys=>p x y&&eqR p xs ys
 |_,_=>false
mutual
def szD:K->D->Nat
 | .int _,_=>0
 | .bool,_=>0
 | .str,d=>d.ao.size
 | .sl _ ks,d=>d.ae.length+aD (am ks) d.ae
def am:List K->List D->Nat
 |[],_=>0
 |k::ks,ds=>szD k (ds.headD default)+am ks ds.tail
end
mutual
def cnD:K->D->D
 | .int _,d=>d
 | .bool,d=>d
 | .str,d=>d
 | .sl _ ks,d=>.sl (d.ae.map (eY ks))
def eY:List K->List D->List D
 |[],_=>[]
 |k::ks,ds=>cnD k (ds.headD default)::eY ks ds.tail
end
mutual
def eqD:K->D->D->Bool
 | .int _,d,e=>decide (d.ZY=e.ZY)
 | .bool,d,e=>d.ZZ==e.ZZ
 | .str,d,e=>decide (d.ao=e.ao)
 | .sl _ ks,d,e=>eqR (aH ks) d.ae e.ae
def aH:List K->List D->List D->Bool
 |[],_,_=>true
 |k::ks,ds,es=>eqD k (ds.headD default) (es.headD default)&&aH ks ds.tail es.tail
end
theorem n6{p:List D->List D->Bool}(h:∀x,p x x=true):∀xs,eqR p xs xs=true
 |[]=>rfl
 |x::xs=>by simp[eqR,h,n6 h xs]
mutual
theorem Hh:∀(k:K)(d:D),eqD k d d=true
 | .int _,d=>by simp[eqD]
 | .bool,d=>by simp[eqD]
 | .str,d=>by simp[eqD]
 | .sl _ ks,d=>n6 (fun x=>kc ks x) d.ae
theorem kc:∀(ks:List K)(ds:List D),aH ks ds ds=true
 |[],_=>rfl
 |k::ks,ds=>by rw[aH,Hh k,kc ks];rfl
end
theorem bI(p:List D->Nat):∀(xs ys:List (List D)),aD p (xs++ys)=aD p xs+aD p ys
 |[],ys=>by simp[aD]
 |x::xs,ys=>by simp[aD,bI p xs ys];omega
theorem dC(p:List D->Nat){xs:List (List D)}{i:Nat}(h:i<xs.length):aD p (xs.take (i+1))=aD p (xs.take i)+p (ag xs i):=by
 rw[take_add_one,getElem?_eq_getElem h,bI]
 simp[aD,fu h]
theorem bO(p:List D->Nat){xs:List (List D)}{i:Nat}:aD p (xs.take i)<=aD p xs:=by
 conv=>rhs;rw[<-List.take_append_drop i xs,bI]
 omega
noncomputable def tt(p:Prop):Bool:= @decide p (Classical.propDecidable p)
@[simp] theorem bW (p:Prop):(tt p=true)=p:=by simp[tt]
@[simp] theorem bM (p:Prop):(tt p=false)=¬p:=by simp[tt]
theorem ca{p:Prop}{i:Decidable p}: @decide p i=tt p:=by by_cases h:p<;>simp[h,tt]
@[simp] theorem XC (p q:Prop):(tt p&&tt q)=tt (p∧q):=by rw[Bool.eq_iff_iff];simp
@[simp] theorem ZR (p:Prop):(!tt p)=tt (¬p):=by rw[Bool.eq_iff_iff];simp
@[simp] theorem yX:tt True=true:=by simp
@[simp] theorem vo:tt False=false:=by simp
@[simp] theorem Y8 (p q:Prop):(tt p=tt q)=(p↔q):=by rw[Bool.eq_iff_iff];simp
theorem w64{n:Int}(h: -9223372036854775808<=n)(h':n<=9223372036854775807):IntKind.i64.wrap n=n:=by
 simp[IntKind.wrap,IntKind.bits,IntKind.signed]
 omega
theorem EI{n:Int}:inR .i64 n↔ -9223372036854775808<=n∧n<=9223372036854775807:=by
 simp[inR,IntKind.min,IntKind.max,IntKind.bits,IntKind.signed]
section
variable {x y:Int}
@[simp] theorem qJ {k:IntKind}:lV .add k x y= .int (k.wrap (x+y)):=rfl
@[simp] theorem lO {k:IntKind}:lV .sub k x y= .int (k.wrap (x - y)):=rfl
@[simp] theorem Ud {k:IntKind}:lV .mul k x y= .int (k.wrap (x*y)):=rfl
@[simp] theorem Tj {k:IntKind}:lV .quo k x y= .int (k.wrap (x.tdiv y)):=rfl
@[simp] theorem W0 {k:IntKind}:lV .rem k x y= .int (x.tmod y):=rfl
@[simp] theorem Sp {k:IntKind}:lV .eql k x y= .bool (tt (x=y)):=by rw[<-ca];rfl
@[simp] theorem HU {k:IntKind}:lV .neq k x y= .bool (!tt (x=y)):=by rw[<-ca];rfl
@[simp] theorem ep {k:IntKind}:lV .lss k x y= .bool (tt (x<y)):=by rw[<-ca];rfl
@[simp] theorem WW {k:IntKind}:lV .leq k x y= .bool (tt (x<=y)):=by rw[<-ca];rfl
@[simp] theorem R6 {k:IntKind}:lV .gtr k x y= .bool (tt (y<x)):=by rw[<-ca];rfl
@[simp] theorem V7 {k:IntKind}:lV .geq k x y= .bool (tt (y<=x)):=by rw[<-ca];rfl
end
section
variable {x y:ByteArray}
@[simp] theorem WS:ze .add x y= .str (x++y):=rfl
@[simp] theorem V2:ze .eql x y= .bool (tt (x=y)):=by rw[<-ca];rfl
@[simp] theorem UH:ze .neq x y= .bool (!tt (x=y)):=by rw[<-ca];rfl
@[simp] theorem TW:ze .lss x y= .bool (Op.bytesLess x.toList y.toList):=rfl
@[simp] theorem RS:ze .geq x y= .bool (!Op.bytesLess x.toList y.toList):=rfl
end
@[simp] theorem D.fj (r:List D):(D.sl [r]).row=r:=rfl
theorem FG{B:Nat->List D->Prop}{l:Nat}{p:List D->Prop}:eC B l p l=p:=by simp[eC]
theorem cU{B:Nat->List D->Prop}{l j:Nat}{p:List D->Prop}(h:j≠l):eC B l p j=B j:=by simp[eC,h]
theorem bE(k:IntKind)(d e:D):eqD (.int k) d e=tt (d.ZY=e.ZY):=by rw[<-ca];rfl
theorem bl(d e:D):eqD .bool d e=(d.ZZ==e.ZZ):=rfl
theorem bA(d e:D):eqD .str d e=tt (d.ao=e.ao):=by rw[<-ca];rfl
theorem cD(t:TypeId)(ks:List K)(d e:D):eqD (.sl t ks) d e=eqR (aH ks) d.ae e.ae:=rfl
end Go.Vx
namespace Go.Vx
open Go.RowKit (Below)
def cell(r:List D)(j:Nat):D:=r.getD j default
def rowAt(xs:List (List D))(i:Int):List D:=ag xs i.toNat
@[simp] theorem bf (r:List D) (j:Nat):cell r.tail j=cell r (j+1):=by cases r<;>simp[cell]
@[simp] theorem aq (d:D) (r:List D):cell (d::r) 0=d:=rfl
@[simp] theorem ay (d:D) (r:List D) (j:Nat):cell (d::r) (j+1)=cell r j:=by simp[cell]
theorem eH(r:List D):r.headD default=cell r 0:=by cases r<;>rfl
section
variable {Φ:Fns} {env:List D}
@[simp] theorem bF (i:Nat):(E.var i).den Φ env=cell env i:=rfl
@[simp] theorem eM (n:Int):(E.int n).den Φ env= .int n:=rfl
@[simp] theorem B1 (b:Bool):(E.bool b).den Φ env= .bool b:=rfl
@[simp] theorem Xu (s:ByteArray):(E.str s).den Φ env= .str s:=rfl
@[simp] theorem Zh:E.nl.den Φ env= .sl []:=rfl
@[simp] theorem b9 (o:Opn) (es:List E):(E.op o es).den Φ env=opD Φ o (E.bC Φ env es):=rfl
@[simp] theorem a8:E.bC Φ env []=[]:=rfl
@[simp] theorem aS (e:E) (es:List E):E.bC Φ env (e::es)=e.den Φ env::E.bC Φ env es:=rfl
section
variable (a b c:D)
@[simp] theorem eT (op:BinOp) (k:IntKind):opD Φ (.bin op k) [a,b]=lV op k a.ZY b.ZY:=rfl
@[simp] theorem Xn (op:BinOp):opD Φ (.eF op) [a,b]=ze op a.ao b.ao:=rfl
@[simp] theorem Yj:opD Φ .beq [a,b]= .bool (a.ZZ==b.ZZ):=rfl
@[simp] theorem YC:opD Φ .bne [a,b]= .bool (a.ZZ != b.ZZ):=rfl
@[simp] theorem Yd:opD Φ .not [a]= .bool (!a.ZZ):=rfl
@[simp] theorem X4:opD Φ .and [a,b]= .bool (a.ZZ&&b.ZZ):=rfl
@[simp] theorem Zq (k:IntKind):opD Φ (.neg k) [a]= .int (k.wrap (0 - a.ZY)):=rfl
@[simp] theorem Xb (k:IntKind):opD Φ (.wrap k) [a]= .int (k.wrap a.ZY):=rfl
@[simp] theorem X6 (k:IntKind):opD Φ (.shr k) [a,b]= .int (a.ZY.fdiv (2^min b.ZY.toNat k.bits)):=rfl
@[simp] theorem Xk:opD Φ .vn [a,b]= .int (a.ao.toList.getD b.ZY.toNat 0).toNat:=rfl
@[simp] theorem KZ:opD Φ .iM [a]= .int a.ao.size:=rfl
@[simp] theorem mj:opD Φ .len [a]= .int a.ae.length:=rfl
@[simp] theorem Xz:opD Φ .ssub [a,b,c]= .str (a.ao.extract b.ZY.toNat c.ZY.toNat):=rfl
@[simp] theorem Zk:opD Φ .ite [a,b,c]=bif a.ZZ then b else c:=by show(if a.ZZ=true then b else c)=_;cases a.ZZ<;>rfl
@[simp] theorem G2:opD Φ .row [a,b]= .sl [rowAt a.ae b.ZY]:=rfl
@[simp] theorem Ok (j:Nat):opD Φ (.fld j) [a]=cell a.row j:=rfl
@[simp] theorem ZX (ds:List D):opD Φ .mk ds= .sl [ds]:=rfl
@[simp] theorem KP (j:Nat) (ds:List D):opD Φ (.rput j) (a::ds)= .sl [a.row.take j++ds++a.row.drop (j+ds.length)]:=rfl
@[simp] theorem Kz:opD Φ .fT [a,b,c]= .sl (a.ae.set b.ZY.toNat c.row):=rfl
@[simp] theorem Xr:opD Φ .lapp [a,b]= .sl (a.ae++b.ae):=rfl
@[simp] theorem YY:opD Φ .cut [a,b,c]= .sl ((a.ae.drop b.ZY.toNat).take c.ZY.toNat):=rfl
@[simp] theorem XY:opD Φ .rep [a,b]= .sl (List.replicate a.ZY.toNat b.row):=rfl
@[simp] theorem MP:opD Φ .le [a,b]= .bool (tt (a.ZY<=b.ZY)):=by rw[<-ca];rfl
@[simp] theorem MT:opD Φ .lt [a,b]= .bool (tt (a.ZY<b.ZY)):=by rw[<-ca];rfl
@[simp] theorem ZV:opD Φ .nz [a]= .bool (tt (a.ZY≠0)):=by rw[<-ca];rfl
@[simp] theorem XN:opD Φ .eqi [a,b]= .bool (tt (a.ZY=b.ZY)):=by rw[<-ca];rfl
@[simp] theorem PG:opD Φ .strfit [a,b]= .bool (tt (a.ao.size+b.ao.size<=al)):=by rw[<-ca];rfl
@[simp] theorem PA (m:Nat):opD Φ (.appfit m) [a,b]= .bool (tt (a.ae.length+b.ae.length<=al∧(a.ae.length+b.ae.length)*m<=140737488355328)):=by rw[<-ca];rfl
@[simp] theorem T7 (m:Nat):opD Φ (.mkfit m) [a]= .bool (tt (0<=a.ZY∧a.ZY.toNat<=al∧a.ZY.toNat*m<=140737488355328)):=by rw[<-ca];rfl
@[simp] theorem GD (n:Nat):opD Φ (.rowlen n) [a]= .bool (tt (a.row.length=n)):=by rw[<-ca];rfl
@[simp] theorem Xs:opD Φ .KT [a,b]= .int ((a.ZY.toNat+b.ZY.toNat:Nat)):=rfl
@[simp] theorem Xt:opD Φ .subn [a,b]= .int ((a.ZY.toNat - b.ZY.toNat:Nat)):=rfl
@[simp] theorem NJ:opD Φ .asl [a]= .sl a.ae:=rfl
@[simp] theorem H6:opD Φ .ltlen [a,b]= .bool (tt (a.ZY.toNat<b.ae.length)):=by rw[<-ca];rfl
@[simp] theorem Xg:opD Φ .bstr [a]= .str (bytesOf a.ae):=rfl
@[simp] theorem jG (f j:Nat) (ds:List D):opD Φ (.fn f j) ds=Φ f j ds:=rfl
end
section
variable {post:List D->Prop} {B:Nat->List D->Prop}
@[simp] theorem dq:conj Φ env []=True:=rfl
@[simp] theorem ci (c:E) (cs:List E):conj Φ env (c::cs)=((c.den Φ env).ZZ=true∧conj Φ env cs):=rfl
@[simp] theorem yh (p:Prop):kinds env [] p=p:=rfl
@[simp] theorem wu (k:K) (i:Nat) (l:List (K×Nat)) (p:Prop):kinds env ((k,i)::l) p=(WFD k (cell env i)->kinds env l p):=rfl
@[simp] theorem aJ (cs:List E) (t:VC):(VC.req cs t).wp Φ post env B=(conj Φ env cs∧t.wp Φ post env B):=rfl
@[simp] theorem aO (c:E) (x y:VC):(VC.ite c x y).wp Φ post env B=(((c.den Φ env).ZZ=true->x.wp Φ post env B)∧((c.den Φ env).ZZ=false->y.wp Φ post env B)):=rfl
@[simp] theorem dO (l:Nat) (es:List E):(VC.back l es).wp Φ post env B=B l (es.map (E.den Φ env)):=rfl
@[simp] theorem mG (es:List E):(VC.ret es).wp Φ post env B=post (es.map (E.den Φ env)):=rfl
theorem wp_loop'{id l m:Nat}{fs:List (K×Nat)}{init:List E}{body:VC}(I:List D->Prop)(μ:List D->Nat)(h0:I (init.map (E.den Φ env)))
 (hI:ua m fun vs=>kinds (env++vs) fs (I vs->body.wp Φ post (env++vs) (eC B l fun v=>I v∧μ v<μ vs))):(VC.loop id l m fs init body).wp Φ post env B:=⟨I,μ,h0,hI⟩
end
end
@[simp] theorem cz (p:List D->Prop):ua 0 p=p []:=rfl
@[simp] theorem cA (n:Nat) (p:List D->Prop):ua (n+1) p=∀d:D,ua n fun l=>p (d::l):=rfl
@[simp] theorem dD (B:Nat->List D->Prop) (l:Nat) (p:List D->Prop):eC B l p l=p:=FG
@[simp] theorem Xy (k:IntKind) (d:D):WFD (.int k) d=inR k d.ZY:=rfl
@[simp] theorem ST (d:D):WFD .bool d=True:=rfl
@[simp] theorem Xj (d:D):WFD .str d=(d.ao.size<=al):=rfl
@[simp] theorem Zf (e:TypeId) (ks:List K) (d:D):WFD (.sl e ks) d=(d.ae.length<=al):=rfl
@[simp] theorem Xp (k:IntKind) (d:D):WFa (.int k) d=inR k d.ZY:=rfl
@[simp] theorem RU (d:D):WFa .bool d=True:=rfl
@[simp] theorem XA (d:D):WFa .str d=(d.ao.size<=al):=rfl
@[simp] theorem Zr (e:TypeId) (ks:List K) (d:D):WFa (.sl e ks) d=(d.ae.length<=al∧∀row,row∈d.ae->sT ks row):=rfl
@[simp] theorem Sf (r:List D):sT [] r=True:=rfl
@[simp] theorem xj (k:K) (ks:List K) (r:List D):sT (k::ks) r=(WFa k (cell r 0)∧sT ks r.tail):=by rw[sT,eH]
@[simp] theorem Xx (k:K) (d:D):WFA (.one k) d=WFa k d:=rfl
@[simp] theorem Xl (ks:List K) (d:D):WFA (.agg ks) d=sT ks d.row:=rfl
@[simp] theorem Xi (ks:List K) (d:D):WFA (.pim ks) d=sT ks d.row:=rfl
@[simp] theorem RX (ds:List D):vD [] ds=True:=rfl
@[simp] theorem PN (s:ASh) (ss:List ASh) (d:D) (ds:List D):vD (s::ss) (d::ds)=(WFA s d∧vD ss ds):=rfl
theorem aA(r:List D):am [] r=0:=rfl
theorem aw(k:K)(ks:List K)(r:List D):am (k::ks) r=szD k (cell r 0)+am ks r.tail:=by rw[am,eH]
theorem fA(r:List D):eY [] r=[]:=rfl
theorem cw(k:K)(ks:List K)(r:List D):eY (k::ks) r=cnD k (cell r 0)::eY ks r.tail:=by rw[eY,eH]
theorem a7(r s:List D):aH [] r s=true:=rfl
theorem aR(k:K)(ks:List K)(r s:List D):aH (k::ks) r s=(eqD k (cell r 0) (cell s 0)&&aH ks r.tail s.tail):=by rw[aH,eH,eH]
@[simp] theorem PC (φ:Nat->D) (c:Nat):dG φ c []=[]:=rfl
@[simp] theorem Pe (φ:Nat->D) (c:Nat) (r:RSh) (rs:List RSh):dG φ c (r::rs)=r.ds (φ c)++dG φ (c+1) rs:=rfl
def cellsOf:Nat->Nat->List D->List D
 |0,_,_=>[]
 |n+1,j,r=>cell r j::cellsOf n (j+1) r
theorem wA(r:List D):∀n j,(List.range' j n).map (fun i=>r.getD i default)=cellsOf n j r
 |0,j=>rfl
 |n+1,j=>by rw[List.range'_succ,map_cons,wA r n (j+1)];rfl
@[simp] theorem Yf (c:RC) (d:D):(RSh.one c).ds d=[d]:=rfl
@[simp] theorem Y0 (cs:List RC) (d:D):(RSh.agg cs).ds d=cellsOf cs.length 0 d.row:=by
 show(List.range cs.length).map (fun j=>d.row.getD j default)=_
 rw[List.range_eq_range',wA]
@[simp] theorem Lz (j:Nat) (r:List D):cellsOf 0 j r=[]:=rfl
@[simp] theorem Lg (n j:Nat) (r:List D):cellsOf (n+1) j r=cell r j::cellsOf n (j+1) r:=rfl
theorem args1{p:List D->Prop}(h:∀a,p [a]):∀ds:List D,ds.length=1->p ds
 |[a],_=>h a
theorem args2{p:List D->Prop}(h:∀a b,p [a,b]):∀ds:List D,ds.length=2->p ds
 |[a,b],_=>h a b
theorem mZ{p:List D->Prop}(h:∀a b c,p [a,b,c]):∀ds:List D,ds.length=3->p ds
 |[a,b,c],_=>h a b c
theorem VI{p:List D->Prop}(h:∀a b c d,p [a,b,c,d]):∀ds:List D,ds.length=4->p ds
 |[a,b,c,d],_=>h a b c d
noncomputable def con(pre:List D->Prop)(f:Nat->List D->D)(c:Nat)(ds:List D):D:=if c=1000 then .bool (tt (pre ds)) else f c ds
@[simp] theorem fV (pre:List D->Prop) (f:Nat->List D->D) (ds:List D):((con pre f 1000 ds).ZZ=true)=pre ds:=by simp[con]
@[simp] theorem OV (pre:List D->Prop) (f:Nat->List D->D) (ds:List D):(con pre f 1000 ds).ZZ=tt (pre ds):=rfl
@[simp] theorem dM (pre:List D->Prop) (f:Nat->List D->D) (ds:List D):con pre f 0 ds=f 0 ds:=rfl
@[simp] theorem Xw (pre:List D->Prop) (f:Nat->List D->D) (ds:List D):con pre f 1 ds=f 1 ds:=rfl
@[simp] theorem Mp (c:Bool) (x y:D):(bif c then x else y).ZZ=bif c then x.ZZ else y.ZZ:=by cases c<;>rfl
@[simp] theorem Ng (c:Bool) (x y:D):(bif c then x else y).ZY=bif c then x.ZY else y.ZY:=by cases c<;>rfl
@[simp] theorem Ps (c:Bool) (x y:D):(bif c then x else y).ao=bif c then x.ao else y.ao:=by cases c<;>rfl
@[simp] theorem Mj (c:Bool) (x y:D):(bif c then x else y).ae=bif c then x.ae else y.ae:=by cases c<;>rfl
@[simp] theorem PE (c:Bool) (x y:Bool):(bif c then D.bool x else D.bool y)=D.bool (bif c then x else y):=by cases c<;>rfl
@[simp] theorem WI (c:Bool) (x y:Int):(bif c then D.int x else D.int y)=D.int (bif c then x else y):=by cases c<;>rfl
theorem Ea(c x y:Bool):((bif c then x else y)=true)=((c=true->x=true)∧(c=false->y=true)):=by cases c<;>simp
@[simp] theorem cond_true_right (c x:Bool):(bif c then x else true)=(!c||x):=by cases c<;>rfl
@[simp] theorem cond_false_right (c x:Bool):(bif c then x else false)=(c&&x):=by cases c<;>rfl
@[simp] theorem cond_true_left (c x:Bool):(bif c then true else x)=(c||x):=by cases c<;>rfl
@[simp] theorem cond_false_left (c x:Bool):(bif c then false else x)=(!c&&x):=by cases c<;>rfl
@[simp] theorem NX (ds ds':List D):em [] ds ds'=True:=rfl
@[simp] theorem LL (c:RC) (cs:List RC) (a b:D) (ds ds':List D):em (c::cs) (a::ds) (b::ds')=(Jt c a b∧em cs ds ds'):=rfl
@[simp] theorem Xe (k:K) (a b:D):Jt (.im k) a b=eqK k a b:=rfl
@[simp] theorem W8 (e:TypeId) (ks:List K) (dp:Bool) (a b:D):Jt (.own e ks dp) a b=(a.ae=b.ae):=rfl
@[simp] theorem Xm (k:IntKind) (a b:D):eqK (.int k) a b=(a.ZY=b.ZY):=rfl
@[simp] theorem SD (a b:D):eqK .bool a b=(a.ZZ=b.ZZ):=rfl
@[simp] theorem Xv (a b:D):eqK .str a b=(a.ao=b.ao):=rfl
@[simp] theorem XV (e:TypeId) (ks:List K) (a b:D):eqK (.sl e ks) a b=(a.ae=b.ae):=rfl
end Go.Vx
namespace Go.Vx
open Go.RowKit (Below)
theorem oh:∀(ks:List K)(r:List D),(eY ks r).length=ks.length
 |[],_=>rfl
 |k::ks,r=>by simp[eY,oh ks]
theorem af(xs:List (List D))(i:Nat):rowAt xs (i:Int)=ag xs i:=by simp[rowAt]
def mkE(x i:E):E:=.op .row [x,i]
section
variable {Φ:Fns} {env:List D}
@[simp] theorem dZ (x i:E):(mkE x i).den Φ env= .sl [rowAt (x.den Φ env).ae (i.den Φ env).ZY]:=rfl
end
theorem s4{Φ:Fns}{env:List D}:∀(cs ds:List E),conj Φ env (cs++ds)=(conj Φ env cs∧conj Φ env ds)
 |[],ds=>by simp
 |c::cs,ds=>by simp[s4 cs ds,and_assoc]
def szM(n:Nat)(l:Int):Int:=if l<n then -1 else l - n
theorem qG{n:Nat}{l:Int}(h:l<n):szM n l= -1:=if_pos h
theorem uj{n:Nat}{l:Int}(h:(n:Int)<=l):szM n l=l - n:=if_neg (by omega)
def cS(ds:List D):Prop:=0<=(cell ds 1).ZY∧(cell ds 1).ZY<=1048576
noncomputable def dY(ks:List K):Nat->List D->D:=con cS fun _ ds=>.int (szM (am ks (cell ds 0).row) (cell ds 1).ZY)
noncomputable def dT(ks:List K):Nat->List D->D:=con cS fun _ ds=>.int (szM ((cell ds 0).ae.length+aD (am ks) (cell ds 0).ae) (cell ds 1).ZY)
def szV(c:Nat):VC:=.ite (.op (.bin .lss .i64) [.op (.bin .sub .i64) [.var 1,.op .len [.var 0]],.int 0]) (.ret [.int (-1)])
 (.loop 5 0 2 [(.int .i64,2),(.int .i64,3)] [.op (.bin .sub .i64) [.var 1,.op .len [.var 0]],.int 0]
   (.ite (.op (.bin .lss .i64) [.var 3,.op .len [.var 0]])
     (.req [.op .le [.int 0,.var 3],.op .lt [.var 3,.op .len [.var 0]],.op (.fn c 1000) [mkE (.var 0) (.var 3),.var 2]]
       (.ite (.op (.bin .lss .i64) [.op (.fn c 0) [mkE (.var 0) (.var 3),.var 2],.int 0]) (.ret [.int (-1)])
         (.back 0 [.op (.fn c 0) [mkE (.var 0) (.var 3),.var 2],.op (.bin .add .i64) [.var 3,.int 1]])))
     (.ret [.var 2])))
theorem mD{Φ:Fns}{c:Nat}{ks:List K}(hΦ:Φ c=dY ks){a b:D}(ha:a.ae.length<=al)(hb:0<=b.ZY∧b.ZY<=1048576)(B:Nat->List D->Prop):
 (szV c).wp Φ (fun l=>l=[.int (szM (a.ae.length+aD (am ks) a.ae) b.ZY)]) [a,b] B:=by
 have hl:(a.ae.length:Int)<=140737488355328:=by simp only[al] at ha;omega
 have w1:IntKind.i64.wrap (b.ZY - a.ae.length)=b.ZY - a.ae.length:=w64 (by omega) (by omega)
 simp only[szV,aO,b9,aS,a8,bF,eT,mj,lO,ep,eM,D.aI,D.aK,bW,bM,aq,ay,w1]
 refine⟨fun h=> ?_,fun h=> ?_⟩
 · simp[szM]
   omega
 · refine wp_loop' (fun v=>∃i:Nat,v=[.int (b.ZY - a.ae.length - aD (am ks) (a.ae.take i)),.int i]∧i<=a.ae.length∧0<=b.ZY - a.ae.length - aD (am ks) (a.ae.take i))
    (fun v=>a.ae.length - (cell v 1).ZY.toNat) ⟨0,by simp[aD,w1],by omega,by simp[aD];omega⟩ ?_
   simp
   intro d e _ _ i hd he hi hnn
   subst hd he
   have hsm:=bO (am ks) (xs:=a.ae) (i:=i)
   refine⟨fun hlt=> ?_,fun hge=> ?_⟩
   · have hlt':i<a.ae.length:=by simpa using hlt
     simp[hΦ,dY,cS,af]
     have hst:=dC (am ks) hlt'
     refine⟨⟨by omega,by omega,by omega⟩,fun h1=> ?_,fun h1=> ?_⟩
     · have hs2:=bO (am ks) (xs:=a.ae) (i:=i+1)
       simp only[szM] at h1⊢
       split at h1<;>split<;>omega
     · simp only[szM] at h1⊢
       split at h1
       · omega
       · rename_i h2
         refine⟨⟨i+1,⟨?_,?_⟩,by omega,?_⟩,?_⟩
         · rw[if_neg h2,hst];simp only[natCast_add];omega
         · rw[w64 (by omega) (by omega)];simp
         · rw[hst];simp only[natCast_add];omega
         · rw[w64 (by omega) (by omega)];omega
   · have hi':i=a.ae.length:=by simp at hge;omega
     subst hi'
     simp[szM] at hnn⊢
     omega
inductive St1 where
 |s (e:E)
 |l (e:E)
 |c (f:Nat) (e:E)
def AL:List St1->E->VC
 |[],L=>.ret [L]
 | .s e::st,L=>.ite (.op (.bin .lss .i64) [.op (.bin .sub .i64) [L,.op .iM [e]],.int 0]) (.ret [.int (-1)]) (AL st (.op (.bin .sub .i64) [L,.op .iM [e]]))
 | .l e::st,L=>.ite (.op (.bin .lss .i64) [.op (.bin .sub .i64) [L,.op .len [e]],.int 0]) (.ret [.int (-1)]) (AL st (.op (.bin .sub .i64) [L,.op .len [e]]))
 | .c f e::st,L=>.req [.op (.fn f 1000) [e,L]] (.ite (.op (.bin .lss .i64) [.op (.fn f 0) [e,L],.int 0]) (.ret [.int (-1)]) (AL st (.op (.fn f 0) [e,L])))
def pQ(Φ:Fns)(env:List D):List St1->List Nat->Prop
 |[],[]=>True
 | .s e::st,n::ns=>((e.den Φ env).ao.size=n∧n<=al)∧pQ Φ env st ns
 | .l e::st,n::ns=>((e.den Φ env).ae.length=n∧n<=al)∧pQ Φ env st ns
 | .c f e::st,n::ns=>(∀d:D,0<=d.ZY->d.ZY<=1048576->(Φ f 1000 [e.den Φ env,d]).ZZ=true∧Φ f 0 [e.den Φ env,d]= .int (szM n d.ZY))∧pQ Φ env st ns
 |_,_=>False
def eW:List Nat->Nat
 |[]=>0
 |n::ns=>n+eW ns
theorem fL{Φ:Fns}{env:List D}{B:Nat->List D->Prop}:∀(st:List St1)(ns:List Nat)(L:E)(l:Int),pQ Φ env st ns->(L.den Φ env).ZY=l->(st=[]->L.den Φ env= .int l)->0<=l->l<=1048576->
 (AL st L).wp Φ (fun r=>r=[.int (szM (eW ns) l)]) env B
 |[],[],L,l,_,_,h,h0,_=>by
  simp only[AL,mG,map_cons,map_nil,h rfl,eW]
  rw[uj (by simpa using h0)];simp
 |[],_::_,_,_,h,_,_,_,_=>h.elim
 | .s _::_,[],_,_,h,_,_,_,_=>h.elim
 | .l _::_,[],_,_,h,_,_,_,_=>h.elim
 | .c _ _::_,[],_,_,h,_,_,_,_=>h.elim
 | .s e::st,n::ns,L,l,h,hL,_,h0,h1=>by
   obtain⟨⟨rfl,hm⟩,h⟩:=h
   have hm':((e.den Φ env).ao.size:Int)<=140737488355328:=by simp only[al] at hm;omega
   have hw:IntKind.i64.wrap (l - (e.den Φ env).ao.size)=l - (e.den Φ env).ao.size:=w64 (by omega) (by omega)
   simp only[AL,aO,b9,aS,a8,eT,KZ,lO,ep,eM,D.aI,D.aK,bW,bM,hL,hw]
   refine⟨fun hn=> ?_,fun hn=> ?_⟩
   · simp only[mG,map_cons,map_nil,eM,eW]
     rw[qG (by simp only[natCast_add];omega)]
   · have:=fL (Φ:=Φ) (env:=env) (B:=B) st ns (.op (.bin .sub .i64) [L,.op .iM [e]]) (l - (e.den Φ env).ao.size) h (by simp[hL,hw]) (fun _=>by simp[hL,hw]) (by omega) (by omega)
     have e1:szM (eW ((e.den Φ env).ao.size::ns)) l=szM (eW ns) (l - (e.den Φ env).ao.size):=by
      rw[show eW ((e.den Φ env).ao.size::ns)=(e.den Φ env).ao.size+eW ns from rfl]
      unfold szM
      split<;>split<;>omega
     rw[e1]
     exact this
 | .l e::st,n::ns,L,l,h,hL,_,h0,h1=>by
   obtain⟨⟨rfl,hm⟩,h⟩:=h
   have hm':((e.den Φ env).ae.length:Int)<=140737488355328:=by simp only[al] at hm;omega
   have hw:IntKind.i64.wrap (l - (e.den Φ env).ae.length)=l - (e.den Φ env).ae.length:=w64 (by omega) (by omega)
   simp only[AL,aO,b9,aS,a8,eT,mj,lO,ep,eM,D.aI,D.aK,bW,bM,hL,hw]
   refine⟨fun hn=> ?_,fun hn=> ?_⟩
   · simp only[mG,map_cons,map_nil,eM,eW]
     rw[qG (by simp only[natCast_add];omega)]
   · have:=fL (Φ:=Φ) (env:=env) (B:=B) st ns (.op (.bin .sub .i64) [L,.op .len [e]]) (l - (e.den Φ env).ae.length) h (by simp[hL,hw]) (fun _=>by simp[hL,hw]) (by omega) (by omega)
     have e1:szM (eW ((e.den Φ env).ae.length::ns)) l=szM (eW ns) (l - (e.den Φ env).ae.length):=by
      rw[show eW ((e.den Φ env).ae.length::ns)=(e.den Φ env).ae.length+eW ns from rfl]
      unfold szM
      split<;>split<;>omega
     rw[e1]
     exact this
 | .c f e::st,n::ns,L,l,h,hL,_,h0,h1=>by
   obtain⟨hf,h⟩:=h
   obtain⟨f1,f2⟩:=hf (L.den Φ env) (by omega) (by omega)
   rw[hL] at f2
   simp only[AL,aJ,aO,ci,dq,b9,aS,a8,eT,jG,ep,eM,D.aI,D.aK,bW,bM,f1,f2,and_true,true_and]
   refine⟨fun hn=> ?_,fun hn=> ?_⟩
   · have hn':l<n:=by
      rcases Int.lt_or_le l n with h'|h'
      · exact h'
      · rw[uj h'] at hn;omega
     simp only[mG,map_cons,map_nil,eM,eW]
     rw[qG (by simp only[natCast_add];omega)]
   · have hn':szM n l=l - n:=by
      rcases Int.lt_or_le l n with h'|h'
      · rw[qG h'] at hn;omega
      · exact uj h'
     have:=fL (Φ:=Φ) (env:=env) (B:=B) st ns (.op (.fn f 0) [e,L]) (l - n) h (by simp[f2,hn']) (fun _=>by simp[f2,hn']) (by rw[hn'] at hn;omega) (by omega)
     have e1:szM (eW (n::ns)) l=szM (eW ns) (l - n):=by
      rw[hn'] at hn
      rw[show eW (n::ns)=n+eW ns from rfl]
      unfold szM
      split<;>split<;>omega
     rw[e1]
     exact this
noncomputable def aN(ks:List K):Nat->List D->D:=con (fun _=>True) fun _ ds=>.bool (aH ks (cell ds 0).row (cell ds 1).row)
noncomputable def aF(ks:List K):Nat->List D->D:=con (fun _=>True) fun _ ds=>.bool (eqR (aH ks) (cell ds 0).ae (cell ds 1).ae)
theorem Ey{p:List D->List D->Bool}:∀{xs ys:List (List D)},xs.length≠ys.length->eqR p xs ys=false
 |[],[],h=>by simp at h
 |[],_::_,_=>rfl
 |_::_,[],_=>rfl
 |x::xs,y::ys,h=>by simp[eqR,Ey (p:=p) (xs:=xs) (ys:=ys) (by simpa using h)]
theorem A9{p:List D->List D->Bool}:∀{xs ys:List (List D)}{i:Nat},i<xs.length->i<ys.length->eqR p (xs.take (i+1)) (ys.take (i+1))=(eqR p (xs.take i) (ys.take i)&&p (ag xs i) (ag ys i))
 |x::xs,y::ys,0,_,_=>by simp[eqR]
 |x::xs,y::ys,i+1,h,h'=>by
  have:=A9 (p:=p) (xs:=xs) (ys:=ys) (i:=i) (by simpa using h) (by simpa using h')
  simp only[List.take_succ_cons,eqR] at this⊢
  rw[this,Bool.and_assoc]
  simp
theorem yb{p:List D->List D->Bool}:∀{xs ys:List (List D)}{i:Nat},i<xs.length->i<ys.length->p (ag xs i) (ag ys i)=false->eqR p xs ys=false
 |x::xs,y::ys,0,_,_,h=>by simp at h;simp[eqR,h]
 |x::xs,y::ys,i+1,h,h',hp=>by
  simp[eqR,yb (p:=p) (xs:=xs) (ys:=ys) (i:=i) (by simpa using h) (by simpa using h') (by simpa using hp)]
def NL(tests:List E)(t:E):VC:=.ite (.op (.bin .neq .i64) [.op .len [.var 0],.op .len [.var 1]]) (.ret [.bool false])
 (.loop 4 0 1 [(.int .i64,2)] [.int 0] (.ite (.op (.bin .lss .i64) [.var 2,.op .len [.var 0]])
   (.req ([.op .le [.int 0,.var 2],.op .lt [.var 2,.op .len [.var 0]],.op .lt [.var 2,.op .len [.var 1]]]++tests)
     (.ite t (.ret [.bool false]) (.back 0 [.op (.bin .add .i64) [.var 2,.int 1]])))
   (.ret [.bool true])))
def eqV(tests:List E)(t:E):VC:=NL tests (.op .not [t])
theorem oD{Φ:Fns}{tests:List E}{t:E}{p:List D->List D->Bool}{a b:D}(ha:a.ae.length<=al)
 (ht:∀i:Nat,i<a.ae.length->i<b.ae.length->conj Φ [a,b,.int i] tests∧(t.den Φ [a,b,.int i]).ZZ= !p (ag a.ae i) (ag b.ae i)) (B:Nat->List D->Prop):
 (NL tests t).wp Φ (fun l=>l=[.bool (eqR p a.ae b.ae)]) [a,b] B:=by
 have hl:(a.ae.length:Int)<=140737488355328:=by simp only[al] at ha;omega
 simp only[NL,aO,b9,aS,a8,bF,eT,mj,HU,D.aI,D.aK,aq,ay]
 refine⟨fun h=> ?_,fun h=> ?_⟩
 · simp at h⊢
   exact Ey fun e=>h (by rw[e])
 · have hlen:a.ae.length=b.ae.length:=by simp at h;omega
   refine wp_loop' (fun v=>∃i:Nat,v=[.int i]∧i<=a.ae.length∧eqR p (a.ae.take i) (b.ae.take i)=true) (fun v=>a.ae.length - (cell v 0).ZY.toNat) ⟨0,by simp,by omega,by simp[eqR]⟩ ?_
   simp only[cA,cz,wu,yh,cons_append,nil_append]
   rintro d _ ⟨i,hd,hi,he⟩
   simp only[List.cons.injEq,and_true] at hd
   subst hd
   simp only[aO,b9,aS,a8,bF,eT,mj,ep,D.aI,D.aK,aq,ay,bW,bM]
   refine⟨fun hlt=> ?_,fun hge=> ?_⟩
   · have hlt':i<a.ae.length:=by omega
     obtain⟨t1,t2⟩:=ht i hlt' (by omega)
     simp only[aJ,ci,b9,aS,a8,bF,eM,MP,MT,mj,D.aI,D.aK,aq,ay,bW]
     refine⟨⟨by omega,by omega,by omega,t1⟩,?_⟩
     simp only[aO,t2]
     refine⟨fun hp=> ?_,fun hp=> ?_⟩
     · have:p (ag a.ae i) (ag b.ae i)=false:=by simpa using hp
       simp[yb hlt' (by omega) this]
     · have hp':p (ag a.ae i) (ag b.ae i)=true:=by simpa using hp
       simp only[dO,map_cons,map_nil,b9,aS,a8,bF,eM,eT,qJ,D.aI,aq,ay,dD]
       rw[w64 (by omega) (by omega)]
       refine⟨⟨i+1,by simp,by omega,?_⟩,?_⟩
       · rw[A9 hlt' (by omega),he,hp'];rfl
       · simp;omega
   · have hi':i=a.ae.length:=by omega
     subst hi'
     rw[List.take_length,hlen,List.take_length] at he
     simp[he]
theorem gv{Φ:Fns}{tests:List E}{t:E}{p:List D->List D->Bool}{a b:D}(ha:a.ae.length<=al)
 (ht:∀i:Nat,i<a.ae.length->i<b.ae.length->conj Φ [a,b,.int i] tests∧(t.den Φ [a,b,.int i]).ZZ=p (ag a.ae i) (ag b.ae i)) (B:Nat->List D->Prop):
 (eqV tests t).wp Φ (fun l=>l=[.bool (eqR p a.ae b.ae)]) [a,b] B:=
 oD ha (fun i h1 h2=>⟨(ht i h1 h2).1,by simp[(ht i h1 h2).2]⟩) B
def eS(ks:List K)(ds:List D):Prop:=am ks (cell ds 0).row<=1048576
def dH(ks:List K)(ds:List D):Prop:=(cell ds 0).ae.length+aD (am ks) (cell ds 0).ae<=1048576
noncomputable def dK(ks:List K):Nat->List D->D:=con (eS ks) fun _ ds=>.sl [eY ks (cell ds 0).row]
noncomputable def dN(ks:List K):Nat->List D->D:=con (dH ks) fun _ ds=>.sl ((cell ds 0).ae.map (eY ks))
def Hk:K->E
 | .int _=>.int 0
 | .bool=>.bool false
 | .str=>.str ⟨#[]⟩
 | .sl _ _=>.nl
def FE(e:E):Nat->List K->List E
 |_,[]=>[]
 |j,.sl _ _::ks=>.op .asl [.op (.fld j) [e]]::FE e (j+1) ks
 |j,_::ks=>.op (.fld j) [e]::FE e (j+1) ks
def Nw(tests:List E)(src:E)(bytes tid:Nat)(ks:List K):VC:=.req [.op (.mkfit bytes) [.op .len [.var 0]]]
 (.loop 3 0 2 [(.int .i64,1),(.sl tid ks,2)] [.int 0,.op .rep [.op .len [.var 0],.op .mk (ks.map Hk)]]
   (.ite (.op (.bin .lss .i64) [.var 1,.op .len [.var 0]])
     (.req ([.op .le [.int 0,.var 1],.op .lt [.var 1,.op .len [.var 0]]]++(tests++[.op .lt [.var 1,.op .len [.var 2]],.op .ltlen [.var 1,.var 2],
       .op (.rowlen ks.length) [.op .row [.var 2,.var 1]]]))
       (.back 0 [.op (.bin .add .i64) [.var 1,.int 1],.op .fT [.var 2,.var 1,.op (.rput 0) (.op .row [.var 2,.var 1]::FE src 0 ks)]]))
     (.ret [.var 2])))
def toV(c bytes tid:Nat)(ks:List K):VC:=Nw [.op (.fn c 1000) [mkE (.var 0) (.var 1)]] (.op (.fn c 0) [mkE (.var 0) (.var 1)]) bytes tid ks
theorem BN{Φ:Fns}{env:List D}(e:E)(l:List K):∀(ks:List K)(j:Nat)(r:List D),(∀i,i<ks.length->cell (e.den Φ env).row (j+i)=cell (eY ks r) i)->E.bC Φ env (FE e j ks)=eY ks r
 |[],j,r,h=>by simp[FE,eY]
 |k::ks,j,r,h=>by
  have ih:=BN e l ks (j+1) r.tail fun i hi=>by
   have:=h (i+1) (by simpa using hi)
   rw[eY,ay] at this
   rw[<-this]
   congr 1
   omega
  have h0:cell (e.den Φ env).row j=cnD k (r.headD default):=by simpa[eY] using h 0 (by simp)
  cases k<;>simp only[FE,aS,b9,a8,Ok,NJ,h0,ih,eY,cnD,D.aQ]
theorem xJ{Φ:Fns}{env:List D}:∀(ks:List K),(E.bC Φ env (ks.map Hk)).length=ks.length
 |[]=>rfl
 |k::ks=>by simp[xJ ks]
theorem zE{Φ:Fns}{tests:List E}{src:E}{bytes tid:Nat}{ks ks':List K}(hbytes:bytes<=1000)(hlen:ks'.length=ks.length)(hcn:∀r,eY ks' r=eY ks r) {a:D}
 (ht:∀(i:Nat)(x:D),i<a.ae.length->conj Φ [a,.int i,x] tests∧∀j,j<ks.length->cell (src.den Φ [a,.int i,x]).row j=cell (eY ks (ag a.ae i)) j)
 (ha:a.ae.length+aD (am ks) a.ae<=1048576) (B:Nat->List D->Prop):(Nw tests src bytes tid ks').wp Φ (fun l=>l=[.sl (a.ae.map (eY ks))]) [a] B:=by
 have hb:a.ae.length*bytes<=1048576*1000:=Nat.mul_le_mul (by omega) hbytes
 rw[Nw,aJ]
 refine⟨by simp[al];omega,?_⟩
 let z:List D:=E.bC Φ [a] (ks'.map Hk)
 have hz:z.length=ks'.length:=xJ ks'
 refine wp_loop' (fun v=>∃i:Nat,v=[.int i,.sl ((a.ae.take i).map (eY ks)++List.replicate (a.ae.length - i) z)]∧i<=a.ae.length) (fun v=>a.ae.length - (cell v 0).ZY.toNat)
  ⟨0,by simp[z],by omega⟩ ?_
 simp only[cA,cz,wu,yh,cons_append,nil_append]
 rintro d e _ _ ⟨i,hd,hi⟩
 simp only[List.cons.injEq,and_true] at hd
 obtain⟨rfl,rfl⟩:=hd
 simp only[aO,b9,aS,a8,bF,eT,mj,ep,D.aI,D.aK,aq,ay,bW,bM]
 refine⟨fun hlt=> ?_,fun hge=> ?_⟩
 · have hlt':i<a.ae.length:=by omega
   have hsum:am ks (ag a.ae i)<=aD (am ks) a.ae:=by
    have h1:=dC (am ks) hlt'
    have h2:=bO (am ks) (xs:=a.ae) (i:=i+1)
    omega
   have hll:((a.ae.take i).map (eY ks)++List.replicate (a.ae.length - i) z).length=a.ae.length:=by simp;omega
   have e5:a.ae.length - i=(a.ae.length - (i+1))+1:=by omega
   have e4:i - ((a.ae.take i).map (eY ks)).length=0:=by simp;omega
   have hrow:rowAt ((a.ae.take i).map (eY ks)++List.replicate (a.ae.length - i) z) (i:Int)=z:=by
    rw[af,ag,getD_eq_getElem?_getD,List.getElem?_append_right (by simp;omega),e4,e5,List.replicate_succ]
    rfl
   obtain⟨t1,t2⟩:=ht i (.sl ((a.ae.take i).map (eY ks)++List.replicate (a.ae.length - i) z)) hlt'
   rw[aJ,ci,ci,s4]
   constructor
   · refine⟨?_,?_,t1,?_⟩<;>simp only[ci,dq,b9,aS,a8,bF,eM,dZ,MP,MT,mj,H6,GD,G2,jG,aq,D.fj,D.aI,D.aK,D.aQ,aq,ay,
      hll,hrow,hz,af,Int.toNat_natCast,bW]
     · omega
     · omega
     · exact⟨by omega,by omega,trivial,trivial⟩
   simp only[dO,map_cons,map_nil,b9,aS,a8,bF,eM,eT,qJ,Kz,KP,G2,D.aI,D.aQ,D.fj,aq,ay,dD,hrow]
   have hden:=BN (Φ:=Φ) (env:=[a,.int i,.sl ((a.ae.take i).map (eY ks)++List.replicate (a.ae.length - i) z)]) src [] ks' 0 (ag a.ae i) fun j hj=>by rw[zero_add,t2 _ (by omega),hcn]
   rw[hden,hcn,w64 (by omega) (by omega)]
   refine⟨⟨i+1,?_,by omega⟩,?_⟩
   · simp only[List.cons.injEq,and_true,D.int.injEq,D.sl.injEq]
     refine⟨by simp,?_⟩
     have e1:z.drop (0+(eY ks (ag a.ae i)).length)=[]:=by rw[oh,zero_add,<-hlen,<-hz,List.drop_length]
     rw[e1,List.take_zero,nil_append,append_nil,Int.toNat_natCast,e5,List.replicate_succ,List.set_append_right _ _ (by simp;omega),e4,List.set_cons_zero,take_add_one,getElem?_eq_getElem hlt',map_append]
     simp[fu hlt']
   · simp;omega
 · have hi':i=a.ae.length:=by omega
   subst hi'
   simp
theorem lz{Φ:Fns}{c bytes tid:Nat}{ks ks':List K}(hbytes:bytes<=1000)(hlen:ks'.length=ks.length)(hcn:∀r,eY ks' r=eY ks r) (hΦ:Φ c=dK ks) {a:D}
 (ha:a.ae.length+aD (am ks) a.ae<=1048576) (B:Nat->List D->Prop):(toV c bytes tid ks').wp Φ (fun l=>l=[.sl (a.ae.map (eY ks))]) [a] B:=by
 refine zE hbytes hlen hcn (fun i x hi=> ?_) ha B
 have hsum:am ks (ag a.ae i)<=aD (am ks) a.ae:=by
  have h1:=dC (am ks) hi
  have h2:=bO (am ks) (xs:=a.ae) (i:=i+1)
  omega
 simp only[ci,dq,b9,aS,a8,bF,dZ,jG,hΦ,dK,fV,dM,eS,aq,ay,D.fj,D.aI,af,and_true]
 exact⟨by omega,fun _ _=>trivial⟩
theorem yF{p:List D->Nat}(h:∀r,p r=0):∀xs,aD p xs=0
 |[]=>rfl
 |x::xs=>by simp[aD,h,yF h xs]
def szC:VC:=.ite (.op (.bin .lss .i64) [.op (.bin .sub .i64) [.var 1,.op .len [.var 0]],.int 0]) (.ret [.int (-1)]) (.ret [.op (.bin .sub .i64) [.var 1,.op .len [.var 0]]])
theorem HS{Φ:Fns}{ks:List K}(hk:∀r,am ks r=0) {a b:D} (ha:a.ae.length<=al) (hb:0<=b.ZY∧b.ZY<=1048576) (B:Nat->List D->Prop):
 szC.wp Φ (fun l=>l=[.int (szM (a.ae.length+aD (am ks) a.ae) b.ZY)]) [a,b] B:=by
 have hl:(a.ae.length:Int)<=140737488355328:=by simp only[al] at ha;omega
 have w1:IntKind.i64.wrap (b.ZY - a.ae.length)=b.ZY - a.ae.length:=w64 (by omega) (by omega)
 simp only[szC,aO,mG,map_cons,map_nil,b9,aS,a8,bF,eT,mj,lO,ep,eM,D.aI,D.aK,bW,bM,aq,ay,w1,yF hk,szM]
 refine⟨fun h=> ?_,fun h=> ?_⟩
 · rw[if_pos (by omega)]
 · rw[if_neg (by omega)];simp
def szT:VC:=.ite (.op (.bin .lss .i64) [.op (.bin .sub .i64) [.var 1,.op .len [.var 0]],.int 0]) (.ret [.int (-1)])
 (.loop 5 0 2 [(.int .i64,2),(.int .i64,3)] [.op (.bin .sub .i64) [.var 1,.op .len [.var 0]],.int 0]
   (.ite (.op (.bin .lss .i64) [.var 3,.op .len [.var 0]])
     (.req [.op .le [.int 0,.var 3],.op .lt [.var 3,.op .len [.var 0]]]
       (.ite (.op (.bin .lss .i64) [.op (.bin .sub .i64) [.var 2,.op .iM [.op (.fld 0) [.op .row [.var 0,.var 3]]]],.int 0]) (.ret [.int (-1)])
         (.back 0 [.op (.bin .sub .i64) [.var 2,.op .iM [.op (.fld 0) [.op .row [.var 0,.var 3]]]],.op (.bin .add .i64) [.var 3,.int 1]])))
     (.ret [.var 2])))
theorem Pk{Φ:Fns}{a b:D}(ha:a.ae.length<=al)(hr:∀r∈a.ae,(cell r 0).ao.size<=al) (hb:0<=b.ZY∧b.ZY<=1048576) (B:Nat->List D->Prop):
 szT.wp Φ (fun l=>l=[.int (szM (a.ae.length+aD (am [.str]) a.ae) b.ZY)]) [a,b] B:=by
 have hl:(a.ae.length:Int)<=140737488355328:=by simp only[al] at ha;omega
 have w1:IntKind.i64.wrap (b.ZY - a.ae.length)=b.ZY - a.ae.length:=w64 (by omega) (by omega)
 simp only[szT,aO,b9,aS,a8,bF,eT,mj,lO,ep,eM,D.aI,D.aK,bW,bM,aq,ay,w1]
 refine⟨fun h=> ?_,fun h=> ?_⟩
 · simp[szM]
   omega
 · refine wp_loop' (fun v=>∃i:Nat,v=[.int (b.ZY - a.ae.length - aD (am [.str]) (a.ae.take i)),.int i]∧i<=a.ae.length∧0<=b.ZY - a.ae.length - aD (am [.str]) (a.ae.take i))
    (fun v=>a.ae.length - (cell v 1).ZY.toNat) ⟨0,by simp[aD,w1],by omega,by simp[aD];omega⟩ ?_
   simp
   intro d e _ _ i hd he hi hnn
   subst hd he
   have hsm:=bO (am [.str]) (xs:=a.ae) (i:=i)
   refine⟨fun hlt=> ?_,fun hge=> ?_⟩
   · have hlt':i<a.ae.length:=by simpa using hlt
     have hst:=dC (am [.str]) hlt'
     have hs2:=bO (am [.str]) (xs:=a.ae) (i:=i+1)
     have hz:am [.str] (ag a.ae i)=(cell (ag a.ae i) 0).ao.size:=by simp only[aw,aA,szD];rfl
     have hm:((cell (ag a.ae i) 0).ao.size:Int)<=140737488355328:=by have:=hr _ (iG hlt');simp only[al] at this;omega
     rw[hz] at hst
     simp[af]
     rw[w64 (n:=b.ZY - a.ae.length - aD (am [.str]) (a.ae.take i) - (cell (ag a.ae i) 0).ao.size) (by omega) (by omega)]
     refine⟨by omega,fun h1=> ?_,fun h1=> ?_⟩
     · simp only[szM]
       split<;>omega
     · refine⟨⟨i+1,⟨?_,?_⟩,by omega,?_⟩,?_⟩
       · rw[hst];simp only[natCast_add];omega
       · rw[w64 (by omega) (by omega)];simp
       · rw[hst];simp only[natCast_add];omega
       · rw[w64 (by omega) (by omega)];omega
   · have hi':i=a.ae.length:=by simp at hge;omega
     subst hi'
     simp[szM] at hnn⊢
     omega
end Go.Vx
namespace Go.Vx
open Go.RowKit Go.ChangeShapes Go.WideShapes
def qy(P:Program)(chk:TypeId->List K->Bool):Nat->List Field->List K->Bool
 |_,[],[]=>true
 |_,[],_::_=>false
 |j,x::fs,ks=>x.offset==j&&(chk x.type (ks.take (P.cellsOf x.type))&&qy P chk (j+P.cellsOf x.type) fs (ks.drop (P.cellsOf x.type)))
def mP(P:Program):Nat->TypeId->List K->Bool
 |0,_,_=>false
 |f+1,t,ks=>P.cellsOf t==ks.length&&match P.underlying t,ks with
  |some .bool,[.bool]=>true
  |some (.int k),[.int k']=>decide (k=k')
  |some .string,[.str]=>true
  |some (.slice e),[.sl e' ks']=>e==e'&&(Nat.blt 0 (P.bytesOf e)&&(!(ks'.length==0)&&mP P f e ks'))
  |some (.struct fs),ks=>qy P (mP P f) 0 fs.toList ks
  |_,_=>false
theorem tf{α:Type}{P:Nat->α->Prop}:∀(n:Nat),(∀i,i<n->∃x,P i x)->∃l:List α,l.length=n∧∀i x,l[i]? =some x->P i x
 |0,_=>⟨[],rfl,fun i x h=>by simp at h⟩
 |n+1,h=>by
  obtain⟨l,h1,h2⟩:=tf n fun i hi=>h i (by omega)
  obtain⟨x,hx⟩:=h n (by omega)
  refine⟨l++[x],by simp[h1],fun i y hy=> ?_⟩
  rcases Nat.lt_or_ge i n with hi|hi
  · rw[List.getElem?_append_left (by omega)] at hy
    exact h2 i y hy
  · rw[List.getElem?_append_right (by omega)] at hy
    have:i - l.length=0:=by
     have:=(List.getElem?_eq_some_iff.1 hy).1
     simp at this;omega
    rw[this] at hy
    simp at hy
    subst hy
    have:i=n:=by omega
    subst this
    exact hx
section
variable {H:Type} {enc:TypeId×Value->H} {P:Program} {w:World}
theorem r6{f:Nat}{t:TypeId}{ks:List K}(h:mP P f t ks=true):P.cellsOf t=ks.length:=by
 cases f with
 |zero=>simp[mP] at h
 |succ f=>simp only[mP,and_eq_true,beq_iff_eq] at h;exact h.1
theorem BK{chk:TypeId->List K->Bool}{n:Nat}{cs:List Value}
 (hchk:∀t ks,chk t ks=true->P.cellsOf t=ks.length∧∀cs d ps,DataW.trod enc P w 0 (fun _=>true) true n t cs=some (d,ps)->(∀m∈d.weights P t,m<=reachBytes)->∃ds,ds.length=ks.length∧aP w (fun _ _=>False) ks cs ds):
 ∀(fs:List Field)(j:Nat)(ks:List K)(xs:List (DataW H×List MemPlace)),qy P chk j fs ks=true->xs.length=fs.length->(∀(i:Nat)(x:Field),fs[i]? =some x->DataW.trod enc P w 0 (fun _=>true) true n x.type ((cs.drop x.offset).take (P.cellsOf x.type))=xs[i]?)->
  (∀m∈DataW.weightsEach P (fs.map (·.type)) (xs.map (·.1)),m<=reachBytes)->j+ks.length=cs.length->∃ds,ds.length=ks.length∧aP w (fun _ _=>False) ks (cs.drop j) ds
 |[],j,[],xs,_,_,_,_,hl=>⟨[],rfl,by simp at hl;simp[aP,hl]⟩
 |[],j,_::_,xs,h,_,_,_,_=>by simp[qy] at h
 |x::fs,j,ks,[],_,hx,_,_,_=>by simp at hx
 |x::fs,j,ks,y::xs,h,hx,ht,hw,hl=>by
  simp only[qy,and_eq_true,beq_iff_eq] at h
  obtain⟨h1,h2,h3⟩:=h
  obtain⟨c1,c2⟩:=hchk _ _ h2
  have hn:P.cellsOf x.type<=ks.length:=by rw[List.length_take] at c1;omega
  have t0:=ht 0 x rfl
  rw[h1] at t0
  simp only[map_cons,DataW.weightsEach,mem_append] at hw
  obtain⟨ds1,l1,r1⟩:=c2 _ y.1 y.2 t0 fun m hm=>hw m (.inl hm)
  obtain⟨ds2,l2,r2⟩:=BK hchk fs (j+P.cellsOf x.type) (ks.drop (P.cellsOf x.type)) xs h3 (by simpa using hx) (fun i z hz=>by simpa using ht (i+1) z (by simpa using hz)) (fun m hm=>hw m (.inr hm)) (by rw[List.length_drop];omega)
  refine⟨ds1++ds2,by rw[List.length_append,l1,l2,List.length_take,List.length_drop];omega,?_⟩
  have:=aP.append l1 r1 r2
  rwa[List.take_append_drop,<-List.drop_drop,List.take_append_drop] at this
theorem rh:∀(f:Nat)(t:TypeId)(ks:List K),mP P f t ks=true->∀(n:Nat)(cs:List Value)(d:DataW H)(ps:List MemPlace),DataW.trod enc P w 0 (fun _=>true) true n t cs=some (d,ps)->
 (∀m∈d.weights P t,m<=reachBytes)->∃ds,ds.length=ks.length∧aP w (fun _ _=>False) ks cs ds
 |0,_,_,h,_,_,_,_,_,_=>by simp[mP] at h
 |f+1,t,ks,h,n,cs,d,ps,hd,hwt=>by
  have hlen:=r6 h
  simp only[mP,and_eq_true] at h
  replace h:=h.2
  split at h
  · rename_i hu
    obtain⟨b,rfl,hx⟩:=DataW.trod_bool hu hd
    exact⟨[.bool b],rfl,.bool b,[],rfl,rfl,rfl⟩
  · rename_i k k' hu
    have:=of_decide_eq_true h
    subst this
    obtain⟨m,rfl,hx,hwf⟩:=DataW.trod_int hu hd
    refine⟨[.int m],rfl,.int k m,[],rfl,⟨rfl,?_⟩,rfl⟩
    simp only[Lit.wf,and_eq_true,decide_eq_true_eq] at hwf
    exact hwf
  · rename_i hu
    obtain⟨s,rfl,hx,_⟩:=DataW.trod_string hu hd
    simp only[Prod.mk.injEq] at hx
    obtain⟨rfl,rfl⟩:=hx
    refine⟨[.str s],rfl,.string s,[],rfl,⟨rfl,?_⟩,rfl⟩
    have:=hwt s.data.toList.length (by simp[DataW.weights])
    have h2:=reachBytes_lt
    have e:s.size=s.data.toList.length:=rfl
    show s.size<=2^47
    omega
  · rename_i e e' ks' hu
    simp only[and_eq_true,beq_iff_eq,not_eq_true',beq_eq_false_iff_ne,ne_eq] at h
    obtain⟨rfl,hb,hk0,hc⟩:=h
    have hb:0<P.bytesOf e:=Nat.le_of_ble_eq_true hb
    have hce:=r6 hc
    rcases DataW.trod_slice hu hd with ⟨rfl,hx⟩|⟨a,len,cap,elems,rest,n',_,rfl,hx,_,hl,_,hlen',hel,_,_⟩
    · exact⟨[.sl []],rfl,.slice none 0 0,[],rfl,⟨none,0,rfl,le_refl _,by simp[al],.inl rfl⟩,rfl⟩
    · simp only[Prod.mk.injEq] at hx
      obtain⟨rfl,_⟩:=hx
      simp only[DataW.weights,hu,mem_cons,mem_append] at hwt
      have hlm:len<=al:=by
       have:=hwt _ (.inl rfl)
       have h2:=reachBytes_lt
       simp only[length_map] at this
       have h3:elems.length*1<=(elems.length+rest.length)*P.bytesOf e:=Nat.mul_le_mul (by omega) hb
       simp only[al]
       omega
      have hall:∀i,i<len->∃row,∃vs,w.cells? 0 (a.add (i*P.cellsOf e)) (P.cellsOf e)=some vs∧aP w (fun _ _=>False) ks' vs row:=fun i hi=>by
       have h1:=hel i hi
       have hget:elems[i]? =some elems[i]:=getElem?_eq_getElem (by omega)
       rw[hget,Option.bind_eq_some_iff] at h1
       obtain⟨vs,q1,q2⟩:=h1
       have hmem:∀(l:List (DataW H))(x:DataW H),x∈l->∀m∈x.weights P e,m∈DataW.weightsAll P e l:=by
        intro l
        induction l with
        |nil=>intro x hx;simp at hx
        |cons y l ih=>
         intro x hx m hm
         simp only[DataW.weightsAll,mem_append]
         rcases mem_cons.1 hx with rfl|hx
         · exact .inl hm
         · exact .inr (ih x hx m hm)
       obtain⟨row,_,hr⟩:=rh f e ks' hc n' vs elems[i].1 elems[i].2 q2 fun m hm=>hwt m (.inr (.inl (hmem _ _ (mem_map.2 ⟨_,List.getElem_mem _,rfl⟩) m hm)))
       exact⟨row,vs,q1,hr⟩
      obtain⟨rows,r1,r2⟩:=tf len hall
      refine⟨[.sl rows],rfl,.slice (some a) len cap,[],rfl,⟨some a,cap,by simp[r1],by simp[r1,hl],by simp[r1,hlm],?_⟩,rfl⟩
      simp only[List.headD_cons,D.aQ]
      by_cases h0:rows=[]
      · exact .inl h0
      · right
        have hpos:0<len:=by rw[<-r1];exact List.length_pos_iff.2 h0
        have hkpos:0<P.cellsOf e:=by rw[hce];omega
        have spot:a.spot=none:=by
         obtain⟨row,vs,q1,_⟩:=hall 0 hpos
         obtain⟨_,s2,s3⟩:=World.cells?_some q1
         have:=s3 0 hkpos
         rw[Nat.zero_mul,show a.add 0=a by simp[Addr.add]] at this
         have hne:(a.add 0)=a:=by simp[Addr.add]
         rw[hne] at this
         unfold World.cell? at this
         have hv:vs[0]? =some vs[0]:=getElem?_eq_getElem (by omega)
         rw[hv] at this
         split at this
         · split at this
           · cases this
           · rename_i hs;simpa using hs
         · cases this
        obtain⟨b,off,sp⟩:=a
        simp only at spot
        subst spot
        have hadd:∀m,(⟨b,off,none⟩:Addr).add m=⟨b,off+m,none⟩:=fun m=>by unfold Addr.add;split<;>simp_all
        refine⟨b,off,rfl,fun i row hi=> ?_⟩
        obtain⟨vs,q1,q2⟩:=r2 i row hi
        refine⟨vs,Row.sK fun j v hv=> ?_,fun _ _ h=>h,q2⟩
        obtain⟨_,s2,s3⟩:=World.cells?_some q1
        have hjl:=(List.getElem?_eq_some_iff.1 hv).1
        have:=s3 j (by omega)
        rw[hadd,hv,hce] at this
        have hadd2:(⟨b,off+i*ks'.length,none⟩:Addr).add j=⟨b,off+i*ks'.length+j,none⟩:=by unfold Addr.add;split<;>simp_all
        rw[hadd2] at this
        exact this
  · rename_i fs hu
    obtain⟨xs,n',rfl,hx,hcl,hxl,hfl⟩:=DataW.trod_struct hu hd
    simp only[Prod.mk.injEq] at hx
    obtain⟨rfl,_⟩:=hx
    simp only[DataW.weights,hu] at hwt
    have:=BK (H:=H) (enc:=enc) (P:=P) (w:=w) (chk:=mP P f) (n:=n') (cs:=cs) (fun t ks hc=>⟨r6 hc,fun cs d ps hd hw=>rh f t ks hc n' cs d ps hd hw⟩) fs.toList 0 _ xs h (by simpa using hxl)
     (fun i x hi=>hfl i x (by simpa using hi)) hwt (by omega)
    simpa using this
  · cases h
def wt(P:Program)(t:TypeId):ASh->Bool
 | .one k=>(match P.underlying t with|some (.struct _)=>false|_=>true)&&mP P 30 t [k]
 | .agg ks=>(match P.underlying t with|some (.struct _)=>true|_=>false)&&mP P 30 t ks
 | .pim _=>false
def oy(P:Program):List TypeId->List ASh->Bool
 |[],[]=>true
 |t::ts,s::ss=>wt P t s&&oy P ts ss
 |_,_=>false
theorem J5{r:Reach}{b0:Nat}{t:TypeId}{sh:ASh}(h:wt P t sh=true){v:Value}{d:DataW H}{ps:List MemPlace}(hv:Value.okWide P w r b0 t v)(hd:DataW.Trod enc P w 0 (fun _=>true) true t v d ps)
 (hw:∀m∈d.weights P t,m<=reachBytes):∃x:D,kE w (fun _ _=>False) sh v x:=by
 obtain⟨n,hn⟩:=hd
 cases sh with
 |one k=>
  simp only[wt,and_eq_true] at h
  obtain⟨ds,hl,hr⟩:=rh 30 t [k] h.2 n _ d ps hn hw
  obtain⟨u,us,hu,hc,rfl⟩:=hr
  have hcell:v.cells= #[v]:=by
   have h2:=h.2
   simp only[mP,and_eq_true] at h2
   replace h2:=h2.2
   split at h2
   · rename_i hu _;obtain⟨b,rfl⟩:=okWide_bool hu hv;rfl
   · rename_i hu _;obtain⟨b,rfl⟩:=okWide_int hu hv;rfl
   · rename_i hu _;obtain⟨b,rfl⟩:=okWide_string hu hv;rfl
   · rename_i hu _;obtain⟨_,_,_,rfl⟩:=okWide_slice hu hv;rfl
   · rename_i hu;have:=h.1;rw[hu] at this;cases this
   · cases h2
  rw[hcell] at hu
  simp only[List.cons.injEq,and_true] at hu
  subst hu
  exact⟨_,hc⟩
 |agg ks=>
  simp only[wt,and_eq_true] at h
  obtain⟨ds,hl,hr⟩:=rh 30 t ks h.2 n _ d ps hn hw
  have h1:=h.1
  split at h1
  · rename_i fs hu
    obtain⟨cs,rfl,_⟩:=okWide_struct hu hv
    exact⟨.sl [ds],cs.toList,by simp,hr⟩
  · cases h1
 |pim ks=>simp[wt] at h
theorem Af:∀{ts:List TypeId}{shs:List ASh},oy P ts shs=true->∀{vs:List Value}{ds:List (DataW H)}{ps:List MemPlace},DataW.TrodAll enc P w 0 (fun _=>true) true ts vs ds ps->
 (∀(j:Nat) t v,ts[j]? =some t->vs[j]? =some v->∃r b0,Value.okWide P w r b0 t v)->(∀m∈DataW.weightsEach P ts ds,m<=reachBytes)->∃xs,fg w (fun _ _=>False) shs vs xs
 |[],[],_,vs,ds,ps,h,_,_=>by
  obtain⟨rfl,rfl,rfl⟩:=trodAll_nil h
  exact⟨[],rfl,rfl⟩
 |[],_::_,h,_,_,_,_,_,_=>by simp[oy] at h
 |_::_,[],h,_,_,_,_,_,_=>by simp[oy] at h
 |t::ts,s::ss,h,vs,ds,ps,ht,hv,hw=>by
  simp only[oy,and_eq_true] at h
  obtain⟨v,vs',d,ds',p,q,rfl,rfl,rfl,h1,h2⟩:=trodAll_cons ht
  simp only[DataW.weightsEach,mem_append] at hw
  obtain⟨r,b0,hv0⟩:=hv 0 t v rfl rfl
  obtain⟨x,hx⟩:=J5 h.1 hv0 h1 fun m hm=>hw m (.inl hm)
  obtain⟨xs,hxs⟩:=Af h.2 h2 (fun j t v q1 q2=>hv (j+1) t v (by simpa using q1) (by simpa using q2)) fun m hm=>hw m (.inr hm)
  exact⟨x::xs,v,vs',x,xs,rfl,rfl,hx,hxs⟩
theorem xF(hl:laidOutB P=true):∀{ts:List TypeId},(∀t∈ts,P.readableRec t=true∧t<P.types.size)->∀{vs:List Value}{ds:List (DataW H)}{ps:List MemPlace}{W':World}{sp:Nat->Bool},
 DataW.TrodAll enc P w 0 (fun _=>true) true ts vs ds ps->Below w.heap.size w W'->(∀x∈ps,x.block<w.heap.size)->(∀x∈ps,sp x.block=true)->DataW.TrodAll enc P W' 0 sp true ts vs ds ps
 |[],_,vs,ds,ps,W',sp,h,_,_,_=>by
  obtain⟨rfl,rfl,rfl⟩:=trodAll_nil h
  exact rfl
 |t::ts,ht,vs,ds,ps,W',sp,h,hb,hlt,hsp=>by
  obtain⟨v,vs',d,ds',p,q,rfl,rfl,rfl,h1,h2⟩:=trodAll_cons h
  obtain⟨r1,r2⟩:=ht t (by simp)
  exact⟨p,q,WideElems.Trod_stays hl r1 r2 h1 (fun x hx=>hb.same (hlt x (by simp[hx]))) (fun x hx=>hsp x (by simp[hx])),
   xF hl (fun t ht'=>ht t (by simp[ht'])) h2 hb (fun x hx=>hlt x (by simp[hx])) (fun x hx=>hsp x (by simp[hx])),rfl⟩
theorem Hn{f:FuncId}{fn:Func}{s:ChangeSpec}{shs:List ASh}{φ:Nat->List D->D}(hF:BS P f shs [.one (.im .bool)] φ)(hφ:∀xs,xs.length=shs.length->(φ 1000 xs).ZZ=true∧(φ 0 xs).ZZ=true)
 (hl:laidOutB P=true) (hr:∀t∈fn.params.toList,P.readableRec t=true∧t<P.types.size) (hc:oy P fn.params.toList shs=true) {tb:TypeId} (hres:fn.resultTypes= #[tb]) (htb:P.underlying tb=some .bool)
 (hs:∀ds:List (DataW H),ds.length=fn.params.toList.length->s.fn H ds={ results:=[.lit (.bool true)],args:=ds }) (hv:s.vars=[]) {W:World} {base:Nat} {args:Array Value} {ds gs:List (DataW H)} {before:List MemPlace}
 (hval:∀(j:Nat) t v,fn.params[j]? =some t->args[j]? =some v->Value.okWide P W .any base t v) (hW:DataW.Whole enc P fn.params.toList s.vars false W args.toList ds gs before)
 (hw:(DataW.weightsEach P (fn.params.toList++s.plain.varTypes P) (ds++gs)).all (· <=reachBytes)=true) (hG:glob P W):
 Calls P f args W fun e W'=>∃v,e= .returned v∧s.post enc P fn false true false false W args v W':=by
 have hW':=hW
 have hlt:=hW.lt
 obtain⟨p,q,hA,hV,hpq,hfz,hnd⟩:=hW
 rw[hv] at hV
 obtain⟨rfl,rfl⟩:=trodVars_none hV
 simp only[append_nil] at hpq
 subst hpq
 have hdl:∀{ts:List TypeId}{vs:List Value}{ds:List (DataW H)}{ps:List MemPlace},DataW.TrodAll enc P W 0 (fun _=>true) true ts vs ds ps->ds.length=ts.length:=by
  intro ts
  induction ts with
  |nil=>intro vs ds ps h;obtain⟨rfl,rfl,rfl⟩:=trodAll_nil h;rfl
  |cons t ts ih=>intro vs ds ps h;obtain⟨v,vs',d,ds',p,q,rfl,rfl,rfl,_,h2⟩:=trodAll_cons h;simp[ih h2]
 have hwt:∀m∈DataW.weightsEach P fn.params.toList ds,m<=reachBytes:=fun m hm=>by
  have h1:s.plain.varTypes P=[]:=by simp[DataSpec.varTypes,ChangeSpec.plain,hv]
  rw[h1,append_nil,append_nil] at hw
  simpa using List.all_eq_true.1 hw m hm
 obtain⟨xs,hxs⟩:=Af hc hA (fun j t v h1 h2=>⟨_,_,hval j t v (by simpa using h1) (by simpa using h2)⟩) hwt
 obtain⟨_,hxl,_⟩:=hxs.wf
 obtain⟨q1,q2⟩:=hφ xs hxl
 have:=hF W (fun _ _=>False) args.toList xs (fun _ _ h=>h.elim) hG hxs q1
 rw[show args.toList.toArray=args by simp] at this
 refine this.mono fun e W' ⟨us,Fs,he,hb,hret,_,_⟩=> ?_
 obtain⟨u,us',rfl,hu,hret⟩:=hret
 obtain⟨rfl,rfl⟩:=hret
 have hu:u= .bool true:=by
  have:u= .bool (φ 0 xs).ZZ:=hu
  rw[this,q2]
 subst hu
 refine⟨.bool true,he,?_⟩
 have hfn:s.fn H (ds++[])={ results:=[.lit (.bool true)],args:=ds }:=by rw[append_nil];exact hs ds (hdl hA)
 have hold:∀x∈before,(fun b=>decide (b<W.heap.size)) x.block=true:=fun x hx=>by simpa using hlt x hx
 have hres':∀(b:Nat)(sp:Nat->Bool)(hd:Bool),DataW.TrodAll enc P W' b sp hd fn.resultTypes.toList ((Value.bool true).resultList fn.resultTypes.size) (s.fn H (ds++[])).results []:=fun b sp hd=>by
  rw[hres,hfn]
  exact trodAll_cons_mk (shut_bool htb true) trodAll_mk0
 have hargs:∀sp:Nat->Bool,(∀x∈before,sp x.block=true)->DataW.TrodAll enc P W' 0 sp true fn.params.toList args.toList (s.fn H (ds++[])).args before:=fun sp hsp=>by
  rw[hfn]
  exact xF hl hr hA hb hlt hsp
 have hvars:∀sp:Nat->Bool,DataW.TrodVars enc P W' sp s.vars (s.fn H (ds++[])).vars []:=fun sp=>by
  rw[hv,hfn]
  rfl
 refine⟨ds,[],before,[],before,[],hW',hres' _ _ _,hargs _ hold,hvars _,World.keptBut_mono (fun x hx=>⟨hx,.inr (by simpa using hx)⟩) (hb.frame (· ∈before)),fun _=> ?_⟩
 refine⟨ok_one hres rfl (okWide_bool_mk htb _),_,_,([]++before)++[],⟨[]++before,[],trodAll_append (hargs _ (fun _ _=>rfl)) (hres' _ _ _),hvars _,rfl,?_,?_⟩,?_⟩
 · intro b off hp
   have hp:MemPlace.cell b off∈before:=by simpa using hp
   rw[hb.frozen (hlt _ hp)]
   exact hfz b off hp
 · intro ha;cases ha
 · intro x hx _
   simpa using hx
end
end Go.Vx
namespace Go.Vx
open Go.RowKit (Below)
theorem bS{env:List D}:∀{l:List (K×Nat)}{p:Prop},((∀q∈l,WFD q.1 (cell env q.2))->p)->kinds env l p
 |[],p,h=>h fun q hq=>by simp at hq
 |(k,i)::l,p,h=>fun hw=>bS fun hq=>h fun q hm=>by
    rcases mem_cons.1 hm with rfl|hm
    · exact hw
    · exact hq q hm
theorem VC.jA{Φ:Fns}{post post':List D->Prop}(h:∀l,post l->post' l):∀(t:VC)(env:List D)(B B':Nat->List D->Prop),(∀l v,B l v->B' l v)->t.wp Φ post env B->t.wp Φ post' env B':=by
 have hN:∀(n:Nat){p q:List D->Prop},(∀l,p l->q l)->ua n p->ua n q:=by
  intro n
  induction n with
  |zero=>intro p q hpq hp;exact hpq _ hp
  |succ n ih=>intro p q hpq hp d;exact ih (fun l=>hpq (d::l)) (hp d)
 have hK:∀(l:List (K×Nat))(env:List D){p q:Prop},(p->q)->kinds env l p->kinds env l q:=by
  intro l env
  induction l with
  |nil=>intro p q hpq hp;exact hpq hp
  |cons x l ih=>intro p q hpq hp hw;exact ih hpq (hp hw)
 intro t
 induction t with
 |req cs t ih=>intro env B B' hB ht;exact⟨ht.1,ih env B B' hB ht.2⟩
 |ite c x y ihx ihy=>intro env B B' hB ht;exact⟨fun hc=>ihx env B B' hB (ht.1 hc),fun hc=>ihy env B B' hB (ht.2 hc)⟩
 |loop id l m fs init body ih=>
  intro env B B' hB ⟨I,μ,h0,hI⟩
  refine⟨I,μ,h0,hN m (fun vs hk=>hK fs _ (fun hb hi=>ih _ _ _ (fun j v hv=> ?_) (hb hi)) hk) hI⟩
  by_cases e:j=l
  · subst e;simpa only[dD] using hv
  · rw[cU e] at hv⊢;exact hB j v hv
 |back l es=>intro env B B' hB ht;exact hB _ _ ht
 |ret es=>intro env B B' hB ht;exact h _ ht
 |join id l m fs x y ihx ihy=>
  intro env B B' hB ⟨I,h1,h2⟩
  refine⟨I,ihx _ _ _ (fun j v hv=> ?_) h1,hN m (fun vs hk=>hK fs _ (fun hb hi=>ihy _ _ _ hB (hb hi)) hk) h2⟩
  by_cases e:j=l
  · subst e;simpa only[dD] using hv
  · rw[cU e] at hv⊢;exact hB j v hv
section
variable {Φ:Fns} {post:List D->Prop} {env:List D} {B:Nat->List D->Prop}
theorem bT{id l n:Nat}{fs:List (K×Nat)}{L:E}{body rest:VC}{N:Nat}(hn:env.length=n)(hL:∀d,(L.den Φ (env++[d])).ZY=N) (hN:(N:Int)<=140737488355328) (I:Nat->Prop) (h0:I 0)
 (hb:∀i:Nat,i<N->I i->body.wp Φ post (env++[.int i]) (eC B l fun v=>v=[.int (IntKind.i64.wrap (i+1))]∧I (i+1)))
 (hr:I N->∀p,rest.wp Φ post (env++[.int N]) (eC B l p)):
 (VC.loop id l 1 fs [.int 0] (.ite (.op (.bin .lss .i64) [.var n,L]) body rest)).wp Φ post env B:=by
 refine wp_loop' (fun v=>∃i:Nat,v=[.int i]∧i<=N∧I i) (fun v=>N - (cell v 0).ZY.toNat) ⟨0,rfl,by omega,h0⟩ ?_
 simp only[cA,cz]
 intro d
 refine bS fun _=> ?_
 rintro⟨i,hd,hi,hI⟩
 simp only[List.cons.injEq,and_true] at hd
 subst hd
 have hv:cell (env++[.int i]) n= .int i:=by subst hn;simp[cell]
 simp only[aO,b9,aS,a8,bF,eT,ep,hL,hv,D.aI,D.aK,aq,ay,bW,bM]
 refine⟨fun hlt=> ?_,fun hge=> ?_⟩
 · refine VC.jA (fun _ h=>h) _ _ _ _ (fun j v h=> ?_) (hb i (by omega) hI)
   by_cases e:j=l
   · subst e
     simp only[dD] at h⊢
     obtain⟨rfl,h⟩:=h
     rw[w64 (by omega) (by omega)]
     exact⟨⟨i+1,by simp,by omega,h⟩,by simp;omega⟩
   · rw[cU e] at h⊢;exact h
 · have:i=N:=by omega
   subst this
   exact hr hI _
theorem kG{id l n:Nat}{fs:List (K×Nat)}{L e0:E}{body rest:VC}{N:Nat}(hn:env.length=n)(hL:∀d d',(L.den Φ (env++[d,d'])).ZY=N) (hN:(N:Int)<=140737488355328) (I:Nat->D->Prop) (h0:I 0 (e0.den Φ env))
 (hb:∀(i:Nat)(x:D),i<N->(∀q∈fs,WFD q.1 (cell (env++[.int i,x]) q.2))->I i x->body.wp Φ post (env++[.int i,x]) (eC B l fun v=>∃y,v=[.int (IntKind.i64.wrap (i+1)),y]∧I (i+1) y))
 (hr:∀x,(∀q∈fs,WFD q.1 (cell (env++[.int N,x]) q.2))->I N x->∀p,rest.wp Φ post (env++[.int N,x]) (eC B l p)):
 (VC.loop id l 2 fs [.int 0,e0] (.ite (.op (.bin .lss .i64) [.var n,L]) body rest)).wp Φ post env B:=by
 refine wp_loop' (fun v=>∃(i:Nat) (x:D),v=[.int i,x]∧i<=N∧I i x) (fun v=>N - (cell v 0).ZY.toNat) ⟨0,_,rfl,by omega,h0⟩ ?_
 simp only[cA,cz]
 intro d d'
 refine bS fun hk=> ?_
 rintro⟨i,x,hd,hi,hI⟩
 simp only[List.cons.injEq,and_true] at hd
 obtain⟨rfl,rfl⟩:=hd
 have hv:cell (env++[.int i,d']) n= .int i:=by subst hn;simp[cell]
 simp only[aO,b9,aS,a8,bF,eT,ep,hL,hv,D.aI,D.aK,aq,ay,bW,bM]
 refine⟨fun hlt=> ?_,fun hge=> ?_⟩
 · refine VC.jA (fun _ h=>h) _ _ _ _ (fun j v h=> ?_) (hb i d' (by omega) hk hI)
   by_cases e:j=l
   · subst e
     simp only[dD] at h⊢
     obtain⟨y,rfl,h⟩:=h
     rw[w64 (by omega) (by omega)]
     exact⟨⟨i+1,y,by simp,by omega,h⟩,by simp;omega⟩
   · rw[cU e] at h⊢;exact h
 · have:i=N:=by omega
   subst this
   exact hr _ hk hI _
theorem fC{id l n:Nat}{fs:List (K×Nat)}{L e0:E}{body rest:VC}{N:Nat}(hn:env.length+1=n)(hL:∀d d',(L.den Φ (env++[d',d])).ZY=N) (hN:(N:Int)<=140737488355328) (I:Nat->D->Prop) (h0:I 0 (e0.den Φ env))
 (hb:∀(i:Nat)(x:D),i<N->(∀q∈fs,WFD q.1 (cell (env++[x,.int i]) q.2))->I i x->body.wp Φ post (env++[x,.int i]) (eC B l fun v=>∃y,v=[y,.int (IntKind.i64.wrap (i+1))]∧I (i+1) y))
 (hr:∀x,(∀q∈fs,WFD q.1 (cell (env++[x,.int N]) q.2))->I N x->∀p,rest.wp Φ post (env++[x,.int N]) (eC B l p)):
 (VC.loop id l 2 fs [e0,.int 0] (.ite (.op (.bin .lss .i64) [.var n,L]) body rest)).wp Φ post env B:=by
 refine wp_loop' (fun v=>∃(i:Nat) (x:D),v=[x,.int i]∧i<=N∧I i x) (fun v=>N - (cell v 1).ZY.toNat) ⟨0,_,rfl,by omega,h0⟩ ?_
 simp only[cA,cz]
 intro d d'
 refine bS fun hk=> ?_
 rintro⟨i,x,hd,hi,hI⟩
 simp only[List.cons.injEq,and_true] at hd
 obtain⟨rfl,rfl⟩:=hd
 have hv:cell (env++[d,.int i]) n= .int i:=by subst hn;simp[cell]
 simp only[aO,b9,aS,a8,bF,eT,ep,hL,hv,D.aI,D.aK,aq,ay,bW,bM]
 refine⟨fun hlt=> ?_,fun hge=> ?_⟩
 · refine VC.jA (fun _ h=>h) _ _ _ _ (fun j v h=> ?_) (hb i d (by omega) hk hI)
   by_cases e:j=l
   · subst e
     simp only[dD] at h⊢
     obtain⟨y,rfl,h⟩:=h
     rw[w64 (by omega) (by omega)]
     exact⟨⟨i+1,y,by simp,by omega,h⟩,by simp;omega⟩
   · rw[cU e] at h⊢;exact h
 · have:i=N:=by omega
   subst this
   exact hr _ hk hI _
end
open Classical in
noncomputable def eR(p:List D->Prop):List (List D)->Nat->Int
 |[],_=> -1
 |x::xs,n=>if p x then n else eR p xs (n+1)
theorem nd{p:List D->Prop}:∀{xs:List (List D)}{n i:Nat},i<xs.length->(∀m,m<i->¬p (ag xs m))->p (ag xs i)->eR p xs n=(n+i:Nat)
 |[],n,i,h,_,_=>by simp at h
 |x::xs,n,0,_,_,h2=>by simp only[sq] at h2;simp[eR,h2]
 |x::xs,n,i+1,h,h1,h2=>by
  have h0:=h1 0 (by omega)
  simp only[sq] at h0
  rw[eR,if_neg h0,nd (xs:=xs) (n:=n+1) (i:=i) (by simpa using h) (fun m hm=>by have:=h1 (m+1) (by omega);simpa using this) (by simpa using h2)]
  congr 1
  omega
theorem nB{p:List D->Prop}:∀{xs:List (List D)}{n:Nat},(∀m,m<xs.length->¬p (ag xs m))->eR p xs n= -1
 |[],n,_=>rfl
 |x::xs,n,h=>by
  have h0:=h 0 (by simp)
  simp only[sq] at h0
  rw[eR,if_neg h0,nB (xs:=xs) fun m hm=>by have:=h (m+1) (by simpa using hm);simpa using this]
theorem aZ(p:List D->Prop)(xs:List (List D)):(eR p xs 0= -1∧∀m,m<xs.length->¬p (ag xs m))∨∃i:Nat,i<xs.length∧eR p xs 0=i∧p (ag xs i)∧∀m,m<i->¬p (ag xs m):=by
 by_cases h:∀m,m<xs.length->¬p (ag xs m)
 · exact .inl ⟨nB h,h⟩
 · simp only[Classical.not_forall,Classical.not_not] at h
   obtain⟨m,hm,hp⟩:=h
   obtain⟨i,⟨hi,hpi⟩,hmin⟩:=least (p:=fun i=>i<xs.length∧p (ag xs i)) m ⟨hm,hp⟩
   have h1:∀j,j<i->¬p (ag xs j):=fun j hj hpj=>by
    have:=hmin j ⟨by omega,hpj⟩
    omega
   exact .inr ⟨i,hi,by rw[nd hi h1 hpi];simp,hpi,h1⟩
theorem sO{xs:List (List D)}{n i:Nat}(h:i<n):ag (xs.take n) i=ag xs i:=by
 simp[ag,List.getElem?_take,h]
theorem j0{p:List D->List D->Bool}:∀{xs ys:List (List D)},eqR p xs ys=true↔xs.length=ys.length∧∀i,i<xs.length->p (ag xs i) (ag ys i)=true
 |[],[]=>by simp[eqR]
 |[],_::_=>by simp[eqR]
 |_::_,[]=>by simp[eqR]
 |x::xs,y::ys=>by
  simp only[eqR,and_eq_true,j0 (xs:=xs) (ys:=ys),length_cons,Nat.add_right_cancel_iff]
  constructor
  · rintro⟨h1,h2,h3⟩
    refine⟨h2,fun i hi=> ?_⟩
    cases i with
    |zero=>exact h1
    |succ i=>exact h3 i (by omega)
  · rintro⟨h1,h2⟩
    exact⟨h2 0 (by omega),h1,fun i hi=>by simpa using h2 (i+1) (by omega)⟩
@[simp] theorem Xo (Φ:Fns) (m:Nat) (ds:List D):opD Φ (.rows m) ds= .sl (chunk m (ds.length / m) ds):=rfl
theorem uA{p:List D->Nat}{f:List D->List D}(h:∀r,p (f r)=p r):∀xs,aD p (xs.map f)=aD p xs
 |[]=>rfl
 |x::xs=>by simp[aD,h,uA h xs]
mutual
theorem KK:∀(k:K)(d:D),szD k (cnD k d)=szD k d
 | .int _,d=>rfl
 | .bool,d=>rfl
 | .str,d=>rfl
 | .sl _ ks,d=>by simp only[cnD,szD,D.aQ,length_map,uA (sk ks)]
theorem sk:∀(ks:List K)(r:List D),am ks (eY ks r)=am ks r
 |[],r=>rfl
 |k::ks,r=>by simp only[eY,am,List.headD_cons,tail_cons,KK k,sk ks]
end
def Ww:K->D->D
 | .sl _ _,d=>.sl d.ae
 |_,d=>d
def v7:List K->Nat->List D->List D
 |[],_,_=>[]
 |k::ks,j,r=>Ww k (cell r j)::v7 ks (j+1) r
end Go.Vx
namespace Go.Vx
open Go.RowKit (Below)
def dgt:Nat->Nat->ByteArray->ByteArray
 |0,_,s=>s
 |f+1,n,s=>if n=0 then s else dgt f (n / 10) (bytesOf [[.int ((48+n % 10:Nat):Int)]]++s)
noncomputable def Mb(k:Int):ByteArray:=if k<=0 then⟨#[109,48]⟩ else⟨#[109]⟩++dgt k.toNat k.toNat ⟨#[]⟩
theorem eP(a b:ByteArray):(a++b).size=a.size+b.size:=by simp
def xq(f:List D->Int->List D)(c:List D->Nat):List (List D)->Int->List (List D)
 |[],_=>[]
 |r::rs,n=>f r n::xq f c rs (n+c r)
def Pa(p:List D->Int->Prop)(c:List D->Nat):List (List D)->Int->Prop
 |[],_=>True
 |r::rs,n=>p r n∧Pa p c rs (n+c r)
mutual
def pR:K->D->Nat
 | .sl _ ks,d=>aD (jT ks) d.ae
 |_,_=>1
def jT:List K->List D->Nat
 |[],_=>0
 |k::ks,ds=>pR k (ds.headD default)+jT ks ds.tail
end
mutual
noncomputable def H0:K->D->Int->D
 | .int _,_,n=>.int n
 | .bool,_,n=>.bool (tt (n.tmod 3=0))
 | .str,_,n=>.str (Mb n)
 | .sl _ ks,d,n=>.sl (xq (tI ks) (jT ks) d.ae n)
noncomputable def tI:List K->List D->Int->List D
 |[],_,_=>[]
 |k::ks,ds,n=>H0 k (ds.headD default) n::tI ks ds.tail (n+pR k (ds.headD default))
end
mutual
def Oe:K->D->Int->Prop
 | .int _,d,n=>d.ZY=n
 | .bool,d,n=>d.ZZ=tt (n.tmod 3=0)
 | .str,d,n=>d.ao=Mb n
 | .sl _ ks,d,n=>Pa (xe ks) (jT ks) d.ae n
def xe:List K->List D->Int->Prop
 |[],_,_=>True
 |k::ks,ds,n=>Oe k (ds.headD default) n∧xe ks ds.tail (n+pR k (ds.headD default))
end
mutual
def M5:K->D->Prop
 | .sl _ ks,d=>d.ae.length<=140737488355328∧∀r∈d.ae,r.length=ks.length∧xu ks r
 |_,_=>True
def xu:List K->List D->Prop
 |[],_=>True
 |k::ks,ds=>M5 k (ds.headD default)∧xu ks ds.tail
end
theorem kQ(k:K)(ks:List K)(r:List D):jT (k::ks) r=pR k (cell r 0)+jT ks r.tail:=by rw[jT,eH]
theorem u2(k:K)(ks:List K)(r:List D)(n:Int):tI (k::ks) r n=H0 k (cell r 0) n::tI ks r.tail (n+pR k (cell r 0)):=by rw[tI,eH]
theorem Ch(k:K)(ks:List K)(r:List D)(n:Int):xe (k::ks) r n=(Oe k (cell r 0) n∧xe ks r.tail (n+pR k (cell r 0))):=by rw[xe,eH]
theorem DL(k:K)(ks:List K)(r:List D):xu (k::ks) r=(M5 k (cell r 0)∧xu ks r.tail):=by rw[xu,eH]
theorem ux(e:TypeId)(ks:List K)(d:D):pR (.sl e ks) d=aD (jT ks) d.ae:=rfl
theorem JY(e:TypeId)(ks:List K)(d:D)(n:Int):H0 (.sl e ks) d n= .sl (xq (tI ks) (jT ks) d.ae n):=rfl
theorem yy{f:List D->Int->List D}{c p:List D->Nat}(h:∀r n,p (f r n)=p r):∀(xs:List (List D))(n:Int),aD p (xq f c xs n)=aD p xs
 |[],_=>rfl
 |x::xs,n=>by simp[xq,aD,h,yy h xs]
theorem yt{f:List D->Int->List D}{c:List D->Nat}{p:List D->Int->Prop}(h:∀r n,p (f r n) n) (hc:∀r n,c (f r n)=c r):∀(xs:List (List D))(n:Int),Pa p c (xq f c xs n) n
 |[],_=>trivial
 |x::xs,n=>⟨h x n,by rw[hc];exact yt h hc xs _⟩
mutual
theorem Ca:∀(k:K)(d:D)(n:Int),pR k (H0 k d n)=pR k d
 | .int _,_,_=>rfl
 | .bool,_,_=>rfl
 | .str,_,_=>rfl
 | .sl _ ks,d,n=>by rw[JY,ux,ux,D.aQ,yy (rL ks)]
theorem rL:∀(ks:List K)(r:List D)(n:Int),jT ks (tI ks r n)=jT ks r
 |[],_,_=>rfl
 |k::ks,r,n=>by rw[u2,kQ,kQ,aq,tail_cons,Ca k,rL ks]
end
mutual
theorem ID:∀(k:K)(d:D)(n:Int),Oe k (H0 k d n) n
 | .int _,_,_=>rfl
 | .bool,_,_=>rfl
 | .str,_,_=>rfl
 | .sl _ ks,d,n=>yt (xk ks) (rL ks) d.ae n
theorem xk:∀(ks:List K)(r:List D)(n:Int),xe ks (tI ks r n) n
 |[],_,_=>trivial
 |k::ks,r,n=>by
  rw[u2,Ch,aq,tail_cons,Ca k]
  exact⟨ID k _ n,xk ks _ _⟩
end
mutual
theorem Kn:∀(k:K)(d:D),pR k (cnD k d)=pR k d
 | .int _,_=>rfl
 | .bool,_=>rfl
 | .str,_=>rfl
 | .sl _ ks,d=>by simp only[cnD,ux,D.aQ,uA (zN ks)]
theorem zN:∀(ks:List K)(r:List D),jT ks (eY ks r)=jT ks r
 |[],_=>rfl
 |k::ks,r=>by rw[cw,kQ,kQ,aq,tail_cons,Kn k,zN ks]
end
theorem vp{p:List D->Nat}:∀{xs:List (List D)}{x:List D},x∈xs->p x<=aD p xs
 |[],_,h=>by simp at h
 |y::xs,x,h=>by
  rcases mem_cons.1 h with rfl|h
  · simp[aD]
  · have:=vp (p:=p) h
    simp only[aD];omega
mutual
theorem Kt:∀(k:K)(d:D),szD k d<=140737488355328->M5 k (cnD k d)
 | .int _,_,_=>trivial
 | .bool,_,_=>trivial
 | .str,_,_=>trivial
 | .sl _ ks,d,h=>by
   simp only[szD] at h
   refine⟨by simp only[cnD,D.aQ,length_map];omega,fun r hr=> ?_⟩
   simp only[cnD,D.aQ,mem_map] at hr
   obtain⟨x,hx,rfl⟩:=hr
   have:=vp (p:=am ks) hx
   exact⟨oh ks x,B0 ks x (by omega)⟩
theorem B0:∀(ks:List K)(r:List D),am ks r<=140737488355328->xu ks (eY ks r)
 |[],_,_=>trivial
 |k::ks,r,h=>by
  rw[aw] at h
  rw[cw,DL,aq,tail_cons]
  exact⟨Kt k _ (by omega),B0 ks _ (by omega)⟩
end
def thin(C:Nat):K->Bool
 | .sl _ ks=>Nat.ble ks.length C&&thins C ks
 |_=>true
where thins (C:Nat):List K->Bool
 |[]=>true
 |k::ks=>thin C k&&thins C ks
theorem vG{p q:List D->Nat}{C:Nat}(h:∀r,p r<=C+C*q r):∀xs,aD p xs<=C*(xs.length+aD q xs)
 |[]=>by simp[aD]
 |x::xs=>by
  have h1:=h x
  have h2:=vG h xs
  simp only[aD,length_cons]
  have:C*(xs.length+1+(q x+aD q xs))=C+C*q x+C*(xs.length+aD q xs):=by
   rw[show xs.length+1+(q x+aD q xs)=1+q x+(xs.length+aD q xs) by omega,mul_add,mul_add,Nat.mul_one]
  omega
mutual
theorem JK{C:Nat}:∀(k:K)(d:D),thin C k=true->pR k d<=1+C*szD k d
 | .int _,_,_=>by simp[pR]
 | .bool,_,_=>by simp[pR]
 | .str,_,_=>by simp[pR]
 | .sl _ ks,d,h=>by
   simp only[thin,and_eq_true] at h
   have hl:=Nat.le_of_ble_eq_true h.1
   have:=vG (p:=jT ks) (q:=am ks) (C:=C) (fun r=>Nat.le_trans (AH ks r h.2) (by omega)) d.ae
   rw[ux]
   simp only[szD]
   omega
theorem AH{C:Nat}:∀(ks:List K)(r:List D),thin.thins C ks=true->jT ks r<=ks.length+C*am ks r
 |[],_,_=>by simp[jT]
 |k::ks,r,h=>by
  simp only[thin.thins,and_eq_true] at h
  have h1:=JK k (cell r 0) h.1
  have h2:=AH ks r.tail h.2
  rw[kQ,aw,mul_add,length_cons]
  omega
end
@[simp] theorem Wp (pre:List D->Prop) (f:Nat->List D->D) (ds:List D):con pre f 2000 ds=f 2000 ds:=rfl
section
variable {Φ:Fns} {post:List D->Prop} {B:Nat->List D->Prop}
end
end Go.Vx
namespace Go.Vx
open Go.RowKit (Below)
section
variable {g:List D->List (List D)}
theorem jk{xs:List (List D)}{i:Nat}(h:i<xs.length):(xs.take (i+1)).flatMap g=(xs.take i).flatMap g++g (ag xs i):=by
 rw[take_add_one,getElem?_eq_getElem h,flatMap_append,fu h]
 simp
theorem ng{q:List D->Nat}(h:∀r,(g r).length<=q r):∀xs:List (List D),(xs.flatMap g).length<=aD q xs
 |[]=>by simp[aD]
 |x::xs=>by
  have h1:=h x
  have h2:=ng h xs
  simp only[flatMap_cons,List.length_append,aD]
  omega
theorem zd{p q:List D->Nat}(h:∀r,p r<=q r):∀xs:List (List D),aD p xs<=aD q xs
 |[]=>by simp[aD]
 |x::xs=>by
  have h1:=h x
  have h2:=zd h xs
  simp only[aD]
  omega
theorem cb{p:List D->Nat}{xs:List (List D)}{i:Nat}(h:i<xs.length):p (ag xs i)<=aD p xs:=vp (iG h)
end
section
variable {Φ:Fns} {post:List D->Prop} {env:List D} {B:Nat->List D->Prop} {g:List D->List (List D)}
theorem we{id l n:Nat}{fs:List (K×Nat)}{L e0:E}{body rest:VC}{xs:List (List D)}(hn:env.length=n)(hL:∀d d',(L.den Φ (env++[d,d'])).ZY=xs.length) (hN:(xs.length:Int)<=140737488355328) (h0:(e0.den Φ env).ae=[])
 (hb:∀(i:Nat)(x:D),i<xs.length->x.ae=(xs.take i).flatMap g->body.wp Φ post (env++[.int i,x]) (eC B l fun v=>∃y,v=[.int (IntKind.i64.wrap (i+1)),y]∧y.ae=x.ae++g (ag xs i)))
 (hr:∀x,x.ae=xs.flatMap g->∀p,rest.wp Φ post (env++[.int xs.length,x]) (eC B l p)):
 (VC.loop id l 2 fs [.int 0,e0] (.ite (.op (.bin .lss .i64) [.var n,L]) body rest)).wp Φ post env B:=by
 refine kG hn hL hN (fun i x=>x.ae=(xs.take i).flatMap g) (by simp[h0]) (fun i x hi _ hx=> ?_) fun x _ hx p=>hr x (by rw[hx,List.take_of_length_le (le_refl _)]) p
 refine VC.jA (fun _ h=>h) _ _ _ _ (fun j v h=> ?_) (hb i x hi hx)
 by_cases e:j=l
 · subst e
   simp only[dD] at h⊢
   obtain⟨y,rfl,h1⟩:=h
   exact⟨y,rfl,by rw[jk hi,<-hx];exact h1⟩
 · rw[cU e] at h⊢;exact h
theorem nw{id l n:Nat}{fs:List (K×Nat)}{L e0:E}{body rest:VC}{xs:List (List D)}(hn:env.length+1=n)(hL:∀d d',(L.den Φ (env++[d',d])).ZY=xs.length) (hN:(xs.length:Int)<=140737488355328) (h0:(e0.den Φ env).ae=[])
 (hb:∀(i:Nat)(x:D),i<xs.length->x.ae=(xs.take i).flatMap g->body.wp Φ post (env++[x,.int i]) (eC B l fun v=>∃y,v=[y,.int (IntKind.i64.wrap (i+1))]∧y.ae=x.ae++g (ag xs i)))
 (hr:∀x,x.ae=xs.flatMap g->∀p,rest.wp Φ post (env++[x,.int xs.length]) (eC B l p)):
 (VC.loop id l 2 fs [e0,.int 0] (.ite (.op (.bin .lss .i64) [.var n,L]) body rest)).wp Φ post env B:=by
 refine fC hn hL hN (fun i x=>x.ae=(xs.take i).flatMap g) (by simp[h0]) (fun i x hi _ hx=> ?_) fun x _ hx p=>hr x (by rw[hx,List.take_of_length_le (le_refl _)]) p
 refine VC.jA (fun _ h=>h) _ _ _ _ (fun j v h=> ?_) (hb i x hi hx)
 by_cases e:j=l
 · subst e
   simp only[dD] at h⊢
   obtain⟨y,rfl,h1⟩:=h
   exact⟨y,rfl,by rw[jk hi,<-hx];exact h1⟩
 · rw[cU e] at h⊢;exact h
end
end Go.Vx
namespace Go.Vx
section
variable {Φ:Fns} {post:List D->Prop} {env:List D} {B:Nat->List D->Prop}
theorem Aq{id l n s:Nat}{fs:List (K×Nat)}{L:E}{body rest:VC}{N:Nat}(hn:env.length=n)(hL:∀d,(L.den Φ (env++[d])).ZY=N) (hN:(N:Int)<=140737488355328) (hs:s<=1) (I:Nat->Prop) (h0:I s)
 (hb:∀i:Nat,s<=i->i<N->I i->body.wp Φ post (env++[.int i]) (eC B l fun v=>v=[.int (IntKind.i64.wrap (i+1))]∧I (i+1)))
 (hr:∀i:Nat,N<=i->(i=N∨i=s)->I i->∀p,rest.wp Φ post (env++[.int i]) (eC B l p)):
 (VC.loop id l 1 fs [.int (s:Int)] (.ite (.op (.bin .lss .i64) [.var n,L]) body rest)).wp Φ post env B:=by
 refine wp_loop' (fun v=>∃i:Nat,v=[.int i]∧s<=i∧(i<=N∨i=s)∧I i) (fun v=>N - (cell v 0).ZY.toNat) ⟨s,rfl,by omega,by omega,h0⟩ ?_
 simp only[cA,cz]
 intro d
 refine bS fun _=> ?_
 rintro⟨i,hd,hsi,hi,hI⟩
 simp only[List.cons.injEq,and_true] at hd
 subst hd
 have hv:cell (env++[.int i]) n= .int i:=by subst hn;simp[cell]
 simp only[aO,b9,aS,a8,bF,eT,ep,hL,hv,D.aI,D.aK,aq,ay,bW,bM]
 refine⟨fun hlt=> ?_,fun hge=> ?_⟩
 · refine VC.jA (fun _ h=>h) _ _ _ _ (fun j v h=> ?_) (hb i hsi (by omega) hI)
   by_cases e:j=l
   · subst e
     simp only[dD] at h⊢
     obtain⟨rfl,h⟩:=h
     rw[w64 (by omega) (by omega)]
     exact⟨⟨i+1,by simp,by omega,by omega,h⟩,by simp;omega⟩
   · rw[cU e] at h⊢;exact h
 · exact hr i (by omega) (by omega) hI _
section
variable {id l n s:Nat} {fs:List (K×Nat)} {L c:E} {cs cs2:List E} {x rest:VC} {N:Nat}
theorem xa{p:Nat->Prop}{s i:Nat}(h:∀j,s<=j->j<i->¬p j) (hi:¬p i):∀j,s<=j->j<i+1->¬p j:=fun j h1 h2=>by
 by_cases e:j=i
 · exact e▸hi
 · exact h j h1 (by omega)
theorem xV(hn:env.length=n){i:Nat}{I:Nat->Prop}(h:I (i+1)):(VC.back l [.op (.bin .add .i64) [.var n,.int 1]]).wp Φ post (env++[.int i]) (eC B l fun v=>v=[.int (IntKind.i64.wrap (i+1))]∧I (i+1)):=by
 have hv:cell (env++[.int (i:Int)]) n= .int i:=by subst hn;simp[cell]
 simp only[dO,dD,map_cons,map_nil,b9,aS,a8,bF,eM,hv,eT,qJ,D.aI]
 exact⟨trivial,h⟩
theorem j5(p:Nat->Prop)(hn:env.length=n)(hL:∀d,(L.den Φ (env++[d])).ZY=N) (hN:(N:Int)<=140737488355328) (hs:s<=1)
 (hc:∀i,s<=i->i<N->(∀j,s<=j->j<i->¬p j)->conj Φ (env++[.int i]) cs∧((c.den Φ (env++[.int i])).ZZ=true↔p i))
 (hx:∀i,s<=i->i<N->(∀j,s<=j->j<i->¬p j)->p i->∀q,x.wp Φ post (env++[.int i]) (eC B l q))
 (hr:(∀j,s<=j->j<N->¬p j)->∀(i:Nat) q,rest.wp Φ post (env++[.int i]) (eC B l q)):
 (VC.loop id l 1 fs [.int (s:Int)] (.ite (.op (.bin .lss .i64) [.var n,L]) (.req cs (.ite c x (.back l [.op (.bin .add .i64) [.var n,.int 1]]))) rest)).wp Φ post env B:=by
 refine Aq hn hL hN hs (fun i=>∀j,s<=j->j<i->¬p j) (fun j _ _=>by omega) (fun i h1 h2 hI=> ?_) fun i h1 h2 hI q=>hr (fun j h3 h4=>hI j h3 (by omega)) i q
 obtain⟨h3,h4⟩:=hc i h1 h2 hI
 rw[aJ,aO]
 refine⟨h3,fun h=>hx i h1 h2 hI (h4.1 h) _,fun h=>xV (I:=fun i=>∀j,s<=j->j<i->¬p j) hn (xa hI fun hp=> ?_)⟩
 rw[h4.2 hp] at h;cases h
theorem Bt(p:Nat->Prop)(hn:env.length=n)(hL:∀d,(L.den Φ (env++[d])).ZY=N) (hN:(N:Int)<=140737488355328) (hs:s<=1)
 (hc:∀i,s<=i->i<N->(∀j,s<=j->j<i->¬p j)->conj Φ (env++[.int i]) cs∧conj Φ (env++[.int i]) cs2∧((c.den Φ (env++[.int i])).ZZ=true↔p i))
 (hx:∀i,s<=i->i<N->(∀j,s<=j->j<i->¬p j)->p i->∀q,x.wp Φ post (env++[.int i]) (eC B l q))
 (hr:(∀j,s<=j->j<N->¬p j)->∀(i:Nat) q,rest.wp Φ post (env++[.int i]) (eC B l q)):
 (VC.loop id l 1 fs [.int (s:Int)] (.ite (.op (.bin .lss .i64) [.var n,L]) (.req cs (.req cs2 (.ite c x (.back l [.op (.bin .add .i64) [.var n,.int 1]])))) rest)).wp Φ post env B:=by
 refine Aq hn hL hN hs (fun i=>∀j,s<=j->j<i->¬p j) (fun j _ _=>by omega) (fun i h1 h2 hI=> ?_) fun i h1 h2 hI q=>hr (fun j h3 h4=>hI j h3 (by omega)) i q
 obtain⟨h3,h5,h4⟩:=hc i h1 h2 hI
 rw[aJ,aJ,aO]
 refine⟨h3,h5,fun h=>hx i h1 h2 hI (h4.1 h) _,fun h=>xV (I:=fun i=>∀j,s<=j->j<i->¬p j) hn (xa hI fun hp=> ?_)⟩
 rw[h4.2 hp] at h;cases h
theorem cq{P:Prop}(good:Nat->Prop)(hn:env.length=n)(hL:∀d,(L.den Φ (env++[d])).ZY=N) (hN:(N:Int)<=140737488355328) (hs:s<=1) (hP:P->∀i,s<=i->i<N->good i)
 (hc:∀i,s<=i->i<N->(∀j,s<=j->j<i->good j)->conj Φ (env++[.int i]) cs∧((c.den Φ (env++[.int i])).ZZ=true↔¬good i))
 (hr:(∀j,s<=j->j<N->good j)->∀(i:Nat) q,rest.wp Φ (fun l=>l=[.bool (tt P)]) (env++[.int i]) (eC B l q)):
 (VC.loop id l 1 fs [.int (s:Int)] (.ite (.op (.bin .lss .i64) [.var n,L]) (.req cs (.ite c (.ret [.bool false]) (.back l [.op (.bin .add .i64) [.var n,.int 1]]))) rest)).wp Φ (fun l=>l=[.bool (tt P)]) env B:=by
 refine j5 (fun i=>¬good i) hn hL hN hs (fun i h1 h2 h=>hc i h1 h2 fun j h3 h4=>Classical.not_not.1 (h j h3 h4)) (fun i h1 h2 _ hp q=> ?_) fun h i q=>hr (fun j h3 h4=>Classical.not_not.1 (h j h3 h4)) i q
 show[D.bool false]=[.bool (tt P)]
 rw[(bM P).mpr fun hP'=>hp (hP hP' i h1 h2)]
theorem df{P:Prop}(good:Nat->Prop)(hn:env.length=n)(hL:∀d,(L.den Φ (env++[d])).ZY=N) (hN:(N:Int)<=140737488355328) (hs:s<=1) (hP:P->∀i,s<=i->i<N->good i)
 (hc:∀i,s<=i->i<N->(∀j,s<=j->j<i->good j)->conj Φ (env++[.int i]) cs∧conj Φ (env++[.int i]) cs2∧((c.den Φ (env++[.int i])).ZZ=true↔¬good i))
 (hr:(∀j,s<=j->j<N->good j)->∀(i:Nat) q,rest.wp Φ (fun l=>l=[.bool (tt P)]) (env++[.int i]) (eC B l q)):
 (VC.loop id l 1 fs [.int (s:Int)] (.ite (.op (.bin .lss .i64) [.var n,L]) (.req cs (.req cs2 (.ite c (.ret [.bool false]) (.back l [.op (.bin .add .i64) [.var n,.int 1]])))) rest)).wp Φ (fun l=>l=[.bool (tt P)]) env B:=by
 refine Bt (fun i=>¬good i) hn hL hN hs (fun i h1 h2 h=>hc i h1 h2 fun j h3 h4=>Classical.not_not.1 (h j h3 h4)) (fun i h1 h2 _ hp q=> ?_) fun h i q=>hr (fun j h3 h4=>Classical.not_not.1 (h j h3 h4)) i q
 show[D.bool false]=[.bool (tt P)]
 rw[(bM P).mpr fun hP'=>hp (hP hP' i h1 h2)]
end
end
theorem el:∀{ks:List K}{r:List D},sT ks r->∀(j:Nat){e:TypeId}{ks':List K},ks[j]? =some (.sl e ks')->((cell r j).ae.length:Int)<=140737488355328
 |[],_,_,j,_,_,h=>by simp at h
 |k::ks,r,hw,0,e,ks',h=>by
  simp only[getElem?_cons_zero,Option.some.injEq] at h
  subst h
  rw[xj] at hw
  have:=hw.1.1
  simp only[al] at this
  omega
 |k::ks,r,hw,j+1,e,ks',h=>by
  rw[xj] at hw
  have:=el hw.2 j (by simpa using h)
  rwa[bf] at this
theorem rO{p:List D->List D->Bool}(h:∀x y,p x y=p y x):∀xs ys:List (List D),eqR p xs ys=eqR p ys xs
 |[],[]=>rfl
 |[],_::_=>rfl
 |_::_,[]=>rfl
 |x::xs,y::ys=>by simp only[eqR,h x y,rO h xs ys]
mutual
theorem IA:∀(k:K)(d e:D),eqD k d e=eqD k e d
 | .int _,d,e=>by simp only[eqD];rw[Bool.eq_iff_iff];simp;exact eq_comm
 | .bool,d,e=>by simp only[eqD];cases d.ZZ<;>cases e.ZZ<;>rfl
 | .str,d,e=>by simp only[eqD];rw[Bool.eq_iff_iff];simp;exact eq_comm
 | .sl _ ks,d,e=>rO (fun x y=>ox ks x y) d.ae e.ae
theorem ox:∀(ks:List K)(d e:List D),aH ks d e=aH ks e d
 |[],_,_=>rfl
 |k::ks,d,e=>by rw[aH,aH,IA k,ox ks]
end
theorem E7(k:IntKind)(x y:D):em (RSh.one (RC.im (.int k))).cells [x] [y]=(x.ZY=y.ZY):=propext ⟨fun h=>h.1,fun h=>⟨h,trivial⟩⟩
theorem bY(b:Bool)(p:Prop):(b=tt p)=(b=true↔p):=propext ⟨fun h=>by rw[h,bW],fun h=>by rw[Bool.eq_iff_iff,bW];exact h⟩
theorem au{α:Type}(p:Prop)(x y:α) [Decidable p]:(bif tt p then x else y)=if p then x else y:=by
 by_cases h:p
 · rw[(bW p).mpr h,if_pos h];rfl
 · rw[(bM p).mpr h,if_neg h];rfl
theorem iK{p:List D->Prop}{xs:List (List D)}{i:Nat}(hi:i<xs.length)(h:∀j,0<=j->j<i->¬p (ag xs j)) (hp:p (ag xs i)):eR p xs 0=i:=by
 rw[nd hi (fun m hm=>h m (Nat.zero_le m) hm) hp];simp
theorem f7{p:List D->Prop}{xs:List (List D)}(h:∀j,0<=j->j<xs.length->¬p (ag xs j)):eR p xs 0= -1:=nB fun m hm=>h m (Nat.zero_le m) hm
end Go.Vx

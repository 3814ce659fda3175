import Derived.Below
import Derived.Calls
import Derived.Laws.AppendOwn
import Derived.Deep.MidRow
import Derived.Laws.StructEq
import Derived.IntWalk
import Derived.Laws.CopyRow
import Derived.Laws.MakeOwn
import Derived.Laws.BytesArg
set_option linter.all false
open List (getElem?_eq_getElem flatten_cons length_append length_cons getElem?_of_mem mem_append mem_flatten mem_of_getElem? getD_eq_getElem?_getD toArray nodup_cons length_take length_drop getD getElem?_map mem_cons getElem?_take getElem?_drop nodup_append append_assoc take_of_length_le drop_drop take_append_drop size_toArray mem_singleton replicate length_set mem_replicate getElem?_set_self flatten_append map_cons mem_map take_left' drop_left' length_singleton getD_cons_zero getD_cons_succ headD_cons)
open Nat (zero_mul zero_add add_mul le_refl lt_or_ge le_trans lt_of_lt_of_le not_lt add_assoc add_zero zero_le succ_mul mul_le_mul_right mod_lt mul_comm le_of_ble_eq_true)
open Option (mem_toList toList_some map_eq_some_iff map_some)
open Bool (and_eq_true false_eq_true not_eq_true')
open Array (ext' length_toList foldl toList_map)
namespace Go.Vx
open Go.RowKit (Below)
inductive K where
 |int (k:IntKind)
 |bool
 |str
 |sl (e:TypeId) (ks:List K)
 deriving Inhabited
inductive D where
 |int (n:Int)
 |bool (b:Bool)
 |str (s:ByteArray)
 |sl (xs:List (List D))
 deriving Inhabited
def D.ZY:D->Int| .int n=>n|_=>0
def D.ZZ:D->Bool| .bool b=>b|_=>false
def D.ao:D->ByteArray| .str s=>s|_=>ByteArray.empty
def D.ae:D->List (List D)| .sl xs=>xs|_=>[]
@[simp] theorem D.aI (n:Int):(D.int n).ZY=n:=rfl
@[simp] theorem D.aK (b:Bool):(D.bool b).ZZ=b:=rfl
@[simp] theorem D.Fx (s:ByteArray):(D.str s).ao=s:=rfl
@[simp] theorem D.aQ (xs:List (List D)):(D.sl xs).ae=xs:=rfl
def inR(k:IntKind)(n:Int):Prop:=k.min<=n∧n<=k.max
def al:Nat:=2^47
def Row(w:World)(b:Nat):Nat->List Value->Prop
 |_,[]=>True
 |o,v::vs=>w.cell? ⟨b,o,none⟩=some v∧Row w b (o+1) vs
theorem Row.get{w:World}{b:Nat}:∀{o:Nat}{vs:List Value},Row w b o vs->∀(j:Nat)(v:Value),vs[j]? =some v->w.cell? ⟨b,o+j,none⟩=some v
 |o,v::vs,h,0,u,hu=>by simp at hu;subst hu;exact h.1
 |o,v::vs,h,j+1,u,hu=>by
  have:=Row.get h.2 j u (by simpa using hu)
  rwa[show o+1+j=o+(j+1) by omega] at this
theorem Row.sK{w:World}{b:Nat}:∀{o:Nat}{vs:List Value},(∀(j:Nat)(v:Value),vs[j]? =some v->w.cell? ⟨b,o+j,none⟩=some v)->Row w b o vs
 |_,[],_=>trivial
 |o,v::vs,h=>⟨by simpa using h 0 v rfl,Row.sK fun j u hu=>by
   have:=h (j+1) u (by simpa using hu)
   rwa[show o+(j+1)=o+1+j by omega] at this⟩
theorem Row.append{w:World}{b:Nat}:∀{o:Nat}{us vs:List Value},Row w b o us->Row w b (o+us.length) vs->Row w b o (us++vs)
 |o,[],vs,_,h=>by simpa using h
 |o,u::us,vs,h,h'=>⟨h.1,Row.append h.2 (by rwa[show o+1+us.length=o+(u::us).length by simp;omega])⟩
theorem Row.left{w:World}{b:Nat}:∀{o:Nat}{us vs:List Value},Row w b o (us++vs)->Row w b o us
 |_,[],_,_=>trivial
 |_,_::_,_,h=>⟨h.1,Row.left h.2⟩
theorem Row.right{w:World}{b:Nat}:∀{o:Nat}{us vs:List Value},Row w b o (us++vs)->Row w b (o+us.length) vs
 |o,[],vs,h=>by simpa using h
 |o,u::us,vs,h=>by
  have:=Row.right h.2
  rwa[show o+1+us.length=o+(u::us).length by simp;omega] at this
mutual
def bV(w:World)(M:Nat->Nat->Prop):K->Value->D->Prop
 | .int k,v,d=>v= .int k d.ZY∧inR k d.ZY
 | .bool,v,d=>v= .bool d.ZZ
 | .str,v,d=>v= .string d.ao∧d.ao.size<=al
 | .sl _ ks,v,d=>∃a cap,v= .slice a d.ae.length cap∧d.ae.length<=cap∧d.ae.length<=al∧
    (d.ae=[]∨∃b off,a=some ⟨b,off,none⟩∧∀(i:Nat)(row:List D),d.ae[i]? =some row->
      ∃vs,Row w b (off+i*ks.length) vs∧(∀j,j<ks.length->¬M b (off+i*ks.length+j))∧aP w M ks vs row)
def aP(w:World)(M:Nat->Nat->Prop):List K->List Value->List D->Prop
 |[],vs,_=>vs=[]
 |k::ks,vs,ds=>∃v vs',vs=v::vs'∧bV w M k v (ds.headD default)∧aP w M ks vs' ds.tail
end
theorem aP.length{w:World}{M:Nat->Nat->Prop}:∀{ks:List K}{vs:List Value}{ds:List D},aP w M ks vs ds->vs.length=ks.length
 |[],vs,ds,h=>by simp[aP] at h;simp[h]
 |k::ks,vs,ds,h=>by
  obtain⟨v,vs',rfl,_,h'⟩:=h
  simp[aP.length h']
def Keeps(w:World)(M:Nat->Nat->Prop)(w':World)(M':Nat->Nat->Prop):Prop:=
 ∀b o v,w.cell? ⟨b,o,none⟩=some v->¬M b o->w'.cell? ⟨b,o,none⟩=some v∧¬M' b o
theorem Keeps.refl(w:World)(M:Nat->Nat->Prop):Keeps w M w M:=fun _ _ _ h n=>⟨h,n⟩
theorem Keeps.trans{w w' w'':World}{M M' M'':Nat->Nat->Prop}(h:Keeps w M w' M')(h':Keeps w' M' w'' M''):Keeps w M w'' M'':=
 fun b o v hc hn=>let⟨c,n⟩:=h b o v hc hn;h' b o v c n
theorem Row.keeps{w w':World}{M M':Nat->Nat->Prop}(hk:Keeps w M w' M'){b:Nat}{o:Nat}{vs:List Value}(h:Row w b o vs)(hn:∀j,j<vs.length->¬M b (o+j)):
 Row w' b o vs∧∀j,j<vs.length->¬M' b (o+j):=by
 refine⟨Row.sK fun j v hv=> ?_,fun j hj=> ?_⟩
 · exact(hk b (o+j) v (h.get j v hv) (hn j (List.getElem?_eq_some_iff.1 hv).1)).1
 · exact(hk b (o+j) vs[j] (h.get j _ (getElem?_eq_getElem hj)) (hn j hj)).2
mutual
theorem bV.keeps{w w':World}{M M':Nat->Nat->Prop}(hk:Keeps w M w' M'):∀{k:K}{v:Value}{d:D},bV w M k v d->bV w' M' k v d
 | .int _,_,_,h=>h
 | .bool,_,_,h=>h
 | .str,_,_,h=>h
 | .sl _ ks,v,d,h=>by
   obtain⟨a,cap,rfl,h1,h2,h3⟩:=h
   refine⟨a,cap,rfl,h1,h2,h3.imp id ?_⟩
   rintro⟨b,off,rfl,hr⟩
   refine⟨b,off,rfl,fun i row hi=> ?_⟩
   obtain⟨vs,r,n,c⟩:=hr i row hi
   have hl:=c.length
   obtain⟨r',n'⟩:=r.keeps hk (by rw[hl];exact n)
   exact⟨vs,r',fun j hj=>n' j (by omega),aP.keeps hk c⟩
theorem aP.keeps{w w':World}{M M':Nat->Nat->Prop}(hk:Keeps w M w' M'):∀{ks:List K}{vs:List Value}{ds:List D},aP w M ks vs ds->aP w' M' ks vs ds
 |[],_,_,h=>h
 |_::_,_,_,h=>by
  obtain⟨v,vs',rfl,hc,h'⟩:=h
  exact⟨v,vs',rfl,bV.keeps hk hc,aP.keeps hk h'⟩
end
mutual
def mx(w:World):K->Value->D->List Nat->Prop
 | .int k,v,d,fp=>v= .int k d.ZY∧inR k d.ZY∧fp=[]
 | .bool,v,d,fp=>v= .bool d.ZZ∧fp=[]
 | .str,v,d,fp=>v= .string d.ao∧d.ao.size<=al∧fp=[]
 | .sl e ks,v,d,fp=>∃(vss:List (List Value)) (fps:List (List Nat)),w.ownsRow 0 e ks.length v d.ae.length vss.flatten∧d.ae.length<=al∧
    vss.length=d.ae.length∧fps.length=d.ae.length∧fp=v.ownBlock.toList++fps.flatten∧
    ∀(i:Nat)(row:List D)(vs:List Value)(f:List Nat),d.ae[i]? =some row->vss[i]? =some vs->fps[i]? =some f->bj w ks vs row f
def bj(w:World):List K->List Value->List D->List Nat->Prop
 |[],vs,_,fp=>vs=[]∧fp=[]
 |k::ks,vs,ds,fp=>∃v vs' f f',vs=v::vs'∧fp=f++f'∧mx w k v (ds.headD default) f∧bj w ks vs' ds.tail f'
end
theorem bj.length{w:World}:∀{ks:List K}{vs:List Value}{ds:List D}{fp:List Nat},bj w ks vs ds fp->vs.length=ks.length
 |[],vs,ds,fp,h=>by simp[bj] at h;simp[h]
 |k::ks,vs,ds,fp,h=>by
  obtain⟨v,vs',f,f',rfl,_,_,h'⟩:=h
  simp[bj.length h']
theorem jx{α:Type}(n:Nat):∀(vss:List (List α)),(∀vs∈vss,vs.length=n)->∀(i:Nat)(vs:List α)(j:Nat)(v:α),
 vss[i]? =some vs->vs[j]? =some v->vss.flatten[i*n+j]? =some v
 |[],_,i,vs,j,v,h,_=>by simp at h
 |us::vss,hn,0,vs,j,v,h,hv=>by
  simp at h
  subst h
  simp only[flatten_cons,zero_mul,zero_add]
  rw[List.getElem?_append_left (List.getElem?_eq_some_iff.1 hv).1]
  exact hv
 |us::vss,hn,i+1,vs,j,v,h,hv=>by
  have hu:=hn us (by simp)
  simp only[flatten_cons]
  rw[List.getElem?_append_right (by rw[hu,add_mul];omega),hu]
  have:=jx n vss (fun x hx=>hn x (by simp[hx])) i vs j v (by simpa using h) hv
  rwa[show(i+1)*n+j - n=i*n+j by rw[add_mul];omega]
theorem hU{w:World}{base:Nat}{e:TypeId}{size:Nat}{v:Value}{n:Nat}{vss:List (List Value)}(h:w.ownsRow base e size v n vss.flatten)
 (hs:∀vs∈vss,vs.length=size) {g:Nat} (hg:v.ownBlock=some g) {i:Nat} {vs:List Value} (hi:vss[i]? =some vs):Row w g (i*size) vs:=by
 refine Row.sK fun j u hu=> ?_
 have:=h.cells hg (i*size+j) u (jx size vss hs i vs j u hi hu)
 have e:((⟨g,0,none⟩:Addr).add (i*size+j))=⟨g,i*size+j,none⟩:=by unfold Addr.add;split<;>simp_all
 rwa[e] at this
theorem bm{α:Type}{n:Nat}:∀{vss:List (List α)},(∀vs∈vss,vs.length=n)->vss.flatten.length=vss.length*n
 |[],_=>by simp
 |vs::vss,h=>by
  rw[flatten_cons,length_append,h vs (by simp),bm (fun x hx=>h x (by simp[hx])),length_cons,add_mul]
  omega
theorem be{w:World}{base:Nat}{e:TypeId}{size:Nat}{v:Value}{n:Nat}{xs:List Value}(h:w.ownsRow base e size v n xs):
 (v= .slice none 0 0∧n=0)∨∃g cap,v= .slice (some ⟨g,0,none⟩) n cap∧n<=cap∧g<w.heap.size:=by
 rcases h.2 with h'|⟨g,cap,cur,rfl,_,hg,hn,_⟩
 · exact .inl h'
 · exact .inr ⟨g,cap,rfl,hn,(Array.getElem?_eq_some_iff.1 hg).1⟩
mutual
theorem mx.toC{w:World}{M:Nat->Nat->Prop}:∀{k:K}{v:Value}{d:D}{fp:List Nat},mx w k v d fp->(∀b∈fp,∀o,¬M b o)->bV w M k v d
 | .int _,_,_,_,h,_=>⟨h.1,h.2.1⟩
 | .bool,_,_,_,h,_=>h.1
 | .str,_,_,_,h,_=>⟨h.1,h.2.1⟩
 | .sl e ks,v,d,fp,h,hm=>by
   obtain⟨vss,fps,hown,hmax,hl1,hl2,rfl,hrows⟩:=h
   have hlen:∀vs∈vss,vs.length=ks.length:=by
    intro vs hv
    obtain⟨i,hi⟩:=getElem?_of_mem hv
    have hlt:=(List.getElem?_eq_some_iff.1 hi).1
    exact(hrows i d.ae[i] vs fps[i] (getElem?_eq_getElem (by omega)) hi (getElem?_eq_getElem (by omega))).length
   rcases be hown with ⟨rfl,h0⟩|⟨g,cap,rfl,hn,_⟩
   · exact⟨none,0,by rw[h0],by omega,hmax,.inl (List.eq_nil_of_length_eq_zero h0)⟩
   · refine⟨some ⟨g,0,none⟩,cap,rfl,hn,hmax,.inr ⟨g,0,rfl,fun i row hi=> ?_⟩⟩
     have hlt:=(List.getElem?_eq_some_iff.1 hi).1
     have hvi:vss[i]? =some vss[i]:=getElem?_eq_getElem (by omega)
     have hfi:fps[i]? =some fps[i]:=getElem?_eq_getElem (by omega)
     refine⟨vss[i],?_,fun j _=>hm g (by simp[Value.ownBlock]) _,bj.toC (hrows i row _ _ hi hvi hfi) fun b hb o=>hm b ?_ o⟩
     · rw[zero_add]
       exact hU hown hlen rfl hvi
     · simp only[mem_append,mem_flatten]
       exact .inr ⟨fps[i],mem_of_getElem? hfi,hb⟩
theorem bj.toC{w:World}{M:Nat->Nat->Prop}:∀{ks:List K}{vs:List Value}{ds:List D}{fp:List Nat},bj w ks vs ds fp->(∀b∈fp,∀o,¬M b o)->aP w M ks vs ds
 |[],_,_,_,h,_=>h.1
 |_::_,_,_,_,h,hm=>by
  obtain⟨v,vs',f,f',rfl,rfl,hc,h'⟩:=h
  exact⟨v,vs',rfl,mx.toC hc fun b hb=>hm b (by simp[hb]),bj.toC h' fun b hb=>hm b (by simp[hb])⟩
end
mutual
theorem mx.keeps{w w':World}:∀{k:K}{v:Value}{d:D}{fp:List Nat},mx w k v d fp->(∀b∈fp,w'.heap[b]? =w.heap[b]?)->mx w' k v d fp
 | .int _,_,_,_,h,_=>h
 | .bool,_,_,_,h,_=>h
 | .str,_,_,_,h,_=>h
 | .sl e ks,v,d,fp,h,hm=>by
   obtain⟨vss,fps,hown,hmax,hl1,hl2,rfl,hrows⟩:=h
   refine⟨vss,fps,⟨hown.1,hown.2.imp id ?_⟩,hmax,hl1,hl2,rfl,fun i row vs f h1 h2 h3=>bj.keeps (hrows i row vs f h1 h2 h3) fun b hb=>hm b ?_⟩
   · rintro⟨g,cap,cur,rfl,hb,hg,r⟩
     exact⟨g,cap,cur,rfl,hb,by rw[hm g (by simp[Value.ownBlock])];exact hg,r⟩
   · simp only[mem_append,mem_flatten]
     exact .inr ⟨f,mem_of_getElem? h3,hb⟩
theorem bj.keeps{w w':World}:∀{ks:List K}{vs:List Value}{ds:List D}{fp:List Nat},bj w ks vs ds fp->(∀b∈fp,w'.heap[b]? =w.heap[b]?)->bj w' ks vs ds fp
 |[],_,_,_,h,_=>h
 |_::_,_,_,_,h,hm=>by
  obtain⟨v,vs',f,f',rfl,rfl,hc,h'⟩:=h
  exact⟨v,vs',f,f',rfl,rfl,mx.keeps hc fun b hb=>hm b (by simp[hb]),bj.keeps h' fun b hb=>hm b (by simp[hb])⟩
end
mutual
theorem mx.lt{w:World}:∀{k:K}{v:Value}{d:D}{fp:List Nat},mx w k v d fp->∀b∈fp,b<w.heap.size
 | .int _,_,_,_,h=>by simp[h.2.2]
 | .bool,_,_,_,h=>by simp[h.2]
 | .str,_,_,_,h=>by simp[h.2.2]
 | .sl e ks,v,d,fp,h=>by
   obtain⟨vss,fps,hown,hmax,hl1,hl2,rfl,hrows⟩:=h
   intro b hb
   simp only[mem_append,mem_flatten,mem_toList] at hb
   rcases hb with hb|⟨f,hf,hb⟩
   · exact(hown.lt b hb).2
   · obtain⟨i,hi⟩:=getElem?_of_mem hf
     have hlt:=(List.getElem?_eq_some_iff.1 hi).1
     exact bj.lt (hrows i d.ae[i] vss[i] f (getElem?_eq_getElem (by omega)) (getElem?_eq_getElem (by omega)) hi) b hb
theorem bj.lt{w:World}:∀{ks:List K}{vs:List Value}{ds:List D}{fp:List Nat},bj w ks vs ds fp->∀b∈fp,b<w.heap.size
 |[],_,_,_,h=>by simp[h.2]
 |_::_,_,_,_,h=>by
  obtain⟨v,vs',f,f',rfl,rfl,hc,h'⟩:=h
  intro b hb
  rcases mem_append.1 hb with hb|hb
  · exact mx.lt hc b hb
  · exact bj.lt h' b hb
end
end Go.Vx
namespace Go.Vx
open Go.RowKit (Below)
inductive AC where
 |dat (k:K) (d:D)
 |nil (e:TypeId) (ks:List K)
 |ref (key:Nat) (part:Option (Nat×Nat))
 |dead
 deriving Inhabited
inductive AV where
 |one (c:AC)
 |agg (cs:List AC)
 |ptr (key i j:Nat)
 |pim (ks:List K) (row:List D)
 |tup (vs:List AV)
 |whn (b:Bool) (v:AV)
 /-- what lies in a cell of an array that nobody else looks into -/
 |lod (key i j:Nat)
 |dead
 deriving Inhabited
inductive Ob where
 |box (T:TypeId) (cs:List AC)
 |arr (e:TypeId) (ks:List K) (deep:Bool) (xs:List (List D))
 |sealed (e:TypeId) (ks:List K) (xs:List (List D))
 /-- used up:what still names it is not looked at -/
 |gone
 /-- an array,all of its own,that nobody else looks into -/
 |arx (e:TypeId) (ks:List K) (xs:List (List D))
 deriving Inhabited
structure St where
 tmps:List AV
 objs:List (Nat×Ob)
 deriving Inhabited
def look(x:Nat):List (Nat×Ob)->Option Ob
 |[]=>none
 |(y,o)::l=>if x=y then some o else look x l
def drop'(x:Nat):List (Nat×Ob)->List (Nat×Ob)
 |[]=>[]
 |(y,o)::l=>if x=y then drop' x l else(y,o)::drop' x l
def St.tmp(σ:St)(t:Nat):AV:=σ.tmps.getD t .dead
def St.obj(σ:St)(x:Nat):Option Ob:=look x σ.objs
def St.ew(σ:St)(t:Nat)(v:AV):St:={ σ with tmps:=σ.tmps.set t v }
def St.aU(σ:St)(x:Nat)(o:Ob):St:={ σ with objs:=(x,o)::drop' x σ.objs }
def St.Rf(σ:St)(x:Nat):St:={ σ with objs:=drop' x σ.objs }
theorem rJ(x y:Nat):∀l,look y (drop' x l)=if y=x then none else look y l
 |[]=>by simp[drop',look]
 |(z,o)::l=>by
  by_cases h:x=z
  · subst h
    rw[show drop' x ((x,o)::l)=drop' x l from if_pos rfl,rJ x y l]
    by_cases h2:y=x<;>simp[h2,look]
  · rw[show drop' x ((z,o)::l)=(z,o)::drop' x l from if_neg h]
    by_cases h2:y=z
    · subst h2
      have:¬y=x:=fun e=>h e.symm
      simp[look,this]
    · simp[look,h2,rJ x y l]
theorem St.ap(σ:St)(x y:Nat)(o:Ob):(σ.aU x o).obj y=if y=x then some o else σ.obj y:=by
 by_cases h:y=x
 · simp[St.obj,St.aU,look,h]
 · simp[St.obj,St.aU,look,h,rJ]
@[simp] theorem St.U5 (σ:St) (t:Nat) (v:AV) (y:Nat):(σ.ew t v).obj y=σ.obj y:=rfl
@[simp] theorem St.PP (σ:St) (x:Nat) (o:Ob) (t:Nat):(σ.aU x o).tmp t=σ.tmp t:=rfl
@[simp] theorem St.Wc (σ:St) (x:Nat) (t:Nat):(σ.Rf x).tmp t=σ.tmp t:=rfl
theorem St.n5(σ:St)(t s:Nat)(v:AV)(h:t<σ.tmps.length):(σ.ew t v).tmp s=if s=t then v else σ.tmp s:=by
 unfold St.tmp St.ew
 simp only[getD_eq_getElem?_getD,List.getElem?_set]
 by_cases e:t=s
 · subst e;simp[h]
 · simp[e,show ¬s=t from fun h=>e h.symm]
structure Gh where
 hd:Nat->Value
 fp:Nat->List Nat
def bq:Value->Option Nat
 | .pointer (some a)=>some a.block
 | .slice (some a) _ _=>some a.block
 |_=>none
def Ob.live:Option Ob->Bool
 |some (.box ..)=>true
 |some (.arr ..)=>true
 |_=>false
def Ob.isX:Option Ob->Bool
 |some (.arx ..)=>true
 |_=>false
def Ob.held(o:Option Ob):Bool:=Ob.live o||Ob.isX o
def Me(M:Nat->Nat->Prop)(obj:Nat->Option Ob)(hd:Nat->Value)(fp:Nat->List Nat)(b o:Nat):Prop:=
 M b o∨(∃x,Ob.live (obj x)=true∧bq (hd x)=some b)∨∃x,Ob.isX (obj x)=true∧b∈fp x
def Hd(sz:Nat)(h:Value)(off len:Nat)(v:Value):Prop:=
 ∃a n cap a',h= .slice a n cap∧v= .slice a' len (cap - off)∧off+len<=n∧n<=cap∧(off=0->a'=a)∧(0<len->a'=a.map (·.add (off*sz)))
structure Sur where
 w:World
 me:Nat->Nat->Prop
 obj:Nat->Option Ob
 hd:Nat->Value
def cut{α:Type}(xs:List α):Option (Nat×Nat)->List α
 |none=>xs
 |some (off,len)=>(xs.drop off).take len
def cn{α:Type}(xs:List α):Option (Nat×Nat)->Nat
 |none=>xs.length
 |some (_,len)=>len
def cC:Option (Nat×Nat)->Nat
 |none=>0
 |some (off,_)=>off
def Ai{α:Type}(xs:List α):Option (Nat×Nat)->Prop
 |none=>True
 |some (off,len)=>off+len<=xs.length
def aB(s:Sur)(x:Nat)(p:Option (Nat×Nat))(v:Value):Prop:=
 match s.obj x with
 |some (.arr _ ks _ xs)=>Ai xs p∧(match p with|none=>v=s.hd x|some (off,len)=>Hd ks.length (s.hd x) off len v)
 |some (.sealed e ks xs)=>Ai xs p∧bV s.w s.me (.sl e ks) v (.sl (cut xs p))
 |some (.box ..)=>False
 |some .gone=>True
 |some (.arx _ _ _)=>match p with|none=>v=s.hd x|some _=>True
 |none=>False
def aV(s:Sur)(x i j:Nat)(v:Value):Prop:=
 match s.obj x with
 |some (.box ..)=>∃b,s.hd x= .pointer (some ⟨b,0,none⟩)∧v= .pointer (some ⟨b,j,none⟩)
 |some (.arr _ ks _ _)=>∃b n cap,s.hd x= .slice (some ⟨b,0,none⟩) n cap∧v= .pointer (some ⟨b,i*ks.length+j,none⟩)
 |some (.arx _ ks _)=>∃b n cap,s.hd x= .slice (some ⟨b,0,none⟩) n cap∧v= .pointer (some ⟨b,i*ks.length+j,none⟩)
 |some (.sealed ..)=>True
 |some .gone=>True
 |none=>False
def fK(w:World)(ks:List K)(h:Value)(i j:Nat)(v:Value):Prop:=
 ∃b n cap,h= .slice (some ⟨b,0,none⟩) n cap∧(∃t l,ks[j]? =some (.sl t l))∧w.cell? ⟨b,i*ks.length+j,none⟩=some v
def cB(s:Sur)(x i j:Nat)(v:Value):Prop:=
 match s.obj x with
 |some (.arx _ ks _)=>fK s.w ks (s.hd x) i j v
 |some _=>True
 |none=>False
def iN(s:Sur):AC->Value->Prop
 | .dat k d,v=>bV s.w s.me k v d
 | .nil _ _,v=>v= .slice none 0 0
 | .ref x p,v=>aB s x p v
 | .dead,_=>True
def AC.dn:AC->AC
 | .nil e ks=>.dat (.sl e ks) (.sl [])
 |c=>c
def AV.dn:AV->AV
 | .one c=>.one c.dn
 |v=>v
theorem iN.dn{s:Sur}{c:AC}{v:Value}(h:iN s c v):iN s c.dn v:=by
 cases c with
 |nil e ks=>rw[show v=_ from h];exact⟨none,0,rfl,le_refl _,by simp[al],.inl rfl⟩
 |_=>exact h
def aE(s:Sur):List AC->List Value->Prop
 |[],vs=>vs=[]
 |c::cs,vs=>∃v vs',vs=v::vs'∧v.oneCell'=true∧iN s c v∧aE s cs vs'
mutual
def bB(s:Sur):AV->Value->Prop
 | .one c,v=>iN s c v∧v.oneCell'=true
 | .agg cs,v=>∃vs,v= .agg (toArray vs)∧aE s cs vs
 | .ptr x i j,v=>aV s x i j v
 | .pim ks row,v=>∃b o vs,v= .pointer (some ⟨b,o,none⟩)∧Row s.w b o vs∧(∀j,j<ks.length->¬s.me b (o+j))∧aP s.w s.me ks vs row
 | .tup us,v=>∃vs,v= .tuple (toArray vs)∧f9 s us vs
 | .whn b u,v=>(b=true->bB s u v)∧(b=false->v=undef)
 | .lod x i j,v=>cB s x i j v
 | .dead,_=>True
def f9(s:Sur):List AV->List Value->Prop
 |[],vs=>vs=[]
 |u::us,vs=>∃v vs',vs=v::vs'∧bB s u v∧f9 s us vs'
end
theorem bB.dn{s:Sur}{u:AV}{v:Value}(h:bB s u v):bB s u.dn v:=by
 cases u with
 |one c=>exact⟨h.1.dn,h.2⟩
 |_=>exact h
structure Shift (s s':Sur):Prop where
 keeps:Keeps s.w s.me s'.w s'.me
 ref:∀x p v,aB s x p v->aB s' x p v
 ptr:∀x i j v,aV s x i j v->aV s' x i j v
 lod:∀x i j v,cB s x i j v->cB s' x i j v
 obx:∀x o,s.obj x=some o->∃o',s'.obj x=some o'∧∀e ks xs',o'= .arx e ks xs'->(∃xs,o= .arx e ks xs)∧s'.hd x=s.hd x
theorem Shift.refl(s:Sur):Shift s s:=⟨Keeps.refl _ _,fun _ _ _ h=>h,fun _ _ _ _ h=>h,fun _ _ _ _ h=>h,fun _ o h=>⟨o,h,fun _ _ xs' e=>⟨⟨xs',e⟩,rfl⟩⟩⟩
theorem Shift.trans{s s' s'':Sur}(h:Shift s s')(h':Shift s' s''):Shift s s'':=
 ⟨h.keeps.trans h'.keeps,fun x p v k=>h'.ref x p v (h.ref x p v k),fun x i j v k=>h'.ptr x i j v (h.ptr x i j v k),fun x i j v k=>h'.lod x i j v (h.lod x i j v k),fun x o k=>by
  obtain⟨o1,k1,f1⟩:=h.obx x o k
  obtain⟨o2,k2,f2⟩:=h'.obx x o1 k1
  refine⟨o2,k2,fun e ks xs' e2=> ?_⟩
  obtain⟨⟨xs1,e1⟩,h1⟩:=f2 e ks xs' e2
  obtain⟨q,h0⟩:=f1 e ks xs1 e1
  exact⟨q,h1.trans h0⟩⟩
theorem iN.shift{s s':Sur}(h:Shift s s'):∀{c:AC}{v:Value},iN s c v->iN s' c v
 | .dat _ _,_,k=>bV.keeps h.keeps k
 | .nil _ _,_,k=>k
 | .ref _ _,_,k=>h.ref _ _ _ k
 | .dead,_,_=>trivial
theorem aE.shift{s s':Sur}(h:Shift s s'):∀{cs:List AC}{vs:List Value},aE s cs vs->aE s' cs vs
 |[],_,k=>k
 |_::_,_,k=>let⟨v,vs',e,o,r,r'⟩:=k;⟨v,vs',e,o,r.shift h,aE.shift h r'⟩
mutual
theorem bB.shift{s s':Sur}(h:Shift s s'):∀{u:AV}{v:Value},bB s u v->bB s' u v
 | .one _,_,k=>⟨k.1.shift h,k.2⟩
 | .agg _,_,k=>let⟨vs,e,r⟩:=k;⟨vs,e,r.shift h⟩
 | .ptr _ _ _,_,k=>h.ptr _ _ _ _ k
 | .pim ks row,_,k=>by
   obtain⟨b,o,vs,rfl,r,n,c⟩:=k
   have hl:=c.length
   obtain⟨r',n'⟩:=r.keeps h.keeps (by rw[hl];exact n)
   exact⟨b,o,vs,rfl,r',fun j hj=>n' j (by omega),c.keeps h.keeps⟩
 | .tup _,_,k=>let⟨vs,e,r⟩:=k;⟨vs,e,f9.shift h r⟩
 | .whn _ _,_,k=>⟨fun e=>bB.shift h (k.1 e),k.2⟩
 | .lod _ _ _,_,k=>h.lod _ _ _ _ k
 | .dead,_,_=>trivial
theorem f9.shift{s s':Sur}(h:Shift s s'):∀{us:List AV}{vs:List Value},f9 s us vs->f9 s' us vs
 |[],_,k=>k
 |_::_,_,k=>let⟨v,vs',e,r,r'⟩:=k;⟨v,vs',e,bB.shift h r,f9.shift h r'⟩
end
def bv(s:Sur)(fp:Nat->List Nat)(x:Nat):Prop:=
 match s.obj x with
 |none=>fp x=[]
 |some (.sealed ..)=>fp x=[]
 |some .gone=>fp x=[]
 |some (.box T cs)=>∃b vs,s.hd x= .pointer (some ⟨b,0,none⟩)∧fp x=[b]∧s.w.heap[b]? =some (.cells (toArray vs) T (0,0))∧aE s cs vs
 |some (.arr e ks dp xs)=>∃(vss:List (List Value)) (fps:List (List Nat)),s.w.ownsRow 0 e ks.length (s.hd x) xs.length vss.flatten∧xs.length<=al∧
   vss.length=xs.length∧fps.length=xs.length∧fp x=(s.hd x).ownBlock.toList++fps.flatten∧
   (∀(i:Nat)(row:List D)(vs:List Value)(f:List Nat),xs[i]? =some row->vss[i]? =some vs->fps[i]? =some f->
     if dp then bj s.w ks vs row f else(aP s.w s.me ks vs row∧f=[]))
 |some (.arx e ks xs)=>∃(vss:List (List Value)) (fps:List (List Nat)),s.w.ownsRow 0 e ks.length (s.hd x) xs.length vss.flatten∧xs.length<=al∧
   vss.length=xs.length∧fps.length=xs.length∧fp x=(s.hd x).ownBlock.toList++fps.flatten∧
   (∀(i:Nat)(row:List D)(vs:List Value)(f:List Nat),xs[i]? =some row->vss[i]? =some vs->fps[i]? =some f->bj s.w ks vs row f)
structure TI where
 ok:Bool
 ks:List K
 agg:Bool
 gI:List (Nat×TypeId)
 sl:Option TypeId
 ik:Option IntKind
 isStr:Bool
 bytes:Nat
 /-- a struct of plain fields -/
 eq:Bool
 deriving Inhabited
def zeroV:K->Value
 | .int k=>.int k 0
 | .bool=>.bool false
 | .str=>.string ⟨#[]⟩
 | .sl _ _=>.slice none 0 0
def yq:K->D
 | .int _=>.int 0
 | .bool=>.bool false
 | .str=>.str ⟨#[]⟩
 | .sl _ _=>.sl []
def nT(i:TI):TypeDesc->Prop
 | .struct fs=>i.agg=true∧i.sl=none∧i.ik=none∧i.isStr=false∧fs.toList.map (fun f=>(f.offset,f.type))=i.gI
 | .slice e=>i.agg=false∧i.sl=some e∧i.ik=none∧i.isStr=false∧∃ks,i.ks=[.sl e ks]
 | .int k=>i.agg=false∧i.sl=none∧i.ik=some k∧i.isStr=false∧i.ks=[.int k]
 | .bool=>i.agg=false∧i.sl=none∧i.ik=none∧i.isStr=false∧i.ks=[.bool]
 | .string=>i.agg=false∧i.sl=none∧i.ik=none∧i.isStr=true∧i.ks=[.str]
 |_=>False
def xZ(P:Program):Nat->List Field->List K->Prop
 |_,[],[]=>True
 |j,f::fs,k::ks=>f.name≠ "_" ∧f.offset=j∧(match k with
  | .int k=>P.underlying f.type=some (.int k)
  | .bool=>P.underlying f.type=some .bool
  | .str=>P.underlying f.type=some .string
  | .sl _ _=>False)∧xZ P (j+1) fs ks
 |_,_,_=>False
structure TOk (P:Program) (T:TypeId->TI) (t:TypeId):Prop where
 ex:∃i d z,P.info? t=some i∧P.underlying t=some d∧i.size=(T t).ks.length∧i.bytes=(T t).bytes∧i.zero=some z∧z.cells.toList=(T t).ks.map zeroV∧nT (T t) d
 eqs:(T t).eq=true->∃fs,P.underlying t=some (.struct fs)∧P.stoodInHeld t=false∧P.eqGuardType P.depth t=false∧xZ P 0 fs.toList (T t).ks
structure Fr (w0:World) (X:List Nat) (w:World):Prop where
 os:w.os=w0.os
 tape:w.tape=w0.tape
 output:w.output=w0.output
 size:w0.heap.size<=w.heap.size
 block:∀k,k<w0.heap.size->k ∉ X->w.heap[k]? =w0.heap[k]?
def Nn:List Int:=(List.range 20).map fun i=>((10^i:Nat):Int)
def glob(P:Program)(w:World):Prop:=
 (∀g,P.globalNamed "internal/strconv.uint64pow10" =some g->∃t r,w.heap[g]? =some (.cells (Nn.map fun z=>Value.int .u64 z).toArray t r))∧
 ∀g,P.globalNamed "internal/bytealg.MaxLen" =some g->∃m cs t r,w.heap[g]? =some (.cells (toArray (Value.int .i64 m::cs)) t r)
theorem glob.fr{P:Program}{w w':World}(h:glob P w)(hf:Fr w [] w'):glob P w':=by
 refine⟨fun g hg=> ?_,fun g hg=> ?_⟩
 · obtain⟨t,r,e⟩:=h.1 g hg
   exact⟨t,r,by rw[hf.block g (Array.getElem?_eq_some_iff.1 e).1 (by simp)];exact e⟩
 · obtain⟨m,cs,t,r,e⟩:=h.2 g hg
   exact⟨m,cs,t,r,by rw[hf.block g (Array.getElem?_eq_some_iff.1 e).1 (by simp)];exact e⟩
structure Cx where
 P:Program
 T:TypeId->TI
 tok:∀t,(T t).ok=true->TOk P T t
 /-- the memory at its begin -/
 w0:World
 /-- older blocks that it may write:those of what it was handed to write -/
 X:List Nat
 /-- older cells that others may write later -/
 M:Nat->Nat->Prop
 oL:∀b o,M b o->b<w0.heap.size∧b ∉ X
 /-- how many temporaries -/
 n:Nat
 /-- the arrays that it was handed to write:their names,types,kinds and heads -/
 pin:List (Nat×TypeId×List K×Value)
 u5:∀p∈pin,1000000000<=p.1
 /-- the boxes that it was handed by pointer:their names,the pointers -/
 yO:List (Nat×Value)
 qR:∀p∈yO,1000000000<=p.1
 /-- the library's own variables stay -/
 gl:∀w,Fr w0 X w->glob P w
def sur(C:Cx)(g:Gh)(σ:St)(w:World):Sur:=⟨w,Me C.M σ.obj g.hd g.fp,σ.obj,g.hd⟩
def Pin(C:Cx)(s:Sur):Prop:=(∀p∈C.pin,∃o,s.obj p.1=some o∧∀e ks xs,o= .arx e ks xs->e=p.2.1∧ks=p.2.2.1∧s.hd p.1=p.2.2.2∧∀i j u,fK C.w0 p.2.2.1 p.2.2.2 i j u->fK s.w p.2.2.1 p.2.2.2 i j u)∧∀p∈C.yO,aV s p.1 0 0 p.2
theorem Pin.shift{C:Cx}{s s':Sur}(h:Pin C s)(hs:Shift s s'):Pin C s':=⟨fun p hp=>by
 obtain⟨o,ho,hx⟩:=h.1 p hp
 obtain⟨o',ho',hx'⟩:=hs.obx _ _ ho
 refine⟨o',ho',fun e ks xs' e1=> ?_⟩
 obtain⟨⟨xs,e2⟩,h2⟩:=hx' e ks xs' e1
 obtain⟨q1,q2,q3,q4⟩:=hx e ks xs e2
 refine⟨q1,q2,h2.trans q3,fun i j u hu=> ?_⟩
 have:=hs.lod p.1 i j u (by unfold cB;rw[ho,e2];simp only;rw[q2,q3];exact q4 i j u hu)
 unfold cB at this
 rw[ho',e1] at this
 simp only at this
 rwa[h2,q2,q3] at this,fun p hp=>hs.ptr _ _ _ _ (h.2 p hp)⟩
structure Rel (C:Cx) (g:Gh) (σ:St) (a:Act) (w:World):Prop where
 defers:a.defers=[]
 size:a.tmps.size=C.n
 len:σ.tmps.length=C.n
 tmps:∀t,bB (sur C g σ w) (σ.tmp t) (a.tmps.getD t undef)
 objs:∀x,bv (sur C g σ w) g.fp x
 own:∀x,(g.fp x).Nodup
 apart:∀x y,x≠y->∀b,b∈g.fp x->b ∉ g.fp y
 alw:∀x b,b∈g.fp x->(C.w0.heap.size<=b∨b∈C.X)∧b<w.heap.size
 fr:Fr C.w0 C.X w
 pin:Pin C (sur C g σ w)
end Go.Vx
namespace Go.Vx
open Go.RowKit (Below)
theorem po{α:Type}(a:Array α)(d t:Nat)(v u:α)(h:d<a.size):(a.setIfInBounds d v).getD t u=if t=d then v else a.getD t u:=by
 simp only[Array.getD_eq_getD_getElem?,Array.getElem?_setIfInBounds]
 by_cases e:d=t
 · subst e;simp[h]
 · simp[e,show ¬t=d from fun h=>e h.symm]
theorem wF{C:Cx}{g:Gh}{σ σ':St}{w:World}(h:∀x,σ'.obj x=σ.obj x):sur C g σ' w=sur C g σ w:=by
 unfold sur
 rw[show σ'.obj=σ.obj from funext h]
theorem Rel.put{C:Cx}{g:Gh}{σ:St}{a:Act}{w:World}(R:Rel C g σ a w){d:Nat}(hd:d<C.n){u:AV}{v:Value}(hu:bB (sur C g σ w) u v):
 Rel C g (σ.ew d u) (a.put (some d) v) w:=by
 have hs:sur C g (σ.ew d u) w=sur C g σ w:=wF fun _=>rfl
 refine⟨R.defers,by simp[Act.put,R.size],by simp[St.ew,R.len],fun t=> ?_,fun x=>by rw[hs];exact R.objs x,R.own,R.apart,R.alw,R.fr,by rw[hs];exact R.pin⟩
 rw[hs,St.n5 _ _ _ _ (by rw[R.len];exact hd)]
 show bB _ _ ((a.tmps.setIfInBounds d v).getD t undef)
 rw[po _ _ _ _ _ (by rw[R.size];exact hd)]
 split
 · exact hu
 · exact R.tmps t
theorem Rel.move{C:Cx}{g g':Gh}{σ σ':St}{a:Act}{w w':World}(R:Rel C g σ a w)(ht:σ'.tmps=σ.tmps)(hs:Shift (sur C g σ w) (sur C g' σ' w'))
 (objs:∀x,bv (sur C g' σ' w') g'.fp x) (own:∀x,(g'.fp x).Nodup) (apart:∀x y,x≠y->∀b,b∈g'.fp x->b ∉ g'.fp y)
 (alw:∀x b,b∈g'.fp x->(C.w0.heap.size<=b∨b∈C.X)∧b<w'.heap.size) (fr:Fr C.w0 C.X w'):Rel C g' σ' a w':=
 ⟨R.defers,R.size,by rw[ht];exact R.len,fun t=>by
  have:σ'.tmp t=σ.tmp t:=by unfold St.tmp;rw[ht]
  rw[this];exact(R.tmps t).shift hs,objs,own,apart,alw,fr,R.pin.shift hs⟩
theorem fK.keep{w w':World}{ks:List K}{h:Value}{i j:Nat}{v:Value}(hl:fK w ks h i j v)(hc:∀b o u,w.cell? ⟨b,o,none⟩=some u->bq h=some b->w'.cell? ⟨b,o,none⟩=some u):fK w' ks h i j v:=by
 obtain⟨b,n,cap,rfl,hk,hu⟩:=hl
 exact⟨b,n,cap,rfl,hk,hc _ _ _ hu rfl⟩
theorem cB.keep{s s':Sur}{x i j:Nat}{v:Value}(h:cB s x i j v)(ho:s'.obj x=s.obj x)(hh:s'.hd x=s.hd x)(hc:∀b o u,s.w.cell? ⟨b,o,none⟩=some u->bq (s.hd x)=some b->s'.w.cell? ⟨b,o,none⟩=some u):cB s' x i j v:=by
 unfold cB at h⊢
 rw[ho]
 split
 · rename_i he
   rw[he] at h
   simp only at h
   rw[hh]
   exact h.keep hc
 · trivial
 · rename_i he;rw[he] at h;exact h
theorem bv.shift{s s':Sur}{fp fp':Nat->List Nat}{x:Nat}(h:bv s fp x)(hs:Shift s s')(ho:s'.obj x=s.obj x)(hh:s'.hd x=s.hd x)(hf:fp' x=fp x)
 (hb:∀b,b∈fp x->s'.w.heap[b]? =s.w.heap[b]?):bv s' fp' x:=by
 unfold bv at h⊢
 rw[ho,hh,hf]
 cases he:s.obj x with
 |none=>rw[he] at h;exact h
 |some o=>
  rw[he] at h
  cases o with
  |gone=>exact h
  |«sealed» _ _ _=>exact h
  |box T cs=>
   obtain⟨b,vs,h1,h2,h3,h4⟩:=h
   exact⟨b,vs,h1,h2,by rw[hb b (by rw[h2];simp)];exact h3,h4.shift hs⟩
  |arr e ks dp xs=>
   obtain⟨vss,fps,h1,h2,h3,h4,h5,h6⟩:=h
   refine⟨vss,fps,⟨h1.1,h1.2.imp id ?_⟩,h2,h3,h4,h5,fun i row vs f q1 q2 q3=> ?_⟩
   · rintro⟨gg,cap,cur,e1,e2,e3,r⟩
     exact⟨gg,cap,cur,e1,e2,by rw[hb gg (by rw[h5,e1];simp[Value.ownBlock])];exact e3,r⟩
   · have:=h6 i row vs f q1 q2 q3
     split at this
     · rename_i hd
       rw[if_pos hd]
       refine this.keeps fun b hbf=>hb b ?_
       rw[h5]
       simp only[mem_append,mem_flatten]
       exact .inr ⟨f,mem_of_getElem? q3,hbf⟩
     · rename_i hd;rw[if_neg hd];exact⟨this.1.keeps hs.keeps,this.2⟩
  |arx e ks xs=>
   obtain⟨vss,fps,h1,h2,h3,h4,h5,h6⟩:=h
   refine⟨vss,fps,⟨h1.1,h1.2.imp id ?_⟩,h2,h3,h4,h5,fun i row vs f q1 q2 q3=> ?_⟩
   · rintro⟨gg,cap,cur,e1,e2,e3,r⟩
     exact⟨gg,cap,cur,e1,e2,by rw[hb gg (by rw[h5,e1];simp[Value.ownBlock])];exact e3,r⟩
   · refine(h6 i row vs f q1 q2 q3).keeps fun b hbf=>hb b ?_
     rw[h5]
     simp only[mem_append,mem_flatten]
     exact .inr ⟨f,mem_of_getElem? q3,hbf⟩
theorem Rel.same{C:Cx}{g:Gh}{σ:St}{a:Act}{w w':World}(R:Rel C g σ a w)(hh:w'.heap=w.heap)(ho:w'.os=w.os)(ht:w'.tape=w.tape)(hp:w'.output=w.output):Rel C g σ a w':=by
 have hc:∀ad,w'.cell? ad=w.cell? ad:=fun ad=>by simp[World.cell?,hh]
 have hk:Keeps w (Me C.M σ.obj g.hd g.fp) w' (Me C.M σ.obj g.hd g.fp):=fun b o v h n=>⟨by rw[hc];exact h,n⟩
 have hsh:Shift (sur C g σ w) (sur C g σ w'):=by
  refine⟨hk,fun x p v h=> ?_,fun x i j v h=>h,fun x i j v h=>h.keep rfl rfl fun b o u hu _=>by show w'.cell? _=_;rw[hc];exact hu,fun x o h=>⟨o,h,fun _ _ xs' e=>⟨⟨xs',e⟩,rfl⟩⟩⟩
  unfold aB at h⊢
  simp only[sur] at h⊢
  split<;>simp_all
  exact h.2.keeps hk
 exact R.move rfl hsh (fun x=>(R.objs x).shift hsh rfl rfl rfl fun b _=>by show w'.heap[b]? =w.heap[b]?;rw[hh]) R.own R.apart (fun x b h=>by rw[hh];exact R.alw x b h)
  ⟨ho.trans R.fr.os,ht.trans R.fr.tape,hp.trans R.fr.output,by rw[hh];exact R.fr.size,fun k hk hx=>by rw[hh];exact R.fr.block k hk hx⟩
def upd{α:Type}(f:Nat->α)(x:Nat)(v:α):Nat->α:=fun y=>if y=x then v else f y
theorem bh{α:Type}(f:Nat->α)(x:Nat)(v:α):upd f x v x=v:=by simp[upd]
theorem aW{α:Type}(f:Nat->α){x y:Nat}(v:α)(h:y≠x):upd f x v y=f y:=by simp[upd,h]
def Gh.upd(g:Gh)(x:Nat)(h:Value)(f:List Nat):Gh:=⟨Vx.upd g.hd x h,Vx.upd g.fp x f⟩
theorem fw{w:World}{b o:Nat}{v:Value}(h:w.cell? ⟨b,o,none⟩=some v):b<w.heap.size:=by
 unfold World.cell? at h
 rcases lt_or_ge b w.heap.size with h'|h'
 · exact h'
 · simp[Array.getElem?_eq_none h'] at h
theorem Fr.below{w0 w w':World}{X:List Nat}(h:Fr w0 X w)(hb:Below w.heap.size w w'):Fr w0 X w':=
 ⟨hb.os.trans h.os,hb.tape.trans h.tape,hb.output.trans h.output,le_trans h.size hb.size,fun k hk hx=>(hb.block k (lt_of_lt_of_le hk h.size)).trans (h.block k hk hx)⟩
theorem Shift.grow{C:Cx}{g:Gh}{σ:St}{w w':World}(hb:Below w.heap.size w w')(x:Nat)(hx:σ.obj x=none)(o:Ob)(h:Value)(f:List Nat)
 (hh:∀b,bq h=some b->w.heap.size<=b) (hox:Ob.isX (some o)=false:=by rfl):Shift (sur C g σ w) (sur C (g.upd x h f) (σ.aU x o) w'):=by
 have hk:Keeps w (Me C.M σ.obj g.hd g.fp) w' (Me C.M (σ.aU x o).obj (g.upd x h f).hd (g.upd x h f).fp):=fun b p v hc hn=>by
  have hlt:=fw hc
  refine⟨by rw[hb.cell (p:=⟨b,p,none⟩) hlt];exact hc,?_⟩
  rintro(hM|⟨y,hl,hbk⟩|⟨y,hl,hbk⟩)
  · exact hn (.inl hM)
  · by_cases hy:y=x
    · subst hy
      simp only[Gh.upd,bh] at hbk
      have:=hh b hbk
      exact absurd hlt (not_lt.2 this)
    · refine hn (.inr (.inl ⟨y,?_,?_⟩))
      · simp only[St.ap,if_neg hy] at hl;exact hl
      · simpa only[Gh.upd,aW _ _ hy] using hbk
  · by_cases hy:y=x
    · subst hy
      simp only[St.ap,if_pos,hox] at hl
      cases hl
    · refine hn (.inr (.inr ⟨y,?_,?_⟩))
      · simp only[St.ap,if_neg hy] at hl;exact hl
      · simpa only[Gh.upd,aW _ _ hy] using hbk
 refine⟨hk,fun y q v hr=> ?_,fun y i j v hp=> ?_,fun y i j v hl=> ?_,fun y o' hy=> ?_⟩
 · by_cases hy:y=x
   · subst hy;simp[aB,sur,hx] at hr
   · unfold aB at hr⊢
     simp only[sur,St.ap,if_neg hy,Gh.upd,aW _ _ hy] at hr⊢
     cases he:σ.obj y with
     |none=>rw[he] at hr;exact hr
     |some q=>
      rw[he] at hr
      cases q with
      |«sealed» e ks xs=>exact⟨hr.1,hr.2.keeps hk⟩
      |_=>exact hr
 · by_cases hy:y=x
   · subst hy;simp[aV,sur,hx] at hp
   · unfold aV at hp⊢
     simp only[sur,St.ap,if_neg hy,Gh.upd,aW _ _ hy] at hp⊢
     exact hp
 · by_cases hy:y=x
   · subst hy;simp[cB,sur,hx] at hl
   · refine hl.keep (by simp only[sur,St.ap,if_neg hy]) (by simp only[sur,Gh.upd,aW _ _ hy]) fun b p u hu _=> ?_
     show w'.cell? _=_
     rw[hb.cell (p:=⟨b,p,none⟩) (fw hu)];exact hu
 · by_cases hyx:y=x
   · subst hyx;simp only[sur,hx] at hy;cases hy
   · refine⟨o',by simpa only[sur,St.ap,if_neg hyx] using hy,fun e ks xs' e1=>⟨⟨xs',e1⟩,by simp only[sur,Gh.upd,aW _ _ hyx]⟩⟩
theorem Rel.grow{C:Cx}{g:Gh}{σ:St}{a:Act}{w w':World}(R:Rel C g σ a w)(hb:Below w.heap.size w w'){x:Nat}(hx:σ.obj x=none){o:Ob}{h:Value}{f:List Nat}
 (hh:∀b,bq h=some b->w.heap.size<=b) (hf:f.Nodup) (hfb:∀b,b∈f->w.heap.size<=b∧b<w'.heap.size)
 (ho:bv (sur C (g.upd x h f) (σ.aU x o) w') (g.upd x h f).fp x) (hox:Ob.isX (some o)=false:=by rfl):Rel C (g.upd x h f) (σ.aU x o) a w':=by
 have hs:=Shift.grow (C:=C) (g:=g) hb x hx o h f hh hox
 have old:∀y b,b∈g.fp y->b<w.heap.size:=fun y b hm=>(R.alw y b hm).2
 refine R.move rfl hs (fun y=> ?_) (fun y=> ?_) (fun y z hyz b hy hz=> ?_) (fun y b hy=> ?_) (R.fr.below hb)
 · by_cases hy:y=x
   · subst hy;exact ho
   · refine(R.objs y).shift hs ?_ ?_ ?_ fun b hm=>hb.block b (old y b hm)
     · simp[sur,St.ap,hy]
     · simp[sur,Gh.upd,aW _ _ hy]
     · simp[Gh.upd,aW _ _ hy]
 · by_cases hy:y=x
   · subst hy;simpa[Gh.upd,bh] using hf
   · simpa[Gh.upd,aW _ _ hy] using R.own y
 · by_cases hy':y=x
   · subst hy'
     have hz':z≠y:=fun e=>hyz e.symm
     simp only[Gh.upd,bh] at hy
     simp only[Gh.upd,aW _ _ hz'] at hz
     exact absurd (old z b hz) (not_lt.2 (hfb b hy).1)
   · by_cases hz':z=x
     · subst hz'
       simp only[Gh.upd,bh] at hz
       simp only[Gh.upd,aW _ _ hy'] at hy
       exact absurd (old y b hy) (not_lt.2 (hfb b hz).1)
     · simp only[Gh.upd,aW _ _ hy',aW _ _ hz'] at hy hz
       exact R.apart y z hyz b hy hz
 · by_cases hy':y=x
   · subst hy'
     simp only[Gh.upd,bh] at hy
     exact⟨.inl (le_trans R.fr.size (hfb b hy).1),(hfb b hy).2⟩
   · simp only[Gh.upd,aW _ _ hy'] at hy
     exact⟨(R.alw y b hy).1,lt_of_lt_of_le (R.alw y b hy).2 hb.size⟩
theorem nu(w:World)(o:Obj):Below w.heap.size w (w.alloc o):=(Below.refl _ _).alloc (le_refl _) _
theorem heap_alloc_new'(w:World)(o:Obj):(w.alloc o).heap[w.heap.size]? =some o:=by
 show(w.heap.push o)[w.heap.size]? =_
 simp
theorem Rel.H4{C:Cx}{g:Gh}{σ:St}{a:Act}{w:World}(R:Rel C g σ a w){x:Nat}(hx:σ.obj x=none){T:TypeId}{cs:List AC}{vs:List Value}
 (hcs:aE (sur C g σ w) cs vs):
 Rel C (g.upd x (.pointer (some ⟨w.heap.size,0,none⟩)) [w.heap.size]) (σ.aU x (.box T cs)) a (w.alloc (.cells vs.toArray T)):=by
 refine R.grow (nu _ _) hx (fun b hb=> ?_) (by simp) (fun b hb=> ?_) ?_
 · simp[bq] at hb;omega
 · simp at hb;subst hb;exact⟨le_refl _,by simp⟩
 · unfold bv
   simp only[sur,St.ap,if_pos,Gh.upd,bh]
   exact⟨_,vs,rfl,rfl,heap_alloc_new' _ _,hcs.shift (Shift.grow (nu _ _) x hx _ _ [w.heap.size] (fun b hb=>by simp[bq] at hb;omega))⟩
theorem qM{C:Cx}{g g':Gh}{σ:St}{w w':World}{y:Nat}{ob:Ob}(hob:Ob.isX (some ob)=false)(hhd:∀z,z≠y->g'.hd z=g.hd z)
 (hc:∀z b o u,z≠y->Ob.isX (σ.obj z)=true->w.cell? ⟨b,o,none⟩=some u->bq (g.hd z)=some b->w'.cell? ⟨b,o,none⟩=some u) (x i j:Nat) (v:Value) (h:cB (sur C g σ w) x i j v):
 cB (sur C g' (σ.aU y ob) w') x i j v:=by
 by_cases hx:x=y
 · subst hx
   unfold cB
   simp only[sur,St.ap,if_true]
   cases ob with
   |arx=>simp[Ob.isX] at hob
   |_=>trivial
 · cases he:σ.obj x with
   |none=>simp[cB,sur,he] at h
   |some q=>
    cases hq:Ob.isX (some q) with
    |true=>exact h.keep (by simp only[sur,St.ap,if_neg hx]) (hhd x hx) fun b o u hu hb=>hc x b o u hx (by rw[he];exact hq) hu hb
    |false=>
     unfold cB
     simp only[sur,St.ap,if_neg hx,he]
     cases q with
     |arx=>simp[Ob.isX] at hq
     |_=>trivial
theorem p8{C:Cx}{g g':Gh}{σ:St}{w w':World}{y:Nat}{ob:Ob}(hob:Ob.isX (some ob)=false)(hhd:∀z,z≠y->g'.hd z=g.hd z) (x:Nat) (o:Ob) (h:(sur C g σ w).obj x=some o):
 ∃o',(sur C g' (σ.aU y ob) w').obj x=some o'∧∀e ks xs',o'= .arx e ks xs'->(∃xs,o= .arx e ks xs)∧(sur C g' (σ.aU y ob) w').hd x=(sur C g σ w).hd x:=by
 by_cases hx:x=y
 · subst hx
   refine⟨ob,by simp only[sur,St.ap,if_true],fun e ks xs' e1=> ?_⟩
   subst e1
   simp[Ob.isX] at hob
 · exact⟨o,by simpa only[sur,St.ap,if_neg hx] using h,fun e ks xs' e1=>⟨⟨xs',e1⟩,hhd x hx⟩⟩
end Go.Vx
namespace Go.Vx
open Go.RowKit (Below)
theorem Row.range{w:World}{b o:Nat}{vs:List Value}(h:Row w b o vs):w.rangeAt b o vs:=fun j v hv=>h.get j v hv
def mkV(agg:Bool)(vs:List Value):Value:=if agg then .agg vs.toArray else vs.headD undef
theorem nT.row{i:TI}{d:TypeDesc}(h:nT i d):d.isRow=i.agg:=by
 cases d<;>simp_all [nT,TypeDesc.isRow]
theorem nT.one{i:TI}{d:TypeDesc}(h:nT i d)(ha:i.agg=false):i.ks.length=1:=by
 cases d with
 |struct fs=>simp[nT,ha] at h
 |slice e=>obtain⟨_,_,_,_,ks,h⟩:=h;simp[h]
 |int k=>simp[h.2.2.2.2]
 |bool=>simp[h.2.2.2.2]
 |string=>simp[h.2.2.2.2]
 |_=>exact h.elim
theorem kN{P:Program}{t:TypeId}{d:TypeDesc}(hu:P.underlying t=some d)(w:World):(isAgg t).run P w= .ok d.isRow w:=by
 unfold isAgg
 rw[Sem.run_bind,run_underlying hu w]
 cases d<;>rfl
theorem re{P:Program}{T:TypeId->TI}{t:TypeId}(ht:TOk P T t){w:World}{b o:Nat}{vs:List Value}(hr:Row w b o vs)(hl:vs.length=(T t).ks.length):
 (loadVar t ⟨b,o,none⟩).run P w= .ok (mkV (T t).agg vs) w:=by
 obtain⟨i,d,z,h1,h2,h3,_,_,_,h7⟩:=ht.ex
 cases ha:(T t).agg with
 |true=>
  rw[run_loadVar_mid w b o t vs d hr.range h2 (by rw[h7.row,ha]) (by rw[h1];simp[h3,hl])]
  simp[mkV]
 |false=>
  have h1':=h7.one ha
  rw[h1'] at hl
  obtain⟨v,rfl⟩:=List.length_eq_one_iff.1 hl
  have hc:w.cell? ⟨b,o,none⟩=some v:=hr.1
  simp[loadVar,kN h2,h7.row,ha,run_load,hc,mkV]
def E9(k:IntKind)(n:Int):Bool:=decide (k.min<=n)&&decide (n<=k.max)
def cv(T:TypeId->TI)(ty:TypeId):Value->AV
 | .int k n=>if E9 k n then .one (.dat (.int k) (.int n)) else .dead
 | .bool b=>.one (.dat .bool (.bool b))
 | .string s=>if decide (s.size<=1048576) then .one (.dat .str (.str s)) else .dead
 | .slice none 0 0=>match(T ty).ks with|[.sl e ks]=>.one (.nil e ks)|_=>.dead
 |_=>.dead
def ev(T:TypeId->TI)(ty:TypeId)(σ:St):Operand->AV
 | .tmp t=>σ.tmp t
 | .const v=>cv T ty v
 |_=>.dead
theorem bV.jU{w:World}{M:Nat->Nat->Prop}{k:K}{v:Value}{d:D}(h:bV w M k v d):v.oneCell'=true:=by
 cases k with
 |int _=>rw[h.1];rfl
 |bool=>rw[show v=_ from h];rfl
 |str=>rw[h.1];rfl
 |sl _ _=>obtain⟨a,cap,rfl,_⟩:=h;rfl
theorem OM(s:Sur)(T:TypeId->TI)(ty:TypeId)(v:Value):bB s (cv T ty v) v:=by
 unfold cv
 split
 · split
   · rename_i h
     simp only[E9,and_eq_true,decide_eq_true_eq] at h
     exact⟨⟨rfl,h⟩,rfl⟩
   · trivial
 · exact⟨rfl,rfl⟩
 · split
   · rename_i h
     exact⟨⟨rfl,by have:=of_decide_eq_true h;simp[al];omega⟩,rfl⟩
   · trivial
 · split
   · exact⟨rfl,rfl⟩
   · trivial
 · trivial
theorem bG{C:Cx}{g:Gh}{σ:St}{a:Act}{w:World}(R:Rel C g σ a w)(ty:TypeId)(x:Operand):bB (sur C g σ w) (ev C.T ty σ x) (a.eval x):=by
 cases x with
 |tmp t=>exact R.tmps t
 |const v=>exact OM _ _ _ _
 |_=>trivial
def tR:List K->List D->List AC
 |[],_=>[]
 |k::ks,ds=>.dat k (ds.headD default)::tR ks ds.tail
theorem kP{s:Sur}:∀{ks:List K}{vs:List Value}{ds:List D},aP s.w s.me ks vs ds->aE s (tR ks ds) vs
 |[],_,_,h=>h
 |_::_,_,_,h=>by
  obtain⟨v,vs',rfl,hc,h'⟩:=h
  exact⟨v,vs',rfl,hc.jU,hc,kP h'⟩
def mkA(agg:Bool)(cs:List AC):AV:=if agg then .agg cs else match cs with|[c]=>.one c|_=>.dead
theorem qp{s:Sur}{agg:Bool}{cs:List AC}{vs:List Value}(h:aE s cs vs):bB s (mkA agg cs) (mkV agg vs):=by
 cases agg with
 |true=>exact⟨vs,by simp[mkV],h⟩
 |false=>
  cases cs with
  |nil=>trivial
  |cons c cs=>
   cases cs with
   |nil=>
    obtain⟨v,vs',rfl,ho,hc,rfl⟩:=h
    exact⟨hc,ho⟩
   |cons _ _=>trivial
theorem aE.length{s:Sur}:∀{cs:List AC}{vs:List Value},aE s cs vs->vs.length=cs.length
 |[],_,h=>by simp[aE] at h;simp[h]
 |_::_,_,h=>by obtain⟨v,vs',rfl,_,_,h'⟩:=h;simp[aE.length h']
theorem aE.take{s:Sur}:∀(n:Nat){cs:List AC}{vs:List Value},aE s cs vs->aE s (cs.take n) (vs.take n)
 |0,_,_,_=>by simp[aE]
 |n+1,[],_,h=>by simp[aE] at h;simp[h,aE]
 |n+1,_::_,_,h=>by obtain⟨v,vs',rfl,o,c,h'⟩:=h;exact⟨v,vs'.take n,by simp,o,c,aE.take n h'⟩
theorem aE.drop{s:Sur}:∀(n:Nat){cs:List AC}{vs:List Value},aE s cs vs->aE s (cs.drop n) (vs.drop n)
 |0,_,_,h=>by simpa using h
 |n+1,[],_,h=>by simp[aE] at h;simp[h,aE]
 |n+1,_::_,_,h=>by obtain⟨v,vs',rfl,o,c,h'⟩:=h;simpa using aE.drop n h'
theorem aP.drop{w:World}{M:Nat->Nat->Prop}:∀(n:Nat){ks:List K}{vs:List Value}{ds:List D},aP w M ks vs ds->aP w M (ks.drop n) (vs.drop n) (ds.drop n)
 |0,_,_,_,h=>by simpa using h
 |n+1,[],_,_,h=>by simp[aP] at h;simp[h,aP]
 |n+1,_::ks,_,ds,h=>by
  obtain⟨v,vs',rfl,c,h'⟩:=h
  have:=aP.drop n h'
  simpa using this
theorem aP.take{w:World}{M:Nat->Nat->Prop}:∀(n:Nat){ks:List K}{vs:List Value}{ds:List D},aP w M ks vs ds->aP w M (ks.take n) (vs.take n) ds
 |0,_,_,_,_=>by simp[aP]
 |n+1,[],_,_,h=>by simp[aP] at h;simp[h,aP]
 |n+1,_::ks,_,ds,h=>by
  obtain⟨v,vs',rfl,c,h'⟩:=h
  exact⟨v,vs'.take n,by simp,c,aP.take n h'⟩
theorem Row.drop{w:World}{b:Nat}:∀(n:Nat){o:Nat}{vs:List Value},Row w b o vs->Row w b (o+n) (vs.drop n)
 |0,_,_,h=>by simpa using h
 |n+1,o,[],_=>by simp[Row]
 |n+1,o,_::_,h=>by
  have:=Row.drop n h.2
  rw[show o+(n+1)=o+1+n by omega]
  simpa using this
theorem Row.take{w:World}{b:Nat}:∀(n:Nat){o:Nat}{vs:List Value},Row w b o vs->Row w b o (vs.take n)
 |0,_,_,_=>by simp[Row]
 |n+1,o,[],_=>by simp[Row]
 |n+1,o,_::_,h=>⟨h.1,Row.take n h.2⟩
theorem Rel.er{C:Cx}{g:Gh}{σ:St}{a:Act}{w:World}(R:Rel C g σ a w){y:Nat}(hl:Ob.live (σ.obj y)=true){b:Nat}(hb:bq (g.hd y)=some b):b∈g.fp y:=by
 have hoy:=R.objs y
 unfold bv at hoy
 simp only[sur] at hoy
 cases hy:σ.obj y with
 |none=>rw[hy] at hl;simp[Ob.live] at hl
 |some q=>
  rw[hy] at hl hoy
  cases q with
  |gone=>simp[Ob.live] at hl
  |«sealed» _ _ _=>simp[Ob.live] at hl
  |box T cs=>
   obtain⟨b',vs',e1,e2,_⟩:=hoy
   rw[e1] at hb
   simp only[bq,Option.some.injEq] at hb
   rw[e2,<-hb];simp
  |arx e' ks' xs'=>simp[Ob.live] at hl
  |arr e' ks' dp' xs'=>
   obtain⟨vss',fps',q1,_,_,_,q5,_⟩:=hoy
   rw[q5]
   refine mem_append.2 (.inl ?_)
   rcases be q1 with ⟨e1,_⟩|⟨b',cap',e1,_⟩
   · rw[e1] at hb;simp[bq] at hb
   · rw[e1] at hb⊢
     simp only[bq,Option.some.injEq] at hb
     simp[Value.ownBlock,hb]
theorem Rel.y5{C:Cx}{g:Gh}{σ:St}{a:Act}{w:World}(R:Rel C g σ a w){x:Nat}{e:TypeId}{ks:List K}{dp:Bool}{xs:List (List D)}(hx:σ.obj x=some (.arr e ks dp xs))
 {i:Nat} {row:List D} (hi:xs[i]? =some row):∃b cap vs,g.hd x= .slice (some ⟨b,0,none⟩) xs.length cap∧Row w b (i*ks.length) vs∧aP w (Me C.M σ.obj g.hd g.fp) ks vs row:=by
 have h:=R.objs x
 unfold bv at h
 simp only[sur,hx] at h
 obtain⟨vss,fps,h1,h2,h3,h4,h5,h6⟩:=h
 have hlt:=(List.getElem?_eq_some_iff.1 hi).1
 have hvi:vss[i]? =some vss[i]:=getElem?_eq_getElem (by omega)
 have hfi:fps[i]? =some fps[i]:=getElem?_eq_getElem (by omega)
 have hlen:∀vs∈vss,vs.length=ks.length:=by
  intro vs hv
  obtain⟨j,hj⟩:=getElem?_of_mem hv
  have hjl:=(List.getElem?_eq_some_iff.1 hj).1
  have:=h6 j xs[j] vs fps[j] (getElem?_eq_getElem (by omega)) hj (getElem?_eq_getElem (by omega))
  split at this
  · exact this.length
  · exact this.1.length
 rcases be h1 with ⟨_,h0⟩|⟨b,cap,hh,hn,_⟩
 · omega
 · refine⟨b,cap,vss[i],hh,hU h1 hlen (by rw[hh];rfl) hvi,?_⟩
   have:=h6 i row _ _ hi hvi hfi
   split at this
   · refine this.toC fun c hc o=> ?_
     have hcf:c∈fps.flatten:=mem_flatten.2 ⟨fps[i],mem_of_getElem? hfi,hc⟩
     have hcx:c∈g.fp x:=by rw[h5];exact mem_append.2 (.inr hcf)
     rintro(hM|⟨y,hl,hb⟩|⟨y,hl,hb⟩)
     · have:=C.oL c o hM
       rcases(R.alw x c hcx).1 with h|h
       · omega
       · exact this.2 h
     · by_cases hyx:y=x
       · subst hyx
         have hnd:=R.own y
         rw[h5,hh] at hnd
         rw[hh] at hb
         simp only[bq,Option.some.injEq] at hb
         subst hb
         simp only[Value.ownBlock,toList_some,List.singleton_append,nodup_cons] at hnd
         exact hnd.1 hcf
       · -- another object's head lies among its own blocks
         exact R.apart y x hyx c (R.er hl hb) hcx
     · refine R.apart y x (fun e=> ?_) c hb hcx
       subst e
       simp only[hx] at hl
       cases hl
   · exact this.1
theorem Rel.view{C:Cx}{g:Gh}{σ:St}{a:Act}{w:World}(R:Rel C g σ a w){y:Nat}{p:Option (Nat×Nat)}{e:TypeId}{ks:List K}{dp:Bool}{xs:List (List D)}{v:Value}
 (hy:σ.obj y=some (.arr e ks dp xs)) (h:aB (sur C g σ w) y p v):Hd ks.length (g.hd y) (cC p) (cn xs p) v∧cC p+cn xs p<=xs.length:=by
 unfold aB at h
 simp only[sur,hy] at h
 obtain⟨hok,hv⟩:=h
 cases p with
 |some q=>exact⟨hv,hok⟩
 |none=>
  have ho:=R.objs y
  unfold bv at ho
  simp only[sur,hy] at ho
  obtain⟨_,_,hown,_⟩:=ho
  refine⟨?_,by simp[cC,cn]⟩
  simp only at hv
  rcases be hown with ⟨hh,h0⟩|⟨b,cap,hh,hn,_⟩
  · exact⟨none,0,0,none,hh,by simp[hv,hh,cn,cC,h0],by simp[cn,cC,h0],le_refl _,fun _=>rfl,fun _=>rfl⟩
  · exact⟨some ⟨b,0,none⟩,xs.length,cap,some ⟨b,0,none⟩,hh,by simp[hv,hh,cn,cC],by simp[cn,cC],hn,fun _=>rfl,fun _=>by simp[cC,Addr.add]⟩
end Go.Vx
namespace Go.Vx
open Go.RowKit (Below)
def Did(C:Cx)(a:Act)(w:World)(o:Oper)(u:AV)(σ':St):Prop:=
 ∃nx w' g',(execOp a.eval o).run C.P w= .ok nx w'∧((∃v,nx= .value v∧bB (sur C g' σ' w') u v)∨(nx= .skip∧u= .dead))∧Rel C g' σ' a w'
theorem Did.quiet{C:Cx}{g:Gh}{σ:St}{a:Act}{w:World}{o:Oper}{u:AV}{v:Value}(R:Rel C g σ a w)(h:(execOp a.eval o).run C.P w= .ok (.value v) w)(hu:bB (sur C g σ w) u v):Did C a w o u σ:=
 ⟨_,_,g,h,.inl ⟨v,rfl,hu⟩,R⟩
section
variable {C:Cx} {g:Gh} {σ:St} {a:Act} {w:World} {o:Oper}
theorem Jz(R:Rel C g σ a w)(x:Operand)(ho:o.op= .move x∨o.op= .assign x):Did C a w o (ev C.T o.type σ x) σ:=by
 refine .quiet R (v:=a.eval x) ?_ (bG R _ _)
 rcases ho with ho|ho<;>simp[execOp,ho]
theorem ld{t:TypeId}{x:Operand}(ho:o.op= .load t x)(ht:TOk C.P C.T t){b p:Nat}{vs:List Value}(hx:a.eval x= .pointer (some ⟨b,p,none⟩))(hr:Row w b p vs)
 (hl:vs.length=(C.T t).ks.length):(execOp a.eval o).run C.P w= .ok (.value (mkV (C.T t).agg vs)) w:=by
 simp[execOp,ho,hx,Instr.loadAt,Instr.sureAddr,re ht hr hl]
theorem y8(R:Rel C g σ a w){t:TypeId}{x:Operand}(ho:o.op= .load t x)(ht:(C.T t).ok=true){ks:List K}{row:List D}(hx:ev C.T 0 σ x= .pim ks row)
 (hn:(C.T t).ks.length<=ks.length):Did C a w o (mkA (C.T t).agg (tR (ks.take (C.T t).ks.length) row)) σ:=by
 have h:=bG R 0 x
 rw[hx] at h
 obtain⟨b,p,vs,e,hr,hm,hc⟩:=h
 refine .quiet R (ld ho (C.tok t ht) e (hr.take (C.T t).ks.length) ?_) (qp (kP (hc.take _)))
 rw[length_take,hc.length];omega
theorem zq(R:Rel C g σ a w){t:TypeId}{x:Operand}(ho:o.op= .load t x)(ht:(C.T t).ok=true){y i j:Nat}(hx:ev C.T 0 σ x= .ptr y i j){T:TypeId}{cs:List AC}
 (hy:σ.obj y=some (.box T cs)) (hn:j+(C.T t).ks.length<=cs.length):Did C a w o (mkA (C.T t).agg ((cs.drop j).take (C.T t).ks.length)) σ:=by
 have h:=bG R 0 x
 rw[hx] at h
 have h':aV (sur C g σ w) y i j (a.eval x):=h
 unfold aV at h'
 simp only[sur,hy] at h'
 obtain⟨b,hb,e⟩:=h'
 have ho':=R.objs y
 unfold bv at ho'
 simp only[sur,hy] at ho'
 obtain⟨b',vs,hb',_,hh,hcs⟩:=ho'
 rw[hb] at hb'
 simp only[Value.pointer.injEq,Option.some.injEq,Addr.mk.injEq,and_true] at hb'
 subst hb'
 have hrow:Row w b 0 vs:=Row.sK fun q v hv=>by
  rw[zero_add,cell_of_row w b q _ _ _ hh]
  simpa using hv
 have hr2:=(hrow.drop j).take (C.T t).ks.length
 rw[zero_add] at hr2
 refine .quiet R (ld ho (C.tok t ht) e hr2 ?_) (qp (aE.take _ (aE.drop _ hcs)))
 rw[length_take,length_drop,hcs.length];omega
theorem yU(R:Rel C g σ a w){t:TypeId}{x:Operand}(ho:o.op= .load t x)(ht:(C.T t).ok=true){y i j:Nat}(hx:ev C.T 0 σ x= .ptr y i j){e:TypeId}{ks:List K}{dp:Bool}
 {xs:List (List D)} (hy:σ.obj y=some (.arr e ks dp xs)) (hi:i<xs.length) (hn:j+(C.T t).ks.length<=ks.length):
 Did C a w o (mkA (C.T t).agg (tR ((ks.drop j).take (C.T t).ks.length) ((xs.getD i []).drop j))) σ:=by
 have h:=bG R 0 x
 rw[hx] at h
 have h':aV (sur C g σ w) y i j (a.eval x):=h
 unfold aV at h'
 simp only[sur,hy] at h'
 obtain⟨b,n,cap,hb,ee⟩:=h'
 obtain⟨b',cap',vs,hb',hr,hc⟩:=R.y5 hy (i:=i) (row:=xs.getD i []) (by simp[getD,hi])
 rw[hb] at hb'
 simp only[Value.slice.injEq,Option.some.injEq,Addr.mk.injEq,and_true] at hb'
 obtain⟨rfl,_⟩:=hb'
 refine .quiet R (ld ho (C.tok t ht) ee ((hr.drop j).take (C.T t).ks.length) ?_) (qp (kP (aP.take _ (aP.drop j hc))))
 rw[length_take,length_drop,hc.length];omega
theorem jl{s:TypeId}{x:Operand}{f:Nat}(ho:o.op= .fieldAddr s x f)(hs:TOk C.P C.T s){off:Nat}{ft:TypeId}(hf:(C.T s).gI[f]? =some (off,ft))(ha:(C.T s).agg=true)
 (hft:TOk C.P C.T ft) (hne:(C.T ft).ks.length≠0) {b p:Nat} (hx:a.eval x= .pointer (some ⟨b,p,none⟩)):
 (execOp a.eval o).run C.P w= .ok (.value (.pointer (some ⟨b,p+off,none⟩))) w:=by
 obtain⟨i,d,z,h1,h2,h3,_,_,_,h7⟩:=hs.ex
 obtain⟨i',d',z',h1',_,h3',_⟩:=hft.ex
 have hrow:=h7.row
 rw[ha] at hrow
 cases d with
 |struct fs=>
  have hfs:=h7.2.2.2.2
  rw[<-hfs] at hf
  simp only[getElem?_map,Array.getElem?_toList,map_eq_some_iff] at hf
  obtain⟨fd,hfd,he⟩:=hf
  simp only[Prod.mk.injEq] at he
  obtain⟨rfl,rfl⟩:=he
  simp[execOp,ho,hx,Instr.fieldAt,run_underlying h2,hfd,Instr.sureAddr,fieldPlace,sizeOf,typeInfo,h1',h3',hne,Addr.add_lit]
 |array n e=>exact h7.elim
 |_=>simp[TypeDesc.isRow] at hrow
theorem rl(R:Rel C g σ a w){s:TypeId}{x:Operand}{f:Nat}(ho:o.op= .fieldAddr s x f)(hs:(C.T s).ok=true){off:Nat}{ft:TypeId}(hf:(C.T s).gI[f]? =some (off,ft))
 (ha:(C.T s).agg=true) (hft:(C.T ft).ok=true) (hne:(C.T ft).ks.length≠0) {y i j:Nat} (hx:ev C.T 0 σ x= .ptr y i j) (hy:Ob.held (σ.obj y)=true):Did C a w o (.ptr y i (j+off)) σ:=by
 have h:=bG R 0 x
 rw[hx] at h
 have h':aV (sur C g σ w) y i j (a.eval x):=h
 unfold aV at h'
 simp only[sur] at h'
 cases hyo:σ.obj y with
 |none=>rw[hyo] at hy;simp[Ob.held,Ob.live,Ob.isX] at hy
 |some q=>
  rw[hyo] at hy h'
  cases q with
  |gone=>simp[Ob.held,Ob.live,Ob.isX] at hy
  |«sealed» _ _ _=>simp[Ob.held,Ob.live,Ob.isX] at hy
  |box T cs=>
   obtain⟨b,hb,e⟩:=h'
   refine .quiet R (jl ho (C.tok s hs) hf ha (C.tok ft hft) hne e) ?_
   show aV _ _ _ _ _
   unfold aV
   simp only[sur,hyo]
   exact⟨b,hb,rfl⟩
  |arr e ks dp xs=>
   obtain⟨b,n,cap,hb,ee⟩:=h'
   refine .quiet R (jl ho (C.tok s hs) hf ha (C.tok ft hft) hne ee) ?_
   show aV _ _ _ _ _
   unfold aV
   simp only[sur,hyo]
   exact⟨b,n,cap,hb,by rw[add_assoc]⟩
  |arx e ks xs=>
   obtain⟨b,n,cap,hb,ee⟩:=h'
   refine .quiet R (jl ho (C.tok s hs) hf ha (C.tok ft hft) hne ee) ?_
   show aV _ _ _ _ _
   unfold aV
   simp only[sur,hyo]
   exact⟨b,n,cap,hb,by rw[add_assoc]⟩
theorem ra(R:Rel C g σ a w){s:TypeId}{x:Operand}{f:Nat}(ho:o.op= .fieldAddr s x f)(hs:(C.T s).ok=true){off:Nat}{ft:TypeId}(hf:(C.T s).gI[f]? =some (off,ft))
 (ha:(C.T s).agg=true) (hft:(C.T ft).ok=true) (hne:(C.T ft).ks.length≠0) {ks:List K} {row:List D} (hx:ev C.T 0 σ x= .pim ks row):Did C a w o (.pim (ks.drop off) (row.drop off)) σ:=by
 have h:=bG R 0 x
 rw[hx] at h
 obtain⟨b,p,vs,e,hr,hm,hc⟩:=h
 refine .quiet R (jl ho (C.tok s hs) hf ha (C.tok ft hft) hne e) ⟨b,p+off,vs.drop off,rfl,hr.drop off,fun j hj=> ?_,hc.drop off⟩
 rw[add_assoc]
 exact hm (off+j) (by rw[length_drop] at hj;omega)
theorem lx{t:TypeId}{x y:Operand}(ho:o.op= .indexAddr t x y)(ht:TOk C.P C.T t){e:TypeId}(he:(C.T t).sl=some e)(het:TOk C.P C.T e){k:IntKind}{n:Int}(hy:a.eval y= .int k n)
 {ad:Option Addr} {len cap:Nat} (hx:a.eval x= .slice ad len cap) (h0:0<=n) (h1:n<len) {b p:Nat} (had:ad=some ⟨b,p,none⟩):
 (execOp a.eval o).run C.P w= .ok (.value (.pointer (some ⟨b,p+n.toNat*(C.T e).ks.length,none⟩))) w:=by
 obtain⟨i,d,z,_,h2,_,_,_,_,h7⟩:=ht.ex
 obtain⟨i',d',z',q1,_,q3,_⟩:=het.ex
 subst had
 cases d with
 |slice e'=>
  have:e'=e:=by have:=h7.2.1;rw[he] at this;simpa using this.symm
  subst this
  simp[execOp,ho,hx,hy,Instr.indexAt,run_underlying h2,asIntOf,h0,h1,sizeOf,typeInfo,q1,q3,Addr.add_lit]
 |struct fs=>have:=h7.2.1;rw[he] at this;simp at this
 |int k=>have:=h7.2.1;rw[he] at this;simp at this
 |bool=>have:=h7.2.1;rw[he] at this;simp at this
 |string=>have:=h7.2.1;rw[he] at this;simp at this
 |_=>exact h7.elim
theorem intOf{s:Sur}{k:IntKind}{d:D}{v:Value}(h:bB s (.one (.dat (.int k) d)) v):v= .int k d.ZY∧inR k d.ZY:=h.1
theorem qe(R:Rel C g σ a w){t:TypeId}{x y:Operand}(ho:o.op= .indexAddr t x y)(ht:(C.T t).ok=true){e:TypeId}(he:(C.T t).sl=some e)(het:(C.T e).ok=true)
 {k:IntKind} {dn:D} (hy:(ev C.T 0 σ y).dn= .one (.dat (.int k) dn)) {e':TypeId} {ks:List K} {d:D} (hx:(ev C.T 0 σ x).dn= .one (.dat (.sl e' ks) d)) (hks:ks.length=(C.T e).ks.length)
 (h0:0<=dn.ZY) (h1:dn.ZY<d.ae.length):Did C a w o (.pim ks (d.ae.getD dn.ZY.toNat [])) σ:=by
 have hyr:=(bG R 0 y).dn
 rw[hy] at hyr
 obtain⟨hyv,_⟩:=intOf hyr
 have hxr:=(bG R 0 x).dn
 rw[hx] at hxr
 obtain⟨⟨ad,cap,hxv,hcap,hmax,hor⟩,_⟩:=hxr
 rcases hor with hnil|⟨b,off,rfl,hrows⟩
 · rw[hnil] at h1;simp at h1;omega
 · have hlt:dn.ZY.toNat<d.ae.length:=by omega
   obtain⟨vs,hr,hm,hc⟩:=hrows dn.ZY.toNat (d.ae.getD dn.ZY.toNat []) (by simp[getD,hlt])
   refine .quiet R (lx ho (C.tok t ht) he (C.tok e het) hyv hxv h0 h1 rfl) ⟨b,_,vs,rfl,?_,?_,hc⟩
   · rw[<-hks];exact hr
   · rw[<-hks];exact hm
theorem qB(R:Rel C g σ a w){t:TypeId}{x y:Operand}(ho:o.op= .indexAddr t x y)(ht:(C.T t).ok=true){e:TypeId}(he:(C.T t).sl=some e)(het:(C.T e).ok=true)
 {k:IntKind} {dn:D} (hy:(ev C.T 0 σ y).dn= .one (.dat (.int k) dn)) {z:Nat} {p:Option (Nat×Nat)} (hx:ev C.T 0 σ x= .one (.ref z p)) {e':TypeId} {ks:List K} {dp:Bool} {xs:List (List D)}
 (hz:σ.obj z=some (.arr e' ks dp xs)) (hks:ks.length=(C.T e).ks.length) (h0:0<=dn.ZY) (h1:dn.ZY<cn xs p):Did C a w o (.ptr z (cC p+dn.ZY.toNat) 0) σ:=by
 have hyr:=(bG R 0 y).dn
 rw[hy] at hyr
 obtain⟨hyv,_⟩:=intOf hyr
 have hxr:=bG R 0 x
 rw[hx] at hxr
 obtain⟨⟨aa,n,cap,a',hhd,hxv,hle,hnc,hof,hpos⟩,hle2⟩:=R.view hz hxr.1
 have hlen:0<cn xs p:=by omega
 obtain⟨b,cap',vs,hhd',_,_⟩:=R.y5 hz (i:=cC p) (row:=xs.getD (cC p) []) (by simp[getD,show cC p<xs.length by omega])
 rw[hhd] at hhd'
 simp only[Value.slice.injEq] at hhd'
 obtain⟨rfl,rfl,rfl⟩:=hhd'
 have ha':=hpos hlen
 simp only[map_some,Addr.add_lit,zero_add] at ha'
 refine .quiet R (lx ho (C.tok t ht) he (C.tok e het) hyv hxv h0 (by omega) ha') ?_
 show aV _ _ _ _ _
 unfold aV
 simp only[sur,hz]
 exact⟨b,_,cap,hhd,by rw[<-hks,add_mul];rfl⟩
theorem zF(R:Rel C g σ a w){x:Operand}(ho:o.op= .nilCheck x){y i j:Nat}(hx:ev C.T 0 σ x= .ptr y i j)(hy:Ob.held (σ.obj y)=true):Did C a w o (.ptr y i j) σ:=by
 have h:=bG R 0 x
 rw[hx] at h
 have h':aV (sur C g σ w) y i j (a.eval x):=h
 unfold aV at h'
 simp only[sur] at h'
 refine .quiet R (v:=a.eval x) ?_ h
 cases hyo:σ.obj y with
 |none=>rw[hyo] at hy;simp[Ob.held,Ob.live,Ob.isX] at hy
 |some q=>
  rw[hyo] at hy h'
  cases q with
  |gone=>simp[Ob.held,Ob.live,Ob.isX] at hy
  |«sealed» _ _ _=>simp[Ob.held,Ob.live,Ob.isX] at hy
  |box T cs=>obtain⟨b,hb,e⟩:=h';simp[execOp,ho,e]
  |arr e ks dp xs=>obtain⟨b,n,cap,hb,e⟩:=h';simp[execOp,ho,e]
  |arx e ks xs=>obtain⟨b,n,cap,hb,e⟩:=h';simp[execOp,ho,e]
end
end Go.Vx
namespace Go.Vx
open Go.RowKit (Below)
theorem vl(k:IntKind)(n:Int):inR k (k.wrap n):=by
 cases k<;>simp[inR,IntKind.wrap,IntKind.min,IntKind.max,IntKind.signed,IntKind.bits]<;>first|omega|(split<;>omega)
theorem Jo(k:IntKind)(x y:Int)(h:inR k x):inR k (x.tmod y):=by
 have h1:∀a b:Int,0<=a->0<=a.tmod b∧a.tmod b<=a:=fun a b ha=>by
  obtain⟨n,rfl⟩:=Int.eq_ofNat_of_zero_le ha
  have e:((n:Int)).tmod b=((n % b.natAbs:Nat):Int):=by
   rcases Int.natAbs_eq b with hb|hb
   · conv=>lhs;rw[hb]
     exact(Int.ofNat_tmod n b.natAbs).symm
   · conv=>lhs;rw[hb,Int.tmod_neg]
     exact(Int.ofNat_tmod n b.natAbs).symm
  rw[e]
  have:=Nat.mod_le n b.natAbs
  omega
 obtain⟨l,u⟩:=h
 rcases Int.le_total 0 x with hx|hx
 · have:=h1 x y hx
   refine⟨?_,by omega⟩
   cases k<;>simp[IntKind.min,IntKind.signed,IntKind.bits] at*<;>omega
 · have h2:=h1 (-x) y (by omega)
   rw[Int.neg_tmod] at h2
   refine⟨by omega,?_⟩
   cases k<;>simp[IntKind.max,IntKind.min,IntKind.signed,IntKind.bits] at*<;>omega
def tH(op:BinOp)(k:IntKind)(x y:Int):Option (Prop×K×D):=
 match op with
 | .add=>some (True,.int k,.int (k.wrap (x+y)))
 | .sub=>some (True,.int k,.int (k.wrap (x - y)))
 | .mul=>some (True,.int k,.int (k.wrap (x*y)))
 | .quo=>some (y≠0,.int k,.int (k.wrap (x.tdiv y)))
 | .rem=>some (y≠0,.int k,.int (x.tmod y))
 | .and=>some (True,.int k,.int (k.wrap (BitVec.ofInt k.bits x&&& BitVec.ofInt k.bits y).toNat))
 | .or=>some (True,.int k,.int (k.wrap (BitVec.ofInt k.bits x|||BitVec.ofInt k.bits y).toNat))
 | .xor=>some (True,.int k,.int (k.wrap (BitVec.ofInt k.bits x^^^BitVec.ofInt k.bits y).toNat))
 | .eql=>some (True,.bool,.bool (decide (x=y)))
 | .neq=>some (True,.bool,.bool (!decide (x=y)))
 | .lss=>some (True,.bool,.bool (decide (x<y)))
 | .leq=>some (True,.bool,.bool (decide (x<=y)))
 | .gtr=>some (True,.bool,.bool (decide (y<x)))
 | .geq=>some (True,.bool,.bool (decide (y<=x)))
 |_=>none
def CZ:K->D->Value
 | .int k,d=>.int k d.ZY
 | .bool,d=>.bool d.ZZ
 | .str,d=>.string d.ao
 | .sl _ _,_=>undef
theorem intOp_run{P:Program}(op:BinOp)(k:IntKind)(x y:Int)(t:TypeId)(w:World){p:Prop}{kk:K}{d:D}(h:tH op k x y=some (p,kk,d))(hp:p):
 (binOp op t (.int k x) (.int k y)).run P w= .ok (CZ kk d) w:=by
 cases op<;>simp only[tH,Option.some.injEq,Prod.mk.injEq,reduceCtorEq] at h
 all_goals obtain⟨rfl,rfl,rfl⟩:=h
 all_goals simp[binOp,Op.intArith,Op.intDiv,Op.intBits,Op.intCmp,CZ]
 all_goals try (simp only[ne_eq] at hp;simp[hp])
 all_goals first|rfl|(congr 2;rw[Bool.eq_iff_iff];simp)|skip
theorem FA{w:World}{M:Nat->Nat->Prop}{op:BinOp}{k:IntKind}{x y:Int}{p:Prop}{kk:K}{d:D}(h:tH op k x y=some (p,kk,d))(hx:inR k x):bV w M kk (CZ kk d) d:=by
 cases op<;>simp only[tH,Option.some.injEq,Prod.mk.injEq,reduceCtorEq] at h
 all_goals obtain⟨rfl,rfl,rfl⟩:=h
 all_goals first|exact⟨rfl,vl _ _⟩|exact⟨rfl,Jo _ _ _ hx⟩|rfl
section
variable {C:Cx} {g:Gh} {σ:St} {a:Act} {w:World} {o:Oper}
theorem Rel.jI(R:Rel C g σ a w){ty:TypeId}{x:Operand}{k:K}{d:D}(h:(ev C.T ty σ x).dn= .one (.dat k d)):bV w (Me C.M σ.obj g.hd g.fp) k (a.eval x) d:=by
 have hr:=(bG R ty x).dn
 rw[h] at hr
 exact hr.1
theorem dh{s:Sur}{k:K}{d:D}{v:Value}(h:bV s.w s.me k v d):bB s (.one (.dat k d)) v:=⟨h,h.jU⟩
theorem z7(R:Rel C g σ a w){op:BinOp}{t u:TypeId}{x y:Operand}(ho:o.op= .binOp op t x y u){k:IntKind}{dx dy:D}(hx:(ev C.T t σ x).dn= .one (.dat (.int k) dx))
 (hy:(ev C.T u σ y).dn= .one (.dat (.int k) dy)) {p:Prop} {kk:K} {d:D} (h:tH op k dx.ZY dy.ZY=some (p,kk,d)) (hp:p):Did C a w o (.one (.dat kk d)) σ:=by
 obtain⟨ex,rx⟩:=R.jI hx
 obtain⟨ey,_⟩:=R.jI hy
 refine .quiet R (v:=CZ kk d) ?_ (dh (FA h rx))
 have hg:(eqGuard op t x y (.int k dx.ZY) (.int k dy.ZY)).run C.P w= .ok () w:=by
  unfold eqGuard
  split<;>simp
 simp only[execOp,ho,ex,ey,Sem.run_bind,hg,Result.andThen_ok,intOp_run op k _ _ t w h hp,Sem.run_pure]
def xr(op:BinOp)(x y:ByteArray):Option (Prop×K×D):=
 match op with
 | .add=>some (x.size+y.size<=al,.str,.str (x++y))
 | .eql=>some (True,.bool,.bool (decide (x=y)))
 | .neq=>some (True,.bool,.bool (!decide (x=y)))
 | .lss=>some (True,.bool,.bool (Op.bytesLess x.toList y.toList))
 | .geq=>some (True,.bool,.bool (!Op.bytesLess x.toList y.toList))
 |_=>none
theorem yu{x y:ByteArray}(h:x.toList=y.toList):x=y:=by
 rw[ByteArray.toList_eq,ByteArray.toList_eq] at h
 obtain⟨⟨x⟩⟩:=x
 obtain⟨⟨y⟩⟩:=y
 simp only at h
 rw[h]
theorem bytes_beq(x y:ByteArray):(x.toList==y.toList)=decide (x=y):=by
 by_cases h:x=y
 · subst h;simp
 · rw[decide_eq_false h]
   simp only[beq_eq_false_iff_ne,ne_eq]
   exact fun e=>h (yu e)
theorem AX(R:Rel C g σ a w){op:BinOp}{t u:TypeId}{x y:Operand}(ho:o.op= .binOp op t x y u){dx dy:D}(hx:(ev C.T t σ x).dn= .one (.dat .str dx))
 (hy:(ev C.T u σ y).dn= .one (.dat .str dy)) {p:Prop} {kk:K} {d:D} (h:xr op dx.ao dy.ao=some (p,kk,d)) (hp:p):Did C a w o (.one (.dat kk d)) σ:=by
 obtain⟨ex,rx⟩:=R.jI hx
 obtain⟨ey,ry⟩:=R.jI hy
 have hg:∀b c,(eqGuard op t x y (.string b) (.string c)).run C.P w= .ok () w:=fun b c=>by
  unfold eqGuard
  split<;>simp
 have hrun:(binOp op t (.string dx.ao) (.string dy.ao)).run C.P w= .ok (CZ kk d) w:=by
  cases op<;>simp only[xr,Option.some.injEq,Prod.mk.injEq,reduceCtorEq] at h
  all_goals obtain⟨rfl,rfl,rfl⟩:=h
  · have:¬(((dx.ao.size+dy.ao.size:Nat):Int)>IntKind.i64.max):=by
     simp[IntKind.max,IntKind.signed,IntKind.bits,al] at*
     omega
    simp only[binOp,Op.stringOp,this,if_false]
    rfl
  all_goals simp[binOp,Op.stringOp,CZ,bytes_beq]
 refine .quiet R (v:=CZ kk d) ?_ (dh ?_)
 · simp only[execOp,ho,ex,ey,Sem.run_bind,hg,Result.andThen_ok,hrun,Sem.run_pure]
 · cases op<;>simp only[xr,Option.some.injEq,Prod.mk.injEq,reduceCtorEq] at h
   all_goals obtain⟨rfl,rfl,rfl⟩:=h
   · exact⟨rfl,by simpa[ByteArray.size_append] using hp⟩
   all_goals rfl
theorem qf(R:Rel C g σ a w){op:BinOp}{t u:TypeId}{x y:Operand}(ho:o.op= .binOp op t x y u)(ht:(C.T t).ok=true)(hks:(C.T t).ks=[.bool])(hagg:(C.T t).agg=false){dx dy:D}
 (hx:(ev C.T t σ x).dn= .one (.dat .bool dx)) (hy:(ev C.T u σ y).dn= .one (.dat .bool dy)) {q:Bool} (h:(op= .eql∧q=(dx.ZZ==dy.ZZ))∨(op= .neq∧q=(dx.ZZ != dy.ZZ))):
 Did C a w o (.one (.dat .bool (.bool q))) σ:=by
 have ex:a.eval x= .bool dx.ZZ:=R.jI hx
 have ey:a.eval y= .bool dy.ZZ:=R.jI hy
 obtain⟨i,d,z,_,h2,_,_,_,_,h7⟩:=(C.tok t ht).ex
 have hd:d= .bool:=by
  cases d with
  |bool=>rfl
  |struct fs=>rw[h7.1] at hagg;cases hagg
  |slice e=>obtain⟨ks,hk⟩:=h7.2.2.2.2;rw[hks] at hk;simp at hk
  |int k=>have:=h7.2.2.2.2;rw[hks] at this;simp at this
  |string=>have:=h7.2.2.2.2;rw[hks] at this;simp at this
  |_=>exact h7.elim
 subst hd
 refine .quiet R (v:=.bool q) ?_ (dh rfl)
 rcases h with ⟨rfl,rfl⟩|⟨rfl,rfl⟩
 · simp[execOp,ho,ex,ey,eqGuard,binOp,Op.equal,Op.maxDepth,run_equalIn_bool',h2]
 · simp[execOp,ho,ex,ey,eqGuard,binOp,Op.equal,Op.maxDepth,run_equalIn_bool',h2]
   cases dx.ZZ<;>cases dy.ZZ<;>rfl
theorem J8(R:Rel C g σ a w){t:TypeId}{x:Operand}(ho:o.op= .unOp .not t x){d:D}(hx:(ev C.T t σ x).dn= .one (.dat .bool d)):Did C a w o (.one (.dat .bool (.bool (!d.ZZ)))) σ:=by
 have ex:a.eval x= .bool d.ZZ:=R.jI hx
 exact .quiet R (v:=.bool (!d.ZZ)) (by simp[execOp,ho,ex,Op.unary]) (dh rfl)
theorem KD(R:Rel C g σ a w){t:TypeId}{x:Operand}(ho:o.op= .unOp .neg t x){k:IntKind}{d:D}(hx:(ev C.T t σ x).dn= .one (.dat (.int k) d)):
 Did C a w o (.one (.dat (.int k) (.int (k.wrap (0 - d.ZY))))) σ:=by
 obtain⟨ex,_⟩:=R.jI hx
 exact .quiet R (v:=.int k (k.wrap (0 - d.ZY))) (by simp[execOp,ho,ex,Op.unary,Op.intArith]) (dh ⟨rfl,vl _ _⟩)
theorem Ku(R:Rel C g σ a w){t u:TypeId}{x y:Operand}(ho:o.op= .binOp .shr t x y u){k k':IntKind}{dx dy:D}(hx:(ev C.T t σ x).dn= .one (.dat (.int k) dx))
 (hy:(ev C.T u σ y).dn= .one (.dat (.int k') dy)) (h0:0<=dy.ZY):Did C a w o (.one (.dat (.int k) (.int (dx.ZY.fdiv (2^min dy.ZY.toNat k.bits))))) σ:=by
 obtain⟨ex,rx⟩:=R.jI hx
 obtain⟨ey,_⟩:=R.jI hy
 refine .quiet R (v:=.int k (dx.ZY.fdiv (2^min dy.ZY.toNat k.bits))) ?_ (dh ⟨rfl,?_⟩)
 · simp[execOp,ho,ex,ey,eqGuard,binOp,Op.shift,show ¬dy.ZY<0 by omega]
 · obtain⟨l,u'⟩:=rx
   simp only[D.aI]
   generalize hm:(2:Int)^min dy.ZY.toNat k.bits=m
   have hm1:1<=m:=by
    rw[<-hm]
    have:(0:Int)<2^min dy.ZY.toNat k.bits:=Int.pow_pos (by decide)
    omega
   have hz1:k.min<=0:=by cases k<;>simp[IntKind.min,IntKind.signed,IntKind.bits]
   have hz2:0<=k.max:=by cases k<;>simp[IntKind.max,IntKind.signed,IntKind.bits]
   rw[Int.fdiv_eq_ediv_of_nonneg _ (by omega)]
   rcases Int.le_total 0 dx.ZY with hp|hn
   · have q1:=Int.ediv_nonneg hp (show 0<=m by omega)
     have q2:=Int.ediv_le_self m hp
     exact⟨by omega,by omega⟩
   · have q1:dx.ZY<=dx.ZY / m:=by
      rw[Int.le_ediv_iff_mul_le (by omega)]
      have:dx.ZY*m<=dx.ZY*1:=Int.mul_le_mul_of_nonpos_left hn hm1
      omega
     have q2:dx.ZY / m<=0:=Int.ediv_nonpos_of_nonpos_of_neg hn (by omega)
     exact⟨by omega,by omega⟩
theorem yK(R:Rel C g σ a w){s t:TypeId}{x:Operand}(ho:o.op= .convert s t x)(hs:(C.T s).ok=true)(ht:(C.T t).ok=true){k':IntKind}(hk:(C.T t).ik=some k'){k:IntKind}{d:D}
 (hx:(ev C.T s σ x).dn= .one (.dat (.int k) d)):Did C a w o (.one (.dat (.int k') (.int (k'.wrap d.ZY)))) σ:=by
 obtain⟨ex,_⟩:=R.jI hx
 obtain⟨_,ds,_,_,hs2,_⟩:=(C.tok s hs).ex
 obtain⟨_,dt,_,_,ht2,_,_,_,_,h7⟩:=(C.tok t ht).ex
 have hd:dt= .int k':=by
  cases dt with
  |int k=>have:=h7.2.2.1;rw[hk] at this;simp at this;simp[this]
  |bool=>have:=h7.2.2.1;rw[hk] at this;simp at this
  |struct fs=>have:=h7.2.2.1;rw[hk] at this;simp at this
  |slice e=>have:=h7.2.2.1;rw[hk] at this;simp at this
  |string=>have:=h7.2.2.1;rw[hk] at this;simp at this
  |_=>exact h7.elim
 subst hd
 refine .quiet R (v:=.int k' (k'.wrap d.ZY)) ?_ (dh ⟨rfl,vl _ _⟩)
 simp[execOp,ho,ex,convert,run_underlying hs2,run_underlying ht2,Conv.intToInt]
theorem wJ(R:Rel C g σ a w){t:TypeId}{x y:Operand}(ho:o.op= .index t x y)(ht:(C.T t).ok=true)(hs:(C.T t).isStr=true){dx dy:D}{k:IntKind}(hx:(ev C.T t σ x).dn= .one (.dat .str dx))
 (hy:(ev C.T 0 σ y).dn= .one (.dat (.int k) dy)) (h0:0<=dy.ZY) (h1:dy.ZY<dx.ao.size):Did C a w o (.one (.dat (.int .u8) (.int (dx.ao.toList.getD dy.ZY.toNat 0).toNat))) σ:=by
 obtain⟨ex,_⟩:=R.jI hx
 obtain⟨ey,_⟩:=R.jI hy
 obtain⟨_,dt,_,_,ht2,_,_,_,_,h7⟩:=(C.tok t ht).ex
 have hd:dt= .string:=by
  cases dt with
  |string=>rfl
  |int k=>have:=h7.2.2.2.1;rw[hs] at this;simp at this
  |bool=>have:=h7.2.2.2.1;rw[hs] at this;simp at this
  |struct fs=>have:=h7.2.2.2.1;rw[hs] at this;simp at this
  |slice e=>have:=h7.2.2.2.1;rw[hs] at this;simp at this
  |_=>exact h7.elim
 subst hd
 have hlt:dy.ZY.toNat<dx.ao.size:=by omega
 have hb:dx.ao[dy.ZY.toNat]? =some (dx.ao.toList.getD dy.ZY.toNat 0):=by
  rw[ByteArray.toList_eq,getElem?_pos dx.ao dy.ZY.toNat hlt]
  have hlt':dy.ZY.toNat<dx.ao.data.toList.length:=by simpa using hlt
  rw[getD_eq_getElem?_getD,getElem?_eq_getElem hlt']
  rfl
 refine .quiet R (v:=.int .u8 (dx.ao.toList.getD dy.ZY.toNat 0).toNat) ?_ (dh ⟨rfl,?_⟩)
 · simp[execOp,ho,ex,ey,Instr.index,asIntOf,run_underlying ht2,h0,hb]
 · generalize dx.ao.toList.getD dy.ZY.toNat 0=q
   have:=q.toNat_lt
   simp[inR,IntKind.min,IntKind.max,IntKind.signed,IntKind.bits]
   omega
def cval:K->D->Value
 | .int k,d=>.int k d.ZY
 | .bool,d=>.bool d.ZZ
 | .str,d=>.string d.ao
 | .sl _ _,_=>undef
def ceq:K->D->D->Bool
 | .int _,d,e=>decide (d.ZY=e.ZY)
 | .bool,d,e=>d.ZZ==e.ZZ
 | .str,d,e=>decide (d.ao=e.ao)
 | .sl _ _,_,_=>false
def yY:List K->List D->List D->Bool
 |[],_,_=>true
 |k::ks,ds,es=>ceq k (ds.headD default) (es.headD default)&&yY ks ds.tail es.tail
theorem pY{P:Program}{w:World}{d:Nat}{xs ys:Array Value}:∀(fs:List Field)(ks:List K)(j:Nat)(ds es:List D),xZ P j fs ks->
 (∀i k,ks[i]? =some k->xs[j+i]? =some (cval k (ds.getD i default))∧ys[j+i]? =some (cval k (es.getD i default)))->(Op.eqFields (d+1) xs ys fs).run P w= .ok (yY ks ds es) w
 |[],[],j,ds,es,_,_=>by simp[Op.eqFields,yY]
 |[],_::_,j,ds,es,h,_=>h.elim
 |_::_,[],j,ds,es,h,_=>h.elim
 |f::fs,k::ks,j,ds,es,h,hv=>by
  obtain⟨h1,rfl,h3,h4⟩:=h
  have h0:=hv 0 k rfl
  have hp:∀{ds:List D}{zs:Array Value},zs[f.offset+0]? =some (cval k (ds.getD 0 default))->(part f.type zs f.offset).run P w= .ok (cval k (ds.headD default)) w:=fun{ds zs} hz=>by
   have e0:ds.getD 0 default=ds.headD default:=by cases ds<;>rfl
   rw[add_zero,e0] at hz
   cases k with
   |int k=>simp[part,kN h3,TypeDesc.isRow,hz]
   |bool=>simp[part,kN h3,TypeDesc.isRow,hz]
   |str=>simp[part,kN h3,TypeDesc.isRow,hz]
   |sl e ks=>exact h3.elim
  have he:(Op.equalIn (d+1) f.type (cval k (ds.headD default)) (cval k (es.headD default))).run P w= .ok (ceq k (ds.headD default) (es.headD default)) w:=by
   cases k with
   |int k=>
    have:=run_equalIn_int w d _ k k (ds.headD default).ZY (es.headD default).ZY h3
    rw[show((ds.headD default).ZY==(es.headD default).ZY)=ceq (.int k) (ds.headD default) (es.headD default) by simp only[ceq];exact Bool.eq_iff_iff.2 ⟨fun h=>by simpa using h,fun h=>by simpa using h⟩] at this
    exact this
   |bool=>exact run_equalIn_bool' w d _ _ _ h3
   |str=>
    have:=run_equalIn_string w d _ (ds.headD default).ao (es.headD default).ao h3
    rw[show((ds.headD default).ao.toList==(es.headD default).ao.toList)=ceq .str (ds.headD default) (es.headD default) by
     exact Bool.eq_iff_iff.2 ⟨fun h=>decide_eq_true (yu (beq_iff_eq.1 h)),fun h=>by rw[of_decide_eq_true h];exact beq_self_eq_true _⟩] at this
    exact this
   |sl e ks=>exact h3.elim
  have ih:=pY (w:=w) (d:=d) (xs:=xs) (ys:=ys) fs ks (f.offset+1) ds.tail es.tail h4 fun i k' hi=>by
   have:=hv (i+1) k' (by simpa using hi)
   rw[show f.offset+(i+1)=f.offset+1+i by omega] at this
   cases ds<;>cases es<;>simpa using this
  simp only[Op.eqFields,if_pos h1,Sem.run_bind,hp h0.1,hp h0.2,Result.andThen_ok,he,yY]
  cases ceq k (ds.headD default) (es.headD default) with
  |true=>simpa using ih
  |false=>simp
theorem aE.uU{s:Sur}:∀{ks:List K}{ds:List D}{vs:List Value}{j:Nat},aE s (tR ks ds) vs->(∀k∈ks,∀e l,k≠ .sl e l)->∀k,ks[j]? =some k->vs[j]? =some (cval k (ds.getD j default))
 |[],ds,vs,j,_,_,k,hk=>by simp at hk
 |k'::ks,ds,vs,j,h,hn,k,hk=>by
  obtain⟨v,vs',rfl,_,hc,h'⟩:=h
  cases j with
  |zero=>
   simp only[List.getElem?_cons_zero,Option.some.injEq] at hk⊢
   subst hk
   have hc:bV s.w s.me k' v (ds.headD default):=hc
   have e0:ds.getD 0 default=ds.headD default:=by cases ds<;>rfl
   rw[e0]
   cases k' with
   |int k=>exact hc.1
   |bool=>exact hc
   |str=>exact hc.1
   |sl e l=>exact absurd rfl (hn _ (by simp) e l)
  |succ j=>
   have:=aE.uU h' (fun k hk=>hn k (by simp[hk])) k (by simpa using hk)
   simp only[List.getElem?_cons_succ]
   rw[this]
   cases ds<;>simp
theorem tF{P:Program}:∀{fs:List Field}{ks:List K}{j:Nat},xZ P j fs ks->∀k∈ks,∀e l,k≠ .sl e l
 |[],[],_,_,k,hk,_,_=>by simp at hk
 |[],_::_,_,h,_,_,_,_=>h.elim
 |_::_,[],_,h,_,_,_,_=>h.elim
 |f::fs,k'::ks,j,h,k,hk,e,l=>fun hkk=>by
  obtain⟨_,_,h3,h4⟩:=h
  rcases mem_cons.1 hk with h5|h5
  · subst h5;subst hkk;exact h3.elim
  · exact tF h4 k h5 e l hkk
theorem tj(R:Rel C g σ a w){op:BinOp}{t u:TypeId}{x y:Operand}(ho:o.op= .binOp op t x y u)(ht:(C.T t).ok=true)(heq:(C.T t).eq=true){dx dy:List D}
 (hx:ev C.T t σ x= .agg (tR (C.T t).ks dx)) (hy:ev C.T u σ y= .agg (tR (C.T t).ks dy)) {q:Bool} (h:(op= .eql∧q=yY (C.T t).ks dx dy)∨(op= .neq∧q= !(yY (C.T t).ks dx dy))):
 Did C a w o (.one (.dat .bool (.bool q))) σ:=by
 have rx:=bG R t x
 have ry:=bG R u y
 rw[hx] at rx
 rw[hy] at ry
 obtain⟨xs,ex,rx⟩:=rx
 obtain⟨ys,ey,ry⟩:=ry
 obtain⟨fs,h1,h2,h3,h4⟩:=(C.tok t ht).eqs heq
 have hf:C.P.underlying t=some (.struct (C.P.fieldsOf t)):=by rw[h1];simp[Program.fieldsOf,h1]
 have hfl:C.P.fieldsOf t=fs:=by simp[Program.fieldsOf,h1]
 have hpl:=tF h4
 have run:(Op.equalIn 10000 t (.agg xs.toArray) (.agg ys.toArray)).run C.P w= .ok (yY (C.T t).ks dx dy) w:=by
  rw[run_equalIn_agg w 9999 t _ _ hf h2,hfl]
  refine pY (d:=9998) fs.toList (C.T t).ks 0 dx dy h4 fun i k hi=> ?_
  rw[zero_add]
  simp only[List.getElem?_toArray]
  exact⟨aE.uU rx hpl k hi,aE.uU ry hpl k hi⟩
 refine .quiet R (v:=.bool q) ?_ (dh rfl)
 rcases h with ⟨rfl,rfl⟩|⟨rfl,rfl⟩
 · simp only[execOp,ho,ex,ey,Sem.run_bind,run_eqGuard_agg w _ t _ _ _ _ h3,Result.andThen_ok,run_eql_struct,run]
   simp
 · simp only[execOp,ho,ex,ey,Sem.run_bind,run_eqGuard_agg w _ t _ _ _ _ h3,Result.andThen_ok,run_neq_struct,run]
   simp
end
end Go.Vx
namespace Go.Vx
open Go.RowKit (Below)
def AV.conds:AV->List Bool
 | .whn b v=>b::v.conds
 |_=>[]
def AV.core:AV->AV
 | .whn _ v=>v.core
 |v=>v
theorem bB.core{s:Sur}:∀{u:AV}{v:Value},bB s u v->(∀b∈u.conds,b=true)->bB s u.core v
 | .whn b u,v,h,hb=>bB.core (u:=u) (h.1 (hb b (by simp[AV.conds]))) fun c hc=>hb c (by simp[AV.conds,hc])
 | .one _,_,h,_=>h
 | .agg _,_,h,_=>h
 | .ptr _ _ _,_,h,_=>h
 | .pim _ _,_,h,_=>h
 | .tup _,_,h,_=>h
 | .lod _ _ _,_,h,_=>h
 | .dead,_,h,_=>h
theorem bB.HN{s:Sur}:∀{u:AV}{v:Value},bB s u.core v->(∀b∈u.conds,b=true)->bB s u v
 | .whn b u,v,h,hb=>⟨fun _=>bB.HN (u:=u) h fun c hc=>hb c (by simp[AV.conds,hc]),fun hf=>by have:=hb b (by simp[AV.conds]);rw[this] at hf;cases hf⟩
 | .one _,_,h,_=>h
 | .agg _,_,h,_=>h
 | .ptr _ _ _,_,h,_=>h
 | .pim _ _,_,h,_=>h
 | .tup _,_,h,_=>h
 | .lod _ _ _,_,h,_=>h
 | .dead,_,h,_=>h
section
variable {C:Cx} {g:Gh} {σ:St} {a:Act} {w:World} {o:Oper}
theorem GS(R:Rel C g σ a w){c x y:Operand}(ho:o.op= .pick c x y){dc:D}(hc:(ev C.T 0 σ c).dn= .one (.dat .bool dc)){k:K}{dx dy:D}
 (hx:(ev C.T o.type σ x).core= .one (.dat k dx)) (hy:(ev C.T o.type σ y).core= .one (.dat k dy)) (cx:dc.ZZ=true->∀b∈(ev C.T o.type σ x).conds,b=true)
 (cy:dc.ZZ=false->∀b∈(ev C.T o.type σ y).conds,b=true):Did C a w o (.one (.dat k (if dc.ZZ=true then dx else dy))) σ:=by
 have ec:a.eval c= .bool dc.ZZ:=R.jI hc
 refine .quiet R (v:=if dc.ZZ=true then a.eval x else a.eval y) ?_ ?_
 · simp[execOp,ho,ec,asBool]
 · by_cases h:dc.ZZ=true
   · rw[if_pos h,if_pos h,<-hx]
     exact(bG R o.type x).core (cx h)
   · rw[if_neg h,if_neg h,<-hy]
     exact(bG R o.type y).core (cy (by simpa using h))
theorem F8(R:Rel C g σ a w){c x y:Operand}(ho:o.op= .pick c x y){dc:D}(hc:(ev C.T 0 σ c).dn= .one (.dat .bool dc)):Did C a w o (if dc.ZZ=true then ev C.T o.type σ x else ev C.T o.type σ y) σ:=by
 have ec:a.eval c= .bool dc.ZZ:=R.jI hc
 refine .quiet R (v:=if dc.ZZ=true then a.eval x else a.eval y) ?_ ?_
 · simp[execOp,ho,ec,asBool]
 · by_cases h:dc.ZZ=true
   · rw[if_pos h,if_pos h];exact bG R o.type x
   · rw[if_neg h,if_neg h];exact bG R o.type y
theorem kF{n:Nat}(h:n<=al):inR .i64 (n:Int):=by
 simp[al] at h
 simp[inR,IntKind.min,IntKind.max,IntKind.signed,IntKind.bits]
 omega
theorem zS(R:Rel C g σ a w){x:Operand}{t:TypeId}(ho:o.op= .call { callee:=.builtin .len,args:= #[x],argTypes:= #[t] })(ht:(C.T t).ok=true){e':TypeId}(hs:(C.T t).sl=some e')
 {e:TypeId} {ks:List K} {d:D} (hx:(ev C.T t σ x).dn= .one (.dat (.sl e ks) d)):Did C a w o (.one (.dat (.int .i64) (.int d.ae.length))) σ:=by
 obtain⟨ad,cap,ex,_,hmax,_⟩:=R.jI hx
 obtain⟨_,dt,_,_,ht2,_,_,_,_,h7⟩:=(C.tok t ht).ex
 have hd:∃e,dt= .slice e:=by
  cases dt with
  |slice e=>exact⟨e,rfl⟩
  |int k=>have:=h7.2.1;rw[hs] at this;simp at this
  |bool=>have:=h7.2.1;rw[hs] at this;simp at this
  |struct fs=>have:=h7.2.1;rw[hs] at this;simp at this
  |string=>have:=h7.2.1;rw[hs] at this;simp at this
  |_=>exact h7.elim
 obtain⟨e2,rfl⟩:=hd
 refine .quiet R (v:=.int .i64 d.ae.length) ?_ (dh ⟨rfl,kF hmax⟩)
 simp[execOp,ho,ex,resolve,invoke,builtin,Builtin.len_,run_underlying ht2,goInt]
theorem BX(R:Rel C g σ a w){x:Operand}{t:TypeId}(ho:o.op= .call { callee:=.builtin .len,args:= #[x],argTypes:= #[t] })(ht:(C.T t).ok=true){e':TypeId}(hs:(C.T t).sl=some e')
 {z:Nat} {p:Option (Nat×Nat)} (hx:ev C.T t σ x= .one (.ref z p)) {e:TypeId} {ks:List K} {dp:Bool} {xs:List (List D)} (hz:σ.obj z=some (.arr e ks dp xs)):
 Did C a w o (.one (.dat (.int .i64) (.int (cn xs p)))) σ:=by
 have hxr:=bG R t x
 rw[hx] at hxr
 obtain⟨⟨aa,n,cap,a',hhd,ex,hle,hnc,_,_⟩,hle2⟩:=R.view hz hxr.1
 have hmax:cn xs p<=al:=by
  have:=R.objs z
  unfold bv at this
  simp only[sur,hz] at this
  obtain⟨_,_,_,hm,_⟩:=this
  omega
 obtain⟨_,dt,_,_,ht2,_,_,_,_,h7⟩:=(C.tok t ht).ex
 have hd:∃e,dt= .slice e:=by
  cases dt with
  |slice e=>exact⟨e,rfl⟩
  |int k=>have:=h7.2.1;rw[hs] at this;simp at this
  |bool=>have:=h7.2.1;rw[hs] at this;simp at this
  |struct fs=>have:=h7.2.1;rw[hs] at this;simp at this
  |string=>have:=h7.2.1;rw[hs] at this;simp at this
  |_=>exact h7.elim
 obtain⟨e2,rfl⟩:=hd
 refine .quiet R (v:=.int .i64 (cn xs p)) ?_ (dh ⟨rfl,kF hmax⟩)
 simp[execOp,ho,ex,resolve,invoke,builtin,Builtin.len_,run_underlying ht2,goInt]
theorem vW(R:Rel C g σ a w){x:Operand}{t:TypeId}(ho:o.op= .call { callee:=.builtin .len,args:= #[x],argTypes:= #[t] })(ht:(C.T t).ok=true){e':TypeId}(hs:(C.T t).sl=some e')
 {z:Nat} {p:Option (Nat×Nat)} (hx:ev C.T t σ x= .one (.ref z p)) {e:TypeId} {ks:List K} {xs:List (List D)} (hz:σ.obj z=some (.sealed e ks xs)):
 Did C a w o (.one (.dat (.int .i64) (.int (cn xs p)))) σ:=by
 have hxr:=bG R t x
 rw[hx] at hxr
 have hr:aB (sur C g σ w) z p (a.eval x):=hxr.1
 unfold aB at hr
 simp only[sur,hz] at hr
 obtain⟨hok,ad,cap,ex,_,hmax,_⟩:=hr
 have hlen:(cut xs p).length=cn xs p:=by
  unfold cut cn
  cases p with
  |none=>rfl
  |some q=>simp only[Ai] at hok;simp only[length_take,length_drop];omega
 simp only[D.aQ,hlen] at ex hmax
 obtain⟨_,dt,_,_,ht2,_,_,_,_,h7⟩:=(C.tok t ht).ex
 have hd:∃e,dt= .slice e:=by
  cases dt with
  |slice e=>exact⟨e,rfl⟩
  |int k=>have:=h7.2.1;rw[hs] at this;simp at this
  |bool=>have:=h7.2.1;rw[hs] at this;simp at this
  |struct fs=>have:=h7.2.1;rw[hs] at this;simp at this
  |string=>have:=h7.2.1;rw[hs] at this;simp at this
  |_=>exact h7.elim
 obtain⟨e2,rfl⟩:=hd
 refine .quiet R (v:=.int .i64 (cn xs p)) ?_ (dh ⟨rfl,kF hmax⟩)
 simp[execOp,ho,ex,resolve,invoke,builtin,Builtin.len_,run_underlying ht2,goInt]
theorem K3(R:Rel C g σ a w){x y:Operand}{t t':TypeId}(b:Bool)(ho:o.op= .call { callee:=.builtin (bif b then .min else .max),args:= #[x,y],argTypes:= #[t,t'] }){k:IntKind}{dx dy:D}(hx:(ev C.T t σ x).dn= .one (.dat (.int k) dx))
 (hy:(ev C.T t' σ y).dn= .one (.dat (.int k) dy)) {d:D} (hd:d.ZY=if(bif b then decide (dy.ZY<dx.ZY) else decide (dx.ZY<dy.ZY))=true then dy.ZY else dx.ZY):Did C a w o (.one (.dat (.int k) d)) σ:=by
 obtain⟨ex,rx⟩:=R.jI hx
 obtain⟨ey,ry⟩:=R.jI hy
 refine .quiet R (v:=.int k d.ZY) ?_ (dh ⟨rfl,?_⟩)
 · cases b with
   |true=>simp only[cond_true,decide_eq_true_eq] at ho hd;simp[execOp,ho,ex,ey,resolve,invoke,builtin,Builtin.min_,Builtin.min2,hd]
   |false=>simp only[cond_false,decide_eq_true_eq] at ho hd;simp[execOp,ho,ex,ey,resolve,invoke,builtin,Builtin.max_,Builtin.max2,hd]
 · rw[hd];split
   · exact ry
   · exact rx
theorem Al(R:Rel C g σ a w){x:Operand}{t:TypeId}(ho:o.op= .call { callee:=.builtin .len,args:= #[x],argTypes:= #[t] })(ht:(C.T t).ok=true)(hs:(C.T t).isStr=true)
 {d:D} (hx:(ev C.T t σ x).dn= .one (.dat .str d)):Did C a w o (.one (.dat (.int .i64) (.int d.ao.size))) σ:=by
 obtain⟨ex,hmax⟩:=R.jI hx
 obtain⟨_,dt,_,_,ht2,_,_,_,_,h7⟩:=(C.tok t ht).ex
 have hd:dt= .string:=by
  cases dt with
  |string=>rfl
  |int k=>have:=h7.2.2.2.1;rw[hs] at this;simp at this
  |bool=>have:=h7.2.2.2.1;rw[hs] at this;simp at this
  |struct fs=>have:=h7.2.2.2.1;rw[hs] at this;simp at this
  |slice e=>have:=h7.2.2.2.1;rw[hs] at this;simp at this
  |_=>exact h7.elim
 subst hd
 refine .quiet R (v:=.int .i64 d.ao.size) ?_ (dh ⟨rfl,kF hmax⟩)
 simp[execOp,ho,ex,resolve,invoke,builtin,Builtin.len_,run_underlying ht2,goInt]
def bnd(T:TypeId->TI)(σ:St)(dflt:Int):Option Operand->Option Int
 |none=>some dflt
 |some x=>match(ev T 0 σ x).dn with
  | .one (.dat (.int _) d)=>some d.ZY
  |_=>none
theorem AN(R:Rel C g σ a w){dflt:Int}{x:Option Operand}{n:Int}(h:bnd C.T σ dflt x=some n):(x=none∧n=dflt)∨∃y k,x=some y∧a.eval y= .int k n:=by
 cases x with
 |none=>simp[bnd] at h;exact .inl ⟨rfl,h.symm⟩
 |some y=>
  simp only[bnd] at h
  split at h
  · rename_i k d he
    simp at h
    obtain⟨e,_⟩:=R.jI he
    exact .inr ⟨y,k,rfl,by rw[e,h]⟩
  · cases h
theorem pF(R:Rel C g σ a w){len cap:Nat}{lo hi:Option Operand}{l h:Int}(hl:bnd C.T σ 0 lo=some l)(hh:bnd C.T σ len hi=some h)(h0:0<=l)(h1:l<=h)(h2:h<=cap)(isS:Bool):
 (Instr.sliceBounds isS len cap (lo.map a.eval) (hi.map a.eval) none).run C.P w= .ok (l.toNat,h.toNat,cap) w:=by
 rcases AN R hl with ⟨rfl,rfl⟩|⟨x,k,rfl,ex⟩<;>rcases AN R hh with ⟨rfl,rfl⟩|⟨y,k',rfl,ey⟩
 · simp[Instr.sliceBounds]
 · simp[Instr.sliceBounds,Instr.sliceBound,ey,asIntOf,show 0<=h by omega,h2]
 · simp[Instr.sliceBounds,Instr.sliceBound,ex,asIntOf,h0,h1]
 · simp[Instr.sliceBounds,Instr.sliceBound,ex,ey,asIntOf,h0,show 0<=h by omega,h2,show l<=max h 0 by omega]
theorem i9{t:TypeId}(ht:(C.T t).ok=true){e:TypeId}(hs:(C.T t).sl=some e):C.P.underlying t=some (.slice e):=by
 obtain⟨_,dt,_,_,ht2,_,_,_,_,h7⟩:=(C.tok t ht).ex
 cases dt with
 |slice e'=>have:=h7.2.1;rw[hs] at this;simp at this;rw[this];exact ht2
 |int k=>have:=h7.2.1;rw[hs] at this;simp at this
 |bool=>have:=h7.2.1;rw[hs] at this;simp at this
 |struct fs=>have:=h7.2.1;rw[hs] at this;simp at this
 |string=>have:=h7.2.1;rw[hs] at this;simp at this
 |_=>exact h7.elim
theorem Jg{t:TypeId}(ht:(C.T t).ok=true)(hs:(C.T t).isStr=true):C.P.underlying t=some .string:=by
 obtain⟨_,dt,_,_,ht2,_,_,_,_,h7⟩:=(C.tok t ht).ex
 cases dt with
 |string=>exact ht2
 |int k=>have:=h7.2.2.2.1;rw[hs] at this;simp at this
 |bool=>have:=h7.2.2.2.1;rw[hs] at this;simp at this
 |struct fs=>have:=h7.2.2.2.1;rw[hs] at this;simp at this
 |slice e=>have:=h7.2.2.2.1;rw[hs] at this;simp at this
 |_=>exact h7.elim
theorem ov{t:TypeId}(ht:(C.T t).ok=true)(w:World):(sizeOf t).run C.P w= .ok (C.T t).ks.length w:=by
 obtain⟨i,_,_,h1,_,h3,_⟩:=(C.tok t ht).ex
 simp[sizeOf,typeInfo,h1,h3]
theorem wO(R:Rel C g σ a w){t:TypeId}{x:Operand}{lo hi:Option Operand}(ho:o.op= .slice t x lo hi none)(ht:(C.T t).ok=true){e:TypeId}(hs:(C.T t).sl=some e)(het:(C.T e).ok=true)
 {e':TypeId} {ks:List K} {d:D} (hx:(ev C.T t σ x).dn= .one (.dat (.sl e' ks) d)) (hks:ks.length=(C.T e).ks.length) {l h:Int} (hl:bnd C.T σ 0 lo=some l) (hh:bnd C.T σ d.ae.length hi=some h)
 (h0:0<=l) (h1:l<=h) (h2:h<=d.ae.length):Did C a w o (.one (.dat (.sl e' ks) (.sl ((d.ae.drop l.toNat).take (h.toNat - l.toNat))))) σ:=by
 obtain⟨ad,cap,ex,hcap,hmax,hor⟩:=R.jI hx
 have hb:=pF R (len:=d.ae.length) (cap:=cap) hl hh h0 h1 (by omega) true
 have hlen:((d.ae.drop l.toNat).take (h.toNat - l.toNat)).length=h.toNat - l.toNat:=by
  rw[length_take,length_drop];omega
 refine .quiet R (v:=.slice (if cap=l.toNat then ad else ad.map (·.add (l.toNat*(C.T e).ks.length))) (h.toNat - l.toNat) (cap - l.toNat)) ?_ (dh ?_)
 · simp[execOp,ho,ex,Instr.sliceAt,Instr.slice,run_underlying (i9 ht hs),hb,ov het]
 · refine⟨if cap=l.toNat then ad else ad.map (·.add (l.toNat*(C.T e).ks.length)),cap - l.toNat,by rw[D.aQ,hlen],by rw[D.aQ,hlen];omega,by rw[D.aQ,hlen];omega,?_⟩
   simp only[D.aQ]
   by_cases he:h.toNat - l.toNat=0
   · left;rw[he];simp
   · right
     rcases hor with hn|⟨b,off,rfl,hrows⟩
     · rw[hn] at h2;simp at h2;omega
     · rw[if_neg (by omega)]
       refine⟨b,off+l.toNat*ks.length,by simp[Addr.add_lit,hks],fun i row hi=> ?_⟩
       rw[getElem?_take] at hi
       split at hi
       · rw[getElem?_drop] at hi
         obtain⟨vs,hr,hm,hc⟩:=hrows (l.toNat+i) row hi
         have e1:off+l.toNat*ks.length+i*ks.length=off+(l.toNat+i)*ks.length:=by rw[add_mul];omega
         exact⟨vs,by rw[e1];exact hr,by rw[e1];exact hm,hc⟩
       · cases hi
theorem wH(R:Rel C g σ a w){t:TypeId}{x:Operand}{lo hi:Option Operand}(ho:o.op= .slice t x lo hi none)(ht:(C.T t).ok=true){e:TypeId}(hs:(C.T t).sl=some e)(het:(C.T e).ok=true)
 {z:Nat} {p:Option (Nat×Nat)} (hx:ev C.T t σ x= .one (.ref z p)) {e':TypeId} {ks:List K} {dp:Bool} {xs:List (List D)} (hz:σ.obj z=some (.arr e' ks dp xs)) (hks:ks.length=(C.T e).ks.length)
 {l h:Int} (hl:bnd C.T σ 0 lo=some l) (hh:bnd C.T σ (cn xs p) hi=some h)
 (h0:0<=l) (h1:l<=h) (h2:h<=cn xs p):Did C a w o (.one (.ref z (some (cC p+l.toNat,h.toNat - l.toNat)))) σ:=by
 have hxr:=bG R t x
 rw[hx] at hxr
 obtain⟨⟨aa,n,cap,a',hhd,ex,hle,hnc,hof,hpos⟩,hle2⟩:=R.view hz hxr.1
 generalize hlen:cn xs p=len at*
 generalize hoff:cC p=off at*
 have hb:=pF R (len:=len) (cap:=cap - off) hl hh h0 h1 (by omega) true
 refine .quiet R (v:=.slice (if cap - off=l.toNat then a' else a'.map (·.add (l.toNat*(C.T e).ks.length))) (h.toNat - l.toNat) (cap - off - l.toNat)) ?_ ⟨?_,rfl⟩
 · simp[execOp,ho,ex,Instr.sliceAt,Instr.slice,run_underlying (i9 ht hs),hb,ov het]
 · show aB _ _ _ _
   unfold aB
   simp only[sur,hz]
   refine⟨show _<=_ by omega,aa,n,cap,_,hhd,by rw[Nat.sub_sub],by omega,hnc,fun he=> ?_,fun hp=> ?_⟩
   · have hl0:l.toNat=0:=by omega
     have ho0:off=0:=by omega
     rw[hl0]
     have e1:∀q:Option Addr,q.map (·.add (0*(C.T e).ks.length))=q:=fun q=>by
      cases q<;>simp[Addr.add]
     rw[e1,hof ho0]
     split<;>rfl
   · rw[if_neg (by omega),hpos (by omega)]
     cases aa with
     |none=>rfl
     |some q=>
      simp only[map_some,Option.some.injEq]
      rw[<-hks,add_mul]
      generalize off*ks.length=m1
      generalize l.toNat*ks.length=m2
      obtain⟨qb,qo,qs⟩:=q
      unfold Addr.add
      by_cases c1:m1=0<;>by_cases c2:m2=0<;>simp[c1,c2]<;>omega
theorem wG(R:Rel C g σ a w){t:TypeId}{x:Operand}{lo hi:Option Operand}(ho:o.op= .slice t x lo hi none)(ht:(C.T t).ok=true)(hs:(C.T t).isStr=true)
 {d:D} (hx:(ev C.T t σ x).dn= .one (.dat .str d)) {l h:Int} (hl:bnd C.T σ 0 lo=some l) (hh:bnd C.T σ d.ao.size hi=some h)
 (h0:0<=l) (h1:l<=h) (h2:h<=d.ao.size):Did C a w o (.one (.dat .str (.str (d.ao.extract l.toNat h.toNat)))) σ:=by
 obtain⟨ex,hmax⟩:=R.jI hx
 have hb:=pF R (len:=d.ao.size) (cap:=d.ao.size) hl hh h0 h1 h2 false
 refine .quiet R (v:=.string (d.ao.extract l.toNat h.toNat)) ?_ (dh ⟨rfl,?_⟩)
 · simp[execOp,ho,ex,Instr.sliceAt,Instr.slice,run_underlying (Jg ht hs),hb]
 · simp only[D.Fx,ByteArray.size_extract]
   omega
theorem f9.get{s:Sur}:∀{us:List AV}{vs:List Value},f9 s us vs->∀(i:Nat)(u:AV),us[i]? =some u->∃v,vs[i]? =some v∧bB s u v
 |[],_,_,i,u,hu=>by simp at hu
 |_::_,_,h,0,u,hu=>by obtain⟨v,vs',rfl,r,_⟩:=h;simp at hu;subst hu;exact⟨v,rfl,r⟩
 |_::_,_,h,i+1,u,hu=>by obtain⟨v,vs',rfl,_,r'⟩:=h;simpa using f9.get r' i u (by simpa using hu)
theorem Cf(R:Rel C g σ a w){x:Operand}{i:Nat}(ho:o.op= .extract x i){us:List AV}(hx:ev C.T 0 σ x= .tup us){u:AV}(hu:us[i]? =some u):Did C a w o u σ:=by
 have h:=bG R 0 x
 rw[hx] at h
 obtain⟨vs,ex,hr⟩:=h
 obtain⟨v,hv,r⟩:=hr.get i u hu
 exact .quiet R (v:=v) (by simp[execOp,ho,ex,Instr.extract,hv]) r
theorem GJ{s:TypeId}(hs:(C.T s).ok=true)(ha:(C.T s).agg=true){f off:Nat}{ft:TypeId}(hf:(C.T s).gI[f]? =some (off,ft)):
 ∃(fs:Array Field) (fd:Field),C.P.underlying s=some (.struct fs)∧fs[f]? =some fd∧fd.offset=off∧fd.type=ft:=by
 obtain⟨_,d,_,_,h2,_,_,_,_,h7⟩:=(C.tok s hs).ex
 have hrow:=h7.row
 rw[ha] at hrow
 cases d with
 |struct fs=>
  have hfs:=h7.2.2.2.2
  rw[<-hfs] at hf
  simp only[getElem?_map,Array.getElem?_toList,map_eq_some_iff] at hf
  obtain⟨fd,hfd,he⟩:=hf
  simp only[Prod.mk.injEq] at he
  exact⟨fs,fd,h2,hfd,he.1,he.2⟩
 |array n e=>exact h7.elim
 |_=>simp[TypeDesc.isRow] at hrow
theorem Bq{t:TypeId}(ht:(C.T t).ok=true)(w:World):(isAgg t).run C.P w= .ok (C.T t).agg w:=by
 obtain⟨_,d,_,_,h2,_,_,_,_,h7⟩:=(C.tok t ht).ex
 rw[kN h2,h7.row]
theorem Hm{t:TypeId}(ht:(C.T t).ok=true)(ha:(C.T t).agg=false):(C.T t).ks.length=1:=by
 obtain⟨_,d,_,_,_,_,_,_,_,h7⟩:=(C.tok t ht).ex
 exact h7.one ha
theorem GE(R:Rel C g σ a w){s:TypeId}{x:Operand}{f:Nat}(ho:o.op= .field s x f)(hs:(C.T s).ok=true)(ha:(C.T s).agg=true){off:Nat}{ft:TypeId}
 (hf:(C.T s).gI[f]? =some (off,ft)) (hft:(C.T ft).ok=true) {cs:List AC} (hx:ev C.T s σ x= .agg cs) (hn:off+(C.T ft).ks.length<=cs.length):
 Did C a w o (mkA (C.T ft).agg ((cs.drop off).take (C.T ft).ks.length)) σ:=by
 have h:=bG R s x
 rw[hx] at h
 obtain⟨vs,ex,hr⟩:=h
 obtain⟨fs,fd,hu,hfd,rfl,rfl⟩:=GJ hs ha hf
 have hl:=hr.length
 refine .quiet R (v:=mkV (C.T fd.type).agg ((vs.drop fd.offset).take (C.T fd.type).ks.length)) ?_ (qp (aE.take _ (aE.drop _ hr)))
 cases hag:(C.T fd.type).agg with
 |true=>
  simp only[execOp,ho,ex,Instr.field,Sem.run_bind,run_underlying hu,Result.andThen_ok,hfd,part,asAgg,Bq hft,hag,ov hft,mkV,if_true,Sem.run_pure]
  congr 3
  apply ext'
  simp only[List.extract_toArray,List.extract_eq_take_drop,Nat.add_sub_cancel_left]
 |false=>
  have h1:=Hm hft hag
  have hlt:fd.offset<vs.length:=by omega
  have hv:vs.toArray[fd.offset]? =some vs[fd.offset]:=by simp[hlt]
  simp only[execOp,ho,ex,Instr.field,Sem.run_bind,run_underlying hu,Result.andThen_ok,hfd,part,asAgg,Bq hft,hag,hv,mkV,h1,Sem.run_pure]
  rw[List.drop_eq_getElem_cons hlt]
  rfl
end
end Go.Vx
namespace Go.Vx
open Go.RowKit (Below)
section
variable {C:Cx} {g:Gh} {σ:St} {a:Act} {w:World} {o:Oper}
theorem Rel.Gj(R:Rel C g σ a w){y:Nat}(hl:Ob.isX (σ.obj y)=true){b:Nat}(hb:bq (g.hd y)=some b):b∈g.fp y:=by
 have hoy:=R.objs y
 unfold bv at hoy
 simp only[sur] at hoy
 cases hy:σ.obj y with
 |none=>rw[hy] at hl;simp[Ob.isX] at hl
 |some q=>
  rw[hy] at hl hoy
  cases q with
  |arx e' ks' xs'=>
   obtain⟨vss',fps',q1,_,_,_,q5,_⟩:=hoy
   rw[q5]
   refine mem_append.2 (.inl ?_)
   rcases be q1 with ⟨e1,_⟩|⟨b',cap',e1,_⟩
   · rw[e1] at hb;simp[bq] at hb
   · rw[e1] at hb⊢
     simp only[bq,Option.some.injEq] at hb
     simp[Value.ownBlock,hb]
  |_=>simp[Ob.isX] at hl
theorem Rel.MR(R:Rel C g σ a w){y b:Nat}(hb:b∈g.fp y){obj:Nat->Option Ob}{hd:Nat->Value}{fp:Nat->List Nat}(h:∀z,Ob.live (obj z)=true->bq (hd z)=some b->Ob.live (σ.obj z)=true∧z≠y∧hd z=g.hd z)
 (hx:∀z,Ob.isX (obj z)=true->b∈fp z->z≠y∧b∈g.fp z) (p:Nat):
 ¬Me C.M obj hd fp b p:=by
 rintro(hM|⟨z,hl,hz⟩|⟨z,hl,hz⟩)
 · have:=C.oL b p hM
   rcases(R.alw y b hb).1 with h'|h'
   · omega
   · exact this.2 h'
 · obtain⟨h1,h2,h3⟩:=h z hl hz
   rw[h3] at hz
   exact R.apart z y h2 b (R.er h1 hz) hb
 · obtain⟨h1,h2⟩:=hx z hl hz
   exact R.apart z y h1 b h2 hb
theorem Rel.ue(R:Rel C g σ a w){y:Nat}{e:TypeId}{ks:List K}{dp:Bool}{xs:List (List D)}(hy:σ.obj y=some (.arr e ks dp xs)){p:Option (Nat×Nat)}{v:Value}
 (hp:aB (sur C g σ w) y p v) (me:Nat->Nat->Prop) (hk:Keeps w (Me C.M σ.obj g.hd g.fp) w me) (hme:∀b,b∈g.fp y->∀p,¬me b p):
 bV w me (.sl e ks) v (.sl (cut xs p)):=by
 obtain⟨⟨aa,n,cap,a',hhd,ev,hon,hnc,hof,hpos⟩,hle⟩:=R.view hy hp
 have hcut:cut xs p=(xs.drop (cC p)).take (cn xs p):=by
  cases p with
  |none=>simp[cut,cC,cn]
  |some q=>rfl
 rw[hcut]
 generalize cn xs p=len at*
 generalize cC p=off at*
 have hlen:((xs.drop off).take len).length=len:=by rw[length_take,length_drop];omega
 have ho:=R.objs y
 unfold bv at ho
 simp only[sur,hy] at ho
 obtain⟨_,_,hown,hmax,_⟩:=ho
 refine⟨a',cap - off,by rw[D.aQ,hlen];exact ev,by rw[D.aQ,hlen];omega,by rw[D.aQ,hlen];omega,?_⟩
 rw[D.aQ]
 by_cases h0:len=0
 · left;rw[h0];simp
 · right
   obtain⟨b,cap',_,hhd',_,_⟩:=R.y5 hy (i:=off) (row:=xs.getD off []) (by simp[getD,show off<xs.length by omega])
   rw[hhd] at hhd'
   simp only[Value.slice.injEq] at hhd'
   obtain⟨rfl,rfl,rfl⟩:=hhd'
   have ha':=hpos (by omega)
   simp only[map_some,Addr.add_lit,zero_add] at ha'
   have hbf:b∈g.fp y:=R.er (by rw[hy];rfl) (by rw[hhd];rfl)
   refine⟨b,off*ks.length,ha',fun i row hi=> ?_⟩
   rw[getElem?_take] at hi
   split at hi
   · rw[getElem?_drop] at hi
     obtain⟨b',cap'',vs,hhd'',hr,hc⟩:=R.y5 hy hi
     rw[hhd] at hhd''
     simp only[Value.slice.injEq,Option.some.injEq,Addr.mk.injEq,and_true,true_and] at hhd''
     obtain⟨rfl,_⟩:=hhd''
     have e1:off*ks.length+i*ks.length=(off+i)*ks.length:=by rw[add_mul]
     exact⟨vs,by rw[e1];exact hr,fun j _=>hme b hbf _,hc.keeps hk⟩
   · cases hi
theorem Rel.xP(R:Rel C g σ a w){y:Nat}{e:TypeId}{ks:List K}{dp:Bool}{xs:List (List D)}(hy:σ.obj y=some (.arr e ks dp xs)):
 Shift (sur C g σ w) (sur C (g.upd y (g.hd y) []) (σ.aU y (.sealed e ks xs)) w):=by
 have hhd:∀z,(g.upd y (g.hd y) []).hd z=g.hd z:=fun z=>by
  by_cases h:z=y
  · subst h;simp[Gh.upd,bh]
  · simp[Gh.upd,aW _ _ h]
 have hlive:∀z,Ob.live ((σ.aU y (.sealed e ks xs)).obj z)=true->Ob.live (σ.obj z)=true∧z≠y:=fun z hl=>by
  rw[St.ap] at hl
  split at hl
  · simp[Ob.live] at hl
  · rename_i h;exact⟨hl,h⟩
 have hisX:∀z b,Ob.isX ((σ.aU y (.sealed e ks xs)).obj z)=true->b∈(g.upd y (g.hd y) []).fp z->Ob.isX (σ.obj z)=true∧z≠y∧b∈g.fp z:=fun z b hl hz=>by
  rw[St.ap] at hl
  split at hl
  · simp[Ob.isX] at hl
  · rename_i h;simp only[Gh.upd,aW _ _ h] at hz;exact⟨hl,h,hz⟩
 have hk:Keeps w (Me C.M σ.obj g.hd g.fp) w (Me C.M (σ.aU y (.sealed e ks xs)).obj (g.upd y (g.hd y) []).hd (g.upd y (g.hd y) []).fp):=by
  intro b p v hc hn
  refine⟨hc,?_⟩
  rintro(hM|⟨z,hl,hz⟩|⟨z,hl,hz⟩)
  · exact hn (.inl hM)
  · rw[hhd] at hz
    exact hn (.inr (.inl ⟨z,(hlive z hl).1,hz⟩))
  · exact hn (.inr (.inr ⟨z,(hisX z b hl hz).1,(hisX z b hl hz).2.2⟩))
 have hme:∀b,b∈g.fp y->∀p,¬Me C.M (σ.aU y (.sealed e ks xs)).obj (g.upd y (g.hd y) []).hd (g.upd y (g.hd y) []).fp b p:=fun b hb p=>
  R.MR hb (fun z hl _=>⟨(hlive z hl).1,(hlive z hl).2,hhd z⟩) (fun z hl hz=>(hisX z b hl hz).2) p
 refine⟨hk,fun z p v hr=> ?_,fun z i j v hp=> ?_,qM rfl (fun z _=>hhd z) fun _ _ _ _ _ _ h _=>h,p8 rfl fun z _=>hhd z⟩
 · have hr0:=hr
   unfold aB at hr⊢
   simp only[sur,St.ap] at hr⊢
   by_cases hz:z=y
   · subst hz
     simp only[hy,if_true] at hr⊢
     exact⟨hr.1,R.ue hy hr0 _ hk hme⟩
   · simp only[if_neg hz,hhd]
     cases hzo:σ.obj z with
     |none=>rw[hzo] at hr;exact hr
     |some q=>
      rw[hzo] at hr
      cases q with
      |«sealed» e' ks' xs'=>exact⟨hr.1,hr.2.keeps hk⟩
      |_=>exact hr
 · unfold aV at hp⊢
   simp only[sur,St.ap] at hp⊢
   by_cases hz:z=y
   · subst hz;simp only[if_true]
   · simp only[if_neg hz,hhd];exact hp
theorem Rel.DY(R:Rel C g σ a w){y:Nat}{e:TypeId}{ks:List K}{dp:Bool}{xs:List (List D)}(hy:σ.obj y=some (.arr e ks dp xs)):
 Rel C (g.upd y (g.hd y) []) (σ.aU y (.sealed e ks xs)) a w:=by
 have hs:=R.xP hy
 have hhd:∀z,(g.upd y (g.hd y) []).hd z=g.hd z:=fun z=>by
  by_cases h:z=y
  · subst h;simp[Gh.upd,bh]
  · simp[Gh.upd,aW _ _ h]
 refine R.move rfl hs (fun z=> ?_) (fun z=> ?_) (fun z z' hne b hb hb'=> ?_) (fun z b hb=> ?_) R.fr
 · by_cases hz:z=y
   · subst hz
     unfold bv
     simp[sur,St.ap,Gh.upd,bh]
   · refine(R.objs z).shift hs ?_ (hhd z) ?_ fun b _=>rfl
     · simp[sur,St.ap,hz]
     · simp[Gh.upd,aW _ _ hz]
 · by_cases hz:z=y
   · subst hz;simp[Gh.upd,bh]
   · simpa[Gh.upd,aW _ _ hz] using R.own z
 · by_cases hz:z=y
   · subst hz;simp[Gh.upd,bh] at hb
   · by_cases hz':z'=y
     · subst hz';simp[Gh.upd,bh] at hb'
     · simp only[Gh.upd,aW _ _ hz,aW _ _ hz'] at hb hb'
       exact R.apart z z' hne b hb hb'
 · by_cases hz:z=y
   · subst hz;simp[Gh.upd,bh] at hb
   · simp only[Gh.upd,aW _ _ hz] at hb
     exact R.alw z b hb
theorem Rel.Na(R:Rel C g σ a w){x:Nat}(hx:σ.obj x=none)(e:TypeId)(ks:List K):Rel C (g.upd x (.slice none 0 0) []) (σ.aU x (.arr e ks true [])) a w:=by
 refine R.grow (Below.refl _ _) hx (fun b hb=>by simp[bq] at hb) (by simp) (fun b hb=>by simp at hb) ?_
 unfold bv
 simp only[sur,St.ap,if_pos,Gh.upd,bh]
 exact⟨[],[],World.ownsRow_nil _ _ _ _,by simp[al],rfl,rfl,rfl,fun i row vs f h=>by simp at h⟩
def gJ:K->AC
 | .sl e ks=>.nil e ks
 | .int k=>.dat (.int k) (.int 0)
 | .bool=>.dat .bool (.bool false)
 | .str=>.dat .str (.str ⟨#[]⟩)
theorem sr(s:Sur):∀ks:List K,aE s (ks.map gJ) (ks.map zeroV)
 |[]=>rfl
 |k::ks=>by
  refine⟨zeroV k,ks.map zeroV,rfl,?_,?_,sr s ks⟩
  · cases k<;>rfl
  · cases k with
    |int k=>
     refine⟨rfl,?_⟩
     cases k<;>simp[inR,IntKind.min,IntKind.max,IntKind.signed,IntKind.bits]
    |bool=>rfl
    |str=>exact⟨rfl,zero_le _⟩
    |sl e ks=>rfl
theorem xn{t:TypeId}(ht:(C.T t).ok=true)(w:World):∃z,(zeroValue t).run C.P w= .ok z w∧z.cells=((C.T t).ks.map zeroV).toArray:=by
 obtain⟨i,_,z,h1,_,_,_,hz,hc,_⟩:=(C.tok t ht).ex
 exact⟨z,by simp[zeroValue,typeInfo,h1,hz],by rw[<-hc]⟩
theorem Fc(R:Rel C g σ a w){t:TypeId}(ho:o.op= .alloc t)(ht:(C.T t).ok=true){x:Nat}(hx:σ.obj x=none):
 Did C a w o (.ptr x 0 0) (σ.aU x (.box t ((C.T t).ks.map gJ))):=by
 obtain⟨z,hz,hc⟩:=xn ht w
 refine⟨.value (.pointer (some ⟨w.heap.size,0,none⟩)),_,_,?_,.inl ⟨_,rfl,?_⟩,R.H4 hx (sr _ _)⟩
 · simp only[execOp,ho,Instr.alloc,Sem.run_bind,hz,Result.andThen_ok,newVar,newRow,newObj,hc]
   rfl
 · show aV _ _ _ _ _
   unfold aV
   simp only[sur,St.ap,if_true,Gh.upd,bh]
   exact⟨_,rfl,rfl⟩
def AV.cells?:AV->Option (List AC)
 | .agg cs=>some cs
 | .one c=>some [c]
 |_=>none
theorem lP{s:Sur}{u:AV}{v:Value}(h:bB s u v){cs:List AC}(hc:u.cells?=some cs):∃vs,v.cells=toArray vs∧aE s cs vs:=by
 cases u<;>simp only[AV.cells?,Option.some.injEq,reduceCtorEq] at hc
 · subst hc
   refine⟨[v],?_,v,[],rfl,h.2,h.1,rfl⟩
   have:=h.2
   cases v<;>simp_all [Value.cells,Value.oneCell']
 · subst hc
   obtain⟨vs,rfl,hr⟩:=h
   exact⟨vs,rfl,hr⟩
theorem Ka(R:Rel C g σ a w){t:TypeId}{y:Operand}(ho:o.op= .box t y){cs:List AC}(hy:(ev C.T t σ y).cells?=some cs){x:Nat}(hx:σ.obj x=none):
 Did C a w o (.ptr x 0 0) (σ.aU x (.box t cs)):=by
 obtain⟨vs,hv,hr⟩:=lP (bG R t y) hy
 refine⟨.value (.pointer (some ⟨w.heap.size,0,none⟩)),_,_,?_,.inl ⟨_,rfl,?_⟩,R.H4 hx hr⟩
 · simp only[execOp,ho,Instr.box,Sem.run_bind,newVar,newRow,newObj,hv]
   rfl
 · show aV _ _ _ _ _
   unfold aV
   simp only[sur,St.ap,if_true,Gh.upd,bh]
   exact⟨_,rfl,rfl⟩
end
end Go.Vx
namespace Go.Vx
open Go.RowKit (Below)
def K.plain:K->Bool
 | .sl _ _=>false
 |_=>true
def fX(σ:St):List AC->Option (St×List K×List D×Bool)
 |[]=>some (σ,[],[],true)
 | .dat k d::cs=>match fX σ cs with
   |some (σ',ks,ds,dp)=>some (σ',k::ks,d::ds,dp&&k.plain)
   |none=>none
 | .nil e ks'::cs=>match fX σ cs with
   |some (σ',ks,ds,dp)=>some (σ',.sl e ks'::ks,.sl []::ds,dp)
   |none=>none
 | .ref y p::cs=>match σ.obj y with
   |some (.arr e ks' dp' xs)=>match fX (σ.aU y (.sealed e ks' xs)) cs with
    |some (σ',ks,ds,dp)=>some (σ',.sl e ks'::ks,.sl (cut xs p)::ds,dp&&(dp'&&p.isNone))
    |none=>none
   |some (.sealed e ks' xs)=>match fX σ cs with
    |some (σ',ks,ds,dp)=>some (σ',.sl e ks'::ks,.sl (cut xs p)::ds,false)
    |none=>none
   |_=>none
 | .dead::_=>none
section
variable {C:Cx} {a:Act} {w:World}
structure IJ (C:Cx) (a:Act) (w:World) (g:Gh) (σ:St) (vs:List Value) (σ':St) (ks:List K) (ds:List D) (dp:Bool) (g':Gh) (F:List Nat):Prop where
 rel:Rel C g' σ' a w
 tmps:σ'.tmps=σ.tmps
 shift:Shift (sur C g σ w) (sur C g' σ' w)
 zx:aP w (Me C.M σ'.obj g'.hd g'.fp) ks vs ds
 less:∀x b,b∈g'.fp x->b∈g.fp x
 hd:g'.hd=g.hd
 same:∀x,(∀e ks xs,σ.obj x≠some (.arr e ks true xs))->(∀e ks xs,σ.obj x≠some (.arr e ks false xs))->σ'.obj x=σ.obj x
 live:∀x,Ob.live (σ'.obj x)=true->σ'.obj x=σ.obj x∧g'.fp x=g.fp x
 none:∀x,σ.obj x=none->σ'.obj x=none
 deep:dp=true->bj w ks vs ds F∧F.Nodup∧∀b,b∈F->(∀x,b ∉ g'.fp x)∧∃x,b∈g.fp x
theorem jb:∀(cs:List AC){g:Gh}{σ:St}{vs:List Value}{σ':St}{ks:List K}{ds:List D}{dp:Bool},Rel C g σ a w->aE (sur C g σ w) cs vs->
 fX σ cs=some (σ',ks,ds,dp)->∃g' F,IJ C a w g σ vs σ' ks ds dp g' F
 |[],g,σ,vs,σ',ks,ds,dp,R,h,ha=>by
  simp only[fX,Option.some.injEq,Prod.mk.injEq] at ha
  obtain⟨rfl,rfl,rfl,rfl⟩:=ha
  exact⟨g,[],R,rfl,Shift.refl _,h,fun _ _ h=>h,rfl,fun _ _ _=>rfl,fun _ _=>⟨rfl,rfl⟩,fun _ h=>h,fun _=>⟨⟨h,rfl⟩,List.nodup_nil,fun b hb=>by simp at hb⟩⟩
 | .dat k d::cs,g,σ,vs,σ',ks,ds,dp,R,h,ha=>by
   obtain⟨v,vs',rfl,_,hc,hr⟩:=h
   simp only[fX] at ha
   split at ha
   · rename_i σ1 ks1 ds1 dp1 he
     simp only[Option.some.injEq,Prod.mk.injEq] at ha
     obtain⟨rfl,rfl,rfl,rfl⟩:=ha
     obtain⟨g',F,A⟩:=jb cs R hr he
     refine⟨g',F,{ A with zx:=⟨v,vs',rfl,bV.keeps A.shift.keeps hc,A.zx⟩,deep:=fun hd=> ?_ }⟩
     simp only[and_eq_true] at hd
     obtain⟨q1,q2,q3⟩:=A.deep hd.1
     refine⟨⟨v,vs',[],F,rfl,rfl,?_,q1⟩,q2,q3⟩
     have hc':bV w (Me C.M σ.obj g.hd g.fp) k v d:=hc
     cases k with
     |int _=>exact⟨hc'.1,hc'.2,rfl⟩
     |bool=>exact⟨hc',rfl⟩
     |str=>exact⟨hc'.1,hc'.2,rfl⟩
     |sl _ _=>simp[K.plain] at hd
   · cases ha
 | .nil e ks'::cs,g,σ,vs,σ',ks,ds,dp,R,h,ha=>by
   obtain⟨v,vs',rfl,_,hc,hr⟩:=h
   simp only[fX] at ha
   split at ha
   · rename_i σ1 ks1 ds1 dp1 he
     simp only[Option.some.injEq,Prod.mk.injEq] at ha
     obtain⟨rfl,rfl,rfl,rfl⟩:=ha
     obtain⟨g',F,A⟩:=jb cs R hr he
     have hv:v= .slice none 0 0:=hc
     refine⟨g',F,{ A with zx:=⟨v,vs',rfl,?_,A.zx⟩,deep:=fun hd=> ?_ }⟩
     · rw[hv];exact⟨none,0,rfl,le_refl _,by simp[al],.inl rfl⟩
     · obtain⟨q1,q2,q3⟩:=A.deep hd
       refine⟨⟨v,vs',[],F,rfl,rfl,?_,q1⟩,q2,q3⟩
       rw[hv]
       exact⟨[],[],World.ownsRow_nil _ _ _ _,by simp[al],rfl,rfl,rfl,fun i row vs f h=>by simp at h⟩
   · cases ha
 | .ref y p::cs,g,σ,vs,σ',ks,ds,dp,R,h,ha=>by
   obtain⟨v,vs',rfl,_,hc,hr⟩:=h
   have hc':aB (sur C g σ w) y p v:=hc
   simp only[fX] at ha
   cases hy:σ.obj y with
   |none=>rw[hy] at ha;cases ha
   |some q=>
    rw[hy] at ha
    cases q with
    |gone=>cases ha
    |box T cs'=>cases ha
    |arx e ks' xs=>cases ha
    |«sealed» e ks' xs=>
     simp only at ha
     split at ha
     · rename_i σ1 ks1 ds1 dp1 he
       simp only[Option.some.injEq,Prod.mk.injEq] at ha
       obtain⟨rfl,rfl,rfl,rfl⟩:=ha
       obtain⟨g',F,A⟩:=jb cs R hr he
       refine⟨g',F,{ A with zx:=⟨v,vs',rfl,?_,A.zx⟩,deep:=fun hd=>by cases hd }⟩
       unfold aB at hc'
       simp only[sur,hy] at hc'
       exact bV.keeps A.shift.keeps hc'.2
     · cases ha
    |arr e ks' dp' xs=>
     simp only at ha
     split at ha
     · rename_i σ1 ks1 ds1 dp1 he
       simp only[Option.some.injEq,Prod.mk.injEq] at ha
       obtain⟨rfl,rfl,rfl,rfl⟩:=ha
       have hs:=R.xP hy
       have R1:=R.DY hy
       obtain⟨g',F,A⟩:=jb cs R1 (hr.shift hs) he
       have hhd:(g.upd y (g.hd y) []).hd=g.hd:=funext fun z=>by
        by_cases h:z=y
        · subst h;simp[Gh.upd,bh]
        · simp[Gh.upd,aW _ _ h]
       have hfp:∀z b,b∈(g.upd y (g.hd y) []).fp z->z≠y∧b∈g.fp z:=fun z b hb=>by
        by_cases h:z=y
        · subst h;simp[Gh.upd,bh] at hb
        · simp only[Gh.upd,aW _ _ h] at hb;exact⟨h,hb⟩
       have hnew:aB (sur C (g.upd y (g.hd y) []) (σ.aU y (.sealed e ks' xs)) w) y p v:=hs.ref _ _ _ hc'
       have hrep:bV w (Me C.M (σ.aU y (.sealed e ks' xs)).obj (g.upd y (g.hd y) []).hd (g.upd y (g.hd y) []).fp) (.sl e ks') v (.sl (cut xs p)):=by
        unfold aB at hnew
        simp only[sur,St.ap,if_true] at hnew
        exact hnew.2
       refine⟨g',g.fp y++F,⟨A.rel,A.tmps,hs.trans A.shift,⟨v,vs',rfl,hrep.keeps A.shift.keeps,A.zx⟩,fun x b hb=>(hfp x b (A.less x b hb)).2,A.hd.trans hhd,fun x h1 h2=> ?_,fun x hl=> ?_,fun x hx=> ?_,fun hd=> ?_⟩⟩
       · have hxy:x≠y:=fun e'=>by
          subst e'
          cases dp' with
          |true=>exact h1 _ _ _ hy
          |false=>exact h2 _ _ _ hy
         have:(σ.aU y (.sealed e ks' xs)).obj x=σ.obj x:=by rw[St.ap,if_neg hxy]
         rw[A.same x (by rw[this];exact h1) (by rw[this];exact h2),this]
       · obtain⟨q1,q2⟩:=A.live x hl
         by_cases hxy:x=y
         · subst hxy
           rw[q1,St.ap,if_pos rfl] at hl
           simp[Ob.live] at hl
         · rw[q1,q2,St.ap,if_neg hxy]
           exact⟨rfl,by simp[Gh.upd,aW _ _ hxy]⟩
       · have hxy:x≠y:=fun e'=>by subst e';rw[hy] at hx;cases hx
         exact A.none x (by rw[St.ap,if_neg hxy];exact hx)
       · simp only[and_eq_true] at hd
         obtain⟨q1,q2,q3⟩:=A.deep hd.1
         have hp:p=none:=by simpa using hd.2.2
         subst hp
         have hv:v=g.hd y:=by
          have:=hc'
          unfold aB at this
          simp only[sur,hy] at this
          exact this.2
         refine⟨⟨v,vs',g.fp y,F,rfl,rfl,?_,q1⟩,?_,fun b hb=> ?_⟩
         · have ho:=R.objs y
           unfold bv at ho
           simp only[sur,hy] at ho
           obtain⟨vss,fps,o1,o2,o3,o4,o5,o6⟩:=ho
           rw[hv]
           exact⟨vss,fps,o1,o2,o3,o4,o5,fun i row vs f e1 e2 e3=>by have:=o6 i row vs f e1 e2 e3;rw[if_pos hd.2.1] at this;exact this⟩
         · refine nodup_append.2 ⟨R.own y,q2,fun b hb c hc' hbc=> ?_⟩
           subst hbc
           obtain⟨x,hx⟩:=(q3 b hc').2
           obtain⟨hxy,hx'⟩:=hfp x b hx
           exact R.apart x y hxy b hx' hb
         · rcases mem_append.1 hb with hb|hb
           · refine⟨fun x hx=> ?_,y,hb⟩
             obtain⟨hxy,hx'⟩:=hfp x b (A.less x b hx)
             exact R.apart x y hxy b hx' hb
           · obtain⟨z1,x,z2⟩:=q3 b hb
             exact⟨z1,x,(hfp x b z2).2⟩
     · cases ha
 | .dead::cs,g,σ,vs,σ',ks,ds,dp,R,h,ha=>by simp[fX] at ha
end
end Go.Vx
namespace Go.Vx
open Go.RowKit (Below)
theorem aE.append{s:Sur}:∀{cs cs':List AC}{vs vs':List Value},aE s cs vs->aE s cs' vs'->aE s (cs++cs') (vs++vs')
 |[],_,_,_,h,h'=>by simp[aE] at h;simpa[h] using h'
 |_::_,_,_,_,h,h'=>by
  obtain⟨v,vs1,rfl,o,c,r⟩:=h
  exact⟨v,vs1++_,rfl,o,c,aE.append r h'⟩
theorem aE.rj{s:Sur}:∀{cs:List AC}{vs:List Value},aE s cs vs->∀v∈vs,v.oneCell'=true
 |[],_,h,v,hv=>by simp[aE] at h;simp[h] at hv
 |_::_,_,h,v,hv=>by
  obtain⟨u,vs1,rfl,o,c,r⟩:=h
  rcases mem_cons.1 hv with rfl|hv
  · exact o
  · exact aE.rj r v hv
theorem aP.append{w:World}{M:Nat->Nat->Prop}:∀{ks ks':List K}{vs vs':List Value}{ds ds':List D},ds.length=ks.length->aP w M ks vs ds->aP w M ks' vs' ds'->
 aP w M (ks++ks') (vs++vs') (ds++ds')
 |[],_,_,_,[],_,_,h,h'=>by simp[aP] at h;simpa[h] using h'
 |_::_,_,_,_,[],_,hl,_,_=>by simp at hl
 |[],_,_,_,_::_,_,hl,_,_=>by simp at hl
 |_::_,_,_,_,d::ds,_,hl,h,h'=>by
  obtain⟨v,vs1,rfl,c,r⟩:=h
  exact⟨v,vs1++_,rfl,c,aP.append (by simpa using hl) r h'⟩
theorem bj.append{w:World}:∀{ks ks':List K}{vs vs':List Value}{ds ds':List D}{F F':List Nat},ds.length=ks.length->bj w ks vs ds F->bj w ks' vs' ds' F'->
 bj w (ks++ks') (vs++vs') (ds++ds') (F++F')
 |[],_,_,_,[],_,_,_,_,h,h'=>by obtain⟨rfl,rfl⟩:=h;simpa using h'
 |_::_,_,_,_,[],_,_,_,hl,_,_=>by simp at hl
 |[],_,_,_,_::_,_,_,_,hl,_,_=>by simp at hl
 |_::_,_,_,_,d::ds,_,_,_,hl,h,h'=>by
  obtain⟨v,vs1,f,f',rfl,rfl,c,r⟩:=h
  exact⟨v,vs1++_,f,f'++_,rfl,by simp,c,bj.append (by simpa using hl) r h'⟩
theorem bj.split{w:World}:∀(n:Nat){ks:List K}{vs:List Value}{ds:List D}{F:List Nat},bj w ks vs ds F->
 ∃F1 F2,F=F1++F2∧bj w (ks.take n) (vs.take n) (ds.take n) F1∧bj w (ks.drop n) (vs.drop n) (ds.drop n) F2
 |0,ks,vs,ds,F,h=>⟨[],F,rfl,by simp[bj],by simpa using h⟩
 |n+1,[],vs,ds,F,h=>by
  obtain⟨rfl,rfl⟩:=h
  exact⟨[],[],rfl,by simp[bj],by simp[bj]⟩
 |n+1,k::ks,vs,ds,F,h=>by
  obtain⟨v,vs1,f,f',rfl,rfl,c,r⟩:=h
  obtain⟨F1,F2,rfl,h1,h2⟩:=bj.split n r
  refine⟨f++F1,F2,by simp,⟨v,vs1.take n,f,F1,by simp,rfl,?_,?_⟩,by simpa using h2⟩
  · cases ds<;>simpa using c
  · cases ds<;>simpa using h1
theorem aP.Iq{w:World}{M:Nat->Nat->Prop}:∀(n:Nat){ks:List K}{vs:List Value}{ds:List D},aP w M ks vs ds->aP w M (ks.take n) (vs.take n) (ds.take n)
 |0,_,_,_,_=>by simp[aP]
 |n+1,[],_,_,h=>by simp[aP] at h;simp[h,aP]
 |n+1,_::ks,_,ds,h=>by
  obtain⟨v,vs',rfl,c,h'⟩:=h
  refine⟨v,vs'.take n,by simp,?_,?_⟩
  · cases ds<;>simpa using c
  · have:=aP.Iq n h'
    cases ds<;>simpa using this
section
variable {C:Cx} {g:Gh} {σ:St} {a:Act} {w:World} {o:Oper}
def sameShape:Option Ob->Option Ob->Prop
 |some (.box ..),some (.box ..)=>True
 |some (.arr _ ks _ xs),some (.arr _ ks' _ xs')=>ks=ks'∧xs.length=xs'.length
 |_,_=>False
theorem Rel.jV(R:Rel C g σ a w){x:Nat}{ob:Ob}(hs:sameShape (σ.obj x) (some ob)){b:Nat}(hb:bq (g.hd x)=some b)(cells:Array Value)(F:List Nat):
 Shift (sur C g σ w) (sur C (g.upd x (g.hd x) F) (σ.aU x ob) (w.setRow b cells)):=by
 have hhd:(g.upd x (g.hd x) F).hd=g.hd:=funext fun z=>by
  by_cases h:z=x
  · subst h;simp[Gh.upd,bh]
  · simp[Gh.upd,aW _ _ h]
 have hlx:Ob.live (σ.obj x)=true:=by
  cases h:σ.obj x with
  |none=>rw[h] at hs;exact hs.elim
  |some q=>rw[h] at hs;cases q<;>first|rfl|exact hs.elim
 have hlo:Ob.live (some ob)=true:=by
  cases h:σ.obj x with
  |none=>rw[h] at hs;exact hs.elim
  |some q=>rw[h] at hs;cases q<;>cases ob<;>first|rfl|exact hs.elim
 have hlive:∀z,Ob.live ((σ.aU x ob).obj z)=Ob.live (σ.obj z):=fun z=>by
  rw[St.ap]
  split
  · rename_i h;subst h;rw[hlx,hlo]
  · rfl
 have hnx:Ob.isX (some ob)=false:=by
  cases ob<;>first|rfl|simp[Ob.live] at hlo
 have hk:Keeps w (Me C.M σ.obj g.hd g.fp) (w.setRow b cells) (Me C.M (σ.aU x ob).obj (g.upd x (g.hd x) F).hd (g.upd x (g.hd x) F).fp):=by
  intro c p v hc hn
  have hcb:c≠b:=fun e=>hn (.inr (.inl ⟨x,hlx,by rw[hb,e]⟩))
  refine⟨by rw[cell_setRow_other w b cells ⟨c,p,none⟩ hcb];exact hc,?_⟩
  rintro(hM|⟨z,hl,hz⟩|⟨z,hl,hz⟩)
  · exact hn (.inl hM)
  · rw[hlive] at hl;rw[hhd] at hz;exact hn (.inr (.inl ⟨z,hl,hz⟩))
  · rw[St.ap] at hl
    split at hl
    · rw[hnx] at hl;cases hl
    · rename_i h;simp only[Gh.upd,aW _ _ h] at hz;exact hn (.inr (.inr ⟨z,hl,hz⟩))
 have hk':=hk
 rw[hhd] at hk'
 refine⟨hk,fun z p v hr=> ?_,fun z i j v hp=> ?_,qM hnx (fun z _=>by rw[hhd]) fun z c p u hz hl hc hb'=> ?_,p8 hnx fun z _=>by rw[hhd]⟩
 · unfold aB at hr⊢
   simp only[sur,St.ap,hhd] at hr⊢
   by_cases hz:z=x
   · subst hz
     simp only[if_true]
     cases h:σ.obj z with
     |none=>rw[h] at hs;exact hs.elim
     |some q=>
      rw[h] at hs hr
      cases q with
      |box _ _=>cases ob<;>first|exact hr|exact hs.elim
      |arr e ks dp xs=>
       cases ob with
       |arr e' ks' dp' xs'=>
        obtain⟨rfl,hl⟩:=hs
        simp only at hr⊢
        refine⟨?_,hr.2⟩
        cases p with
        |none=>trivial
        |some q=>have:=hr.1;simp only[Ai] at this⊢;omega
       |_=>exact hs.elim
      |_=>exact hs.elim
   · simp only[if_neg hz]
     cases hzo:σ.obj z with
     |none=>rw[hzo] at hr;exact hr
     |some q=>
      rw[hzo] at hr
      cases q with
      |«sealed» e' ks' xs'=>exact⟨hr.1,hr.2.keeps hk'⟩
      |_=>exact hr
 · unfold aV at hp⊢
   simp only[sur,St.ap,hhd] at hp⊢
   by_cases hz:z=x
   · subst hz
     simp only[if_true]
     cases h:σ.obj z with
     |none=>rw[h] at hs;exact hs.elim
     |some q=>
      rw[h] at hs hp
      cases q with
      |box _ _=>cases ob<;>first|exact hp|exact hs.elim
      |arr e ks dp xs=>
       cases ob with
       |arr e' ks' dp' xs'=>obtain⟨rfl,hl⟩:=hs;exact hp
       |_=>exact hs.elim
      |_=>exact hs.elim
   · simp only[if_neg hz];exact hp
 · have hcb:c≠b:=fun e=>R.apart z x hz c (R.Gj hl hb') (e▸R.er hlx hb)
   rw[cell_setRow_other w b cells ⟨c,p,none⟩ hcb];exact hc
theorem Rel.rewrite(R:Rel C g σ a w){x:Nat}{ob:Ob}(hs:sameShape (σ.obj x) (some ob)){b:Nat}(hb:bq (g.hd x)=some b)(cells:Array Value){F:List Nat}
 (hF:F.Nodup) (hFx:∀c,c∈F->(c∈g.fp x∨∀z,c ∉ g.fp z)) (hFa:∀c,c∈F->(C.w0.heap.size<=c∨c∈C.X)∧c<w.heap.size)
 (ho:bv (sur C (g.upd x (g.hd x) F) (σ.aU x ob) (w.setRow b cells)) (g.upd x (g.hd x) F).fp x):Rel C (g.upd x (g.hd x) F) (σ.aU x ob) a (w.setRow b cells):=by
 have hsh:=R.jV hs hb cells F
 have hlx:Ob.live (σ.obj x)=true:=by
  cases h:σ.obj x with
  |none=>rw[h] at hs;exact hs.elim
  |some q=>rw[h] at hs;cases q<;>first|rfl|exact hs.elim
 have hbx:=R.er hlx hb
 have hout:∀z,z≠x->∀c,c∈g.fp z->c≠b:=fun z hz c hc e=>R.apart z x hz c hc (e▸hbx)
 refine R.move rfl hsh (fun z=> ?_) (fun z=> ?_) (fun z z' hne c hc hc'=> ?_) (fun z c hc=> ?_) ?_
 · by_cases hz:z=x
   · subst hz;exact ho
   · refine(R.objs z).shift hsh ?_ ?_ ?_ fun c hc=>setRow_other w b c cells (hout z hz c hc)
     · simp[sur,St.ap,hz]
     · simp[sur,Gh.upd,aW _ _ hz]
     · simp[Gh.upd,aW _ _ hz]
 · by_cases hz:z=x
   · subst hz;simpa[Gh.upd,bh] using hF
   · simpa[Gh.upd,aW _ _ hz] using R.own z
 · by_cases hz:z=x
   · subst hz
     have hz':z'≠z:=fun e=>hne e.symm
     simp only[Gh.upd,bh] at hc
     simp only[Gh.upd,aW _ _ hz'] at hc'
     rcases hFx c hc with h|h
     · exact R.apart z z' hne c h hc'
     · exact h z' hc'
   · by_cases hz':z'=x
     · subst hz'
       simp only[Gh.upd,bh] at hc'
       simp only[Gh.upd,aW _ _ hz] at hc
       rcases hFx c hc' with h|h
       · exact R.apart z z' hne c hc h
       · exact h z hc
     · simp only[Gh.upd,aW _ _ hz,aW _ _ hz'] at hc hc'
       exact R.apart z z' hne c hc hc'
 · rw[setRow_size]
   by_cases hz:z=x
   · subst hz
     simp only[Gh.upd,bh] at hc
     exact hFa c hc
   · simp only[Gh.upd,aW _ _ hz] at hc
     exact R.alw z c hc
 · refine⟨R.fr.os,R.fr.tape,R.fr.output,by rw[setRow_size];exact R.fr.size,fun k hk hx=> ?_⟩
   rw[setRow_other w b k cells]
   · exact R.fr.block k hk hx
   · rintro rfl
     rcases(R.alw x k hbx).1 with h|h
     · omega
     · exact hx h
theorem ml{t:TypeId}(ht:(C.T t).ok=true){b p:Nat}{cur:Array Value}{E:TypeId}(hh:w.heap[b]? =some (.cells cur E (0,0))){v:Value}{vs:List Value}(hv:v.cells=vs.toArray)
 (hl:vs.length=(C.T t).ks.length) (hfit:p+vs.length<=cur.size) (h1:∀u∈vs,u.oneCell'=true):
 (Instr.storeAt t (.pointer (some ⟨b,p,none⟩)) v).run C.P w= .ok () (w.setRow b (cur.toList.take p++vs++cur.toList.drop (p+vs.length)).toArray):=by
 have hst:=run_storeCells_at (P:=C.P) b p E vs 0 cur w hh (by simpa using hfit) h1
 simp only[add_zero] at hst
 obtain⟨i,_,_,q1,_,q3,_⟩:=(C.tok t ht).ex
 have hsz:vs.length=i.size:=by rw[q3];exact hl
 simp[Instr.storeAt,Instr.sureAddr,storeVar,hv,sizeOf,typeInfo,q1,hsz,hst]
theorem wM(R:Rel C g σ a w){t:TypeId}{x y:Operand}(ho:o.op= .store t x y)(ht:(C.T t).ok=true){k i j:Nat}(hx:ev C.T 0 σ x= .ptr k i j){T:TypeId}{cs:List AC}
 (hk:σ.obj k=some (.box T cs)) {cs':List AC} (hy:(ev C.T t σ y).cells?=some cs') (hl:cs'.length=(C.T t).ks.length) (hn:j+cs'.length<=cs.length):
 Did C a w o .dead (σ.aU k (.box T (cs.take j++cs'++cs.drop (j+cs'.length)))):=by
 have hp:=bG R 0 x
 rw[hx] at hp
 have hp':aV (sur C g σ w) k i j (a.eval x):=hp
 unfold aV at hp'
 simp only[sur,hk] at hp'
 obtain⟨b,hb,e⟩:=hp'
 obtain⟨vs',hv',hr'⟩:=lP (bG R t y) hy
 have hob:=R.objs k
 unfold bv at hob
 simp only[sur,hk] at hob
 obtain⟨b',vs,hb',hfp,hh,hcs⟩:=hob
 rw[hb] at hb'
 simp only[Value.pointer.injEq,Option.some.injEq,Addr.mk.injEq,and_true] at hb'
 subst hb'
 have hlv:=hcs.length
 have hlv':=hr'.length
 have hrun:=ml (C:=C) ht hh hv' (by rw[hlv',hl]) (p:=j) (by simp;omega) hr'.rj
 have hsh:sameShape (σ.obj k) (some (.box T (cs.take j++cs'++cs.drop (j+cs'.length)))):=by rw[hk];trivial
 have hshift:=R.jV hsh (b:=b) (by rw[hb];rfl) (vs.take j++vs'++vs.drop (j+vs'.length)).toArray [b]
 refine⟨.skip,_,g.upd k (g.hd k) [b],?_,.inr ⟨rfl,rfl⟩,R.rewrite hsh (by rw[hb];rfl) (vs.take j++vs'++vs.drop (j+vs'.length)).toArray (by simp) (fun c hc=>.inl (by rw[hfp];exact hc))
  (fun c hc=>R.alw k c (by rw[hfp];exact hc)) ?_⟩
 · simp only[execOp,ho,e,Sem.run_bind,hrun,Result.andThen_ok,Sem.run_pure]
 · unfold bv
   simp only[sur,St.ap,if_true,Gh.upd,bh]
   refine⟨b,vs.take j++vs'++vs.drop (j+vs'.length),hb,rfl,setRow_heap w b _ _ T (0,0) hh,?_⟩
   have:=(((hcs.take j).append hr').append (hcs.drop (j+cs'.length))).shift hshift
   rw[hlv']
   rw[hlv'] at this
   exact this
theorem Rel.pJ(R:Rel C g σ a w){x:Nat}{e:TypeId}{ks:List K}{dp:Bool}{xs:List (List D)}(hx:σ.obj x=some (.arr e ks dp xs)):
 ∃(vss:List (List Value)) (fps:List (List Nat)),w.ownsRow 0 e ks.length (g.hd x) xs.length vss.flatten∧xs.length<=al∧vss.length=xs.length∧fps.length=xs.length∧
  g.fp x=(g.hd x).ownBlock.toList++fps.flatten∧(∀vs∈vss,vs.length=ks.length)∧
  ∀(i:Nat)(row:List D)(vs:List Value)(f:List Nat),xs[i]? =some row->vss[i]? =some vs->fps[i]? =some f->
   aP w (Me C.M σ.obj g.hd g.fp) ks vs row∧(dp=true->bj w ks vs row f)∧(dp=false->f=[]):=by
 have h:=R.objs x
 unfold bv at h
 simp only[sur,hx] at h
 obtain⟨vss,fps,h1,h2,h3,h4,h5,h6⟩:=h
 refine⟨vss,fps,h1,h2,h3,h4,h5,fun vs hv=> ?_,fun i row vs f q1 q2 q3=> ?_⟩
 · obtain⟨j,hj⟩:=getElem?_of_mem hv
   have hjl:=(List.getElem?_eq_some_iff.1 hj).1
   have:=h6 j xs[j] vs fps[j] (getElem?_eq_getElem (by omega)) hj (getElem?_eq_getElem (by omega))
   split at this
   · exact this.length
   · exact this.1.length
 · have:=h6 i row vs f q1 q2 q3
   cases dp with
   |false=>exact⟨this.1,(fun h=>by cases h),fun _=>this.2⟩
   |true=>
    refine⟨bj.toC this fun c hc p=> ?_,fun _=>this,fun h=>by cases h⟩
    have hcf:c∈fps.flatten:=mem_flatten.2 ⟨f,mem_of_getElem? q3,hc⟩
    have hcx:c∈g.fp x:=by rw[h5];exact mem_append.2 (.inr hcf)
    rintro(hM|⟨y,hl,hb⟩|⟨y,hl,hb⟩)
    · have:=C.oL c p hM
      rcases(R.alw x c hcx).1 with h|h
      · omega
      · exact this.2 h
    · by_cases hyx:y=x
      · subst hyx
        have hnd:=R.own y
        rw[h5] at hnd
        have hob:c∈(g.hd y).ownBlock.toList:=by
         cases hh:g.hd y<;>rw[hh] at hb<;>simp_all [bq,Value.ownBlock]
         · rcases be h1 with ⟨e1,_⟩|⟨b',cap',e1,_⟩<;>cases e1
         · rename_i q _ _
           cases q<;>simp_all [bq]
        exact(nodup_append.1 hnd).2.2 c hob c hcf rfl
      · exact R.apart y x hyx c (R.er hl hb) hcx
    · refine R.apart y x (fun e=> ?_) c hb hcx
      subst e
      simp only[hx] at hl
      cases hl
theorem sv{α:Type}:∀(l:List (List α))(i:Nat)(fi f':List α),l.flatten.Nodup->l[i]? =some fi->(∀c,c∈f'->c∈fi∨c ∉ l.flatten)->f'.Nodup->(l.set i f').flatten.Nodup
 |[],i,fi,f',_,h,_,_=>by simp at h
 |f0::l,0,fi,f',hn,h,hc,hf=>by
  simp at h
  subst h
  simp only[List.set_cons_zero,flatten_cons] at*
  obtain⟨n1,n2,n3⟩:=nodup_append.1 hn
  refine nodup_append.2 ⟨hf,n2,fun c hc1 d hd hcd=> ?_⟩
  subst hcd
  rcases hc c hc1 with h|h
  · exact n3 c h c hd rfl
  · exact h (mem_append.2 (.inr hd))
 |f0::l,i+1,fi,f',hn,h,hc,hf=>by
  simp only[List.set_cons_succ,flatten_cons] at*
  obtain⟨n1,n2,n3⟩:=nodup_append.1 hn
  have hfi:fi∈l:=mem_of_getElem? (by simpa using h)
  refine nodup_append.2 ⟨n1,sv l i fi f' n2 (by simpa using h) (fun c hc1=>(hc c hc1).imp id fun q hq=>q (mem_append.2 (.inr hq))) hf,fun c hc1 d hd hcd=> ?_⟩
  subst hcd
  obtain⟨q,hq,hcq⟩:=mem_flatten.1 hd
  rcases List.mem_or_eq_of_mem_set hq with hq|rfl
  · exact n3 c hc1 c (mem_flatten.2 ⟨q,hq,hcq⟩) rfl
  · rcases hc c hcq with h|h
    · exact n3 c hc1 c (mem_flatten.2 ⟨fi,hfi,h⟩) rfl
    · exact h (mem_append.2 (.inl hc1))
theorem fB{α:Type}{l:List (List α)}{i:Nat}{f':List α}{c:α}(h:c∈(l.set i f').flatten):c∈l.flatten∨c∈f':=by
 obtain⟨q,hq,hcq⟩:=mem_flatten.1 h
 rcases List.mem_or_eq_of_mem_set hq with hq|rfl
 · exact .inl (mem_flatten.2 ⟨q,hq,hcq⟩)
 · exact .inr hcq
theorem nG{α:Type}(n:Nat):∀(l:List (List α))(i:Nat)(r m:List α)(j:Nat),(∀x∈l,x.length=n)->l[i]? =some r->j+m.length<=n->
 (l.set i (r.take j++m++r.drop (j+m.length))).flatten=l.flatten.take (i*n+j)++m++l.flatten.drop (i*n+j+m.length)
 |[],i,r,m,j,_,h,_=>by simp at h
 |r0::l,0,r,m,j,hl,h,hj=>by
  simp at h
  subst h
  have h0:=hl r0 (by simp)
  simp only[List.set_cons_zero,flatten_cons,zero_mul,zero_add]
  rw[List.take_append_of_le_length (by omega),List.drop_append_of_le_length (by omega)]
  simp[append_assoc]
 |r0::l,i+1,r,m,j,hl,h,hj=>by
  have h0:=hl r0 (by simp)
  simp only[List.set_cons_succ,flatten_cons]
  rw[nG n l i r m j (fun x hx=>hl x (by simp[hx])) (by simpa using h) hj]
  have e1:(i+1)*n+j=r0.length+(i*n+j):=by rw[add_mul,h0];omega
  rw[e1,add_assoc,List.take_append,List.drop_append,take_of_length_le (l:=r0) (by omega),List.drop_eq_nil_of_le (as:=r0) (by omega)]
  simp[append_assoc,add_assoc]
theorem sW{α:Type}(fl tl m:List α)(p n:Nat)(h:p+m.length<=fl.length)(hn:fl.length=n):
 ((fl++tl).take p++m++(fl++tl).drop (p+m.length)).take n=fl.take p++m++fl.drop (p+m.length):=by
 rw[List.take_append_of_le_length (l₁:=fl) (by omega),List.drop_append_of_le_length (l₁:=fl) (by omega),<-append_assoc]
 rw[List.take_append_of_le_length (by simp only[length_append,length_take,length_drop];omega)]
 rw[take_of_length_le (by simp only[length_append,length_take,length_drop];omega)]
theorem wK(R:Rel C g σ a w){t:TypeId}{x y:Operand}(ho:o.op= .store t x y)(ht:(C.T t).ok=true){k i j:Nat}(hx:ev C.T 0 σ x= .ptr k i j){e:TypeId}{ks:List K}{dp:Bool}
 {xs:List (List D)} (hk:σ.obj k=some (.arr e ks dp xs)) (hi:i<xs.length) (hrow:(xs.getD i []).length=ks.length) {cs':List AC} (hy:(ev C.T t σ y).cells?=some cs') {σ1:St} {ks':List K}
 {ds':List D} {dp':Bool} (hab:fX σ cs'=some (σ1,ks',ds',dp')) (hk1:σ1.obj k=some (.arr e ks dp xs)) (hl:cs'.length=(C.T t).ks.length) (hds:ds'.length=cs'.length)
 (hks:ks'=(ks.drop j).take cs'.length) (hn:j+cs'.length<=ks.length):
 Did C a w o .dead (σ1.aU k (.arr e ks (dp&&dp') (xs.set i ((xs.getD i []).take j++ds'++(xs.getD i []).drop (j+ds'.length))))):=by
 have hp:=bG R 0 x
 rw[hx] at hp
 have hp':aV (sur C g σ w) k i j (a.eval x):=hp
 unfold aV at hp'
 simp only[sur,hk] at hp'
 obtain⟨b,n,cap,hb,ee⟩:=hp'
 obtain⟨vs',hv',hr'⟩:=lP (bG R t y) hy
 obtain⟨g1,F,A⟩:=jb cs' R hr' hab
 have R1:=A.rel
 obtain⟨vss,fps,h1,h2,h3,h4,h5,hlen,h6⟩:=R1.pJ hk1
 have hhd1:g1.hd k= .slice (some ⟨b,0,none⟩) n cap:=by rw[A.hd,hb]
 have hrowi:xs[i]? =some (xs.getD i []):=by simp[getD,hi]
 have hvi:vss[i]? =some vss[i]:=getElem?_eq_getElem (by omega)
 have hfi:fps[i]? =some fps[i]:=getElem?_eq_getElem (by omega)
 obtain⟨c1,c2,c3⟩:=h6 i _ _ _ hrowi hvi hfi
 have hlv':vs'.length=cs'.length:=hr'.length
 have hlvi:vss[i].length=ks.length:=hlen _ (mem_of_getElem? hvi)
 rcases h1.2 with ⟨e0,_⟩|⟨gb,cap',cur,ev,_,hcur,hncap,hcapm,hcs,htake⟩
 · rw[hhd1] at e0;cases e0
 rw[hhd1] at ev
 simp only[Value.slice.injEq,Option.some.injEq,Addr.mk.injEq,and_true,true_and] at ev
 obtain⟨rfl,rfl,rfl⟩:=ev
 have hilt:i*ks.length+ks.length<=xs.length*ks.length:=by
  rw[<-succ_mul];exact mul_le_mul_right _ hi
 have hcaplt:xs.length*ks.length<=cap*ks.length:=mul_le_mul_right _ hncap
 have hfit:i*ks.length+j+vs'.length<=cur.size:=by rw[hcs];omega
 have hrun:=ml (C:=C) ht hcur hv' (by rw[hlv',hl]) (p:=i*ks.length+j) hfit hr'.rj
 have hsh:sameShape (σ1.obj k) (some (.arr e ks (dp&&dp') (xs.set i ((xs.getD i []).take j++ds'++(xs.getD i []).drop (j+ds'.length))))):=by
  rw[hk1];exact⟨rfl,by simp⟩
 have hblk:bq (g1.hd k)=some b:=by rw[hhd1];rfl
 have hsplit:dp=true->dp'=true->∃f',(∀c,c∈f'->c∈fps[i]∨c∈F)∧f'.Nodup∧bj w ks (vss[i].take j++vs'++vss[i].drop (j+vs'.length)) ((xs.getD i []).take j++ds'++(xs.getD i []).drop (j+ds'.length)) f':=by
  intro hd hd'
  obtain⟨q1,q2,q3⟩:=A.deep hd'
  obtain⟨F1,F2,hF,r1,r2⟩:=bj.split j (c2 hd)
  obtain⟨F3,F4,hF2,r3,r4⟩:=bj.split cs'.length r2
  have hfpn:fps[i].Nodup:=by
   have:=R1.own k
   rw[h5] at this
   have h7:=(nodup_append.1 this).2.1
   exact(List.pairwise_flatten.1 h7).1 _ (mem_of_getElem? hfi)
  refine⟨F1++F++F4,fun c hc=> ?_,?_,?_⟩
  · simp only[mem_append] at hc
    rw[hF,hF2]
    simp only[mem_append]
    rcases hc with (hc|hc)|hc
    · exact .inl (.inl hc)
    · exact .inr hc
    · exact .inl (.inr (.inr hc))
  · have hdis:∀c,c∈F->c ∉ fps[i]:=fun c hc hci=>(q3 c hc).1 k (by rw[h5];exact mem_append.2 (.inr (mem_flatten.2 ⟨_,mem_of_getElem? hfi,hci⟩)))
    rw[hF,hF2] at hfpn hdis
    obtain⟨m1,m2,m3⟩:=nodup_append.1 hfpn
    obtain⟨m4,m5,m6⟩:=nodup_append.1 m2
    refine nodup_append.2 ⟨nodup_append.2 ⟨m1,q2,fun c hc d hd hcd=> ?_⟩,m5,fun c hc d hd hcd=> ?_⟩
    · subst hcd;exact hdis c hd (mem_append.2 (.inl hc))
    · subst hcd
      rcases mem_append.1 hc with hc|hc
      · exact m3 c hc c (mem_append.2 (.inr hd)) rfl
      · exact hdis c hc (mem_append.2 (.inr (mem_append.2 (.inr hd))))
  · have hkse:ks=ks.take j++ks'++ks.drop (j+cs'.length):=by
     rw[hks,append_assoc,<-drop_drop,take_append_drop,take_append_drop]
    have hl1:((xs.getD i []).take j).length=(ks.take j).length:=by rw[length_take,length_take,hrow]
    have hl2:((xs.getD i []).take j++ds').length=(ks.take j++ks').length:=by
     simp only[length_append,length_take,length_drop,hrow,hds,hks];omega
    have r4':bj w (ks.drop (j+cs'.length)) (vss[i].drop (j+vs'.length)) ((xs.getD i []).drop (j+ds'.length)) F4:=by
     rw[hlv',hds,<-drop_drop,<-drop_drop,<-drop_drop];exact r4
    have:=bj.append hl2 (bj.append hl1 r1 q1) r4'
    rw[<-hkse] at this
    exact this
 have hwd:∀{M:Nat->Nat->Prop}{w2:World},aP w2 M ks vss[i] (xs.getD i [])->aP w2 M ks' vs' ds'->aP w2 M ks (vss[i].take j++vs'++vss[i].drop (j+vs'.length)) ((xs.getD i []).take j++ds'++(xs.getD i []).drop (j+ds'.length)):=by
  intro M w2 q1 q2
  have hkse:ks=ks.take j++ks'++ks.drop (j+cs'.length):=by
   rw[hks,append_assoc,<-drop_drop,take_append_drop,take_append_drop]
  have hl1:((xs.getD i []).take j).length=(ks.take j).length:=by rw[length_take,length_take,hrow]
  have hl2:((xs.getD i []).take j++ds').length=(ks.take j++ks').length:=by
   simp only[length_append,length_take,length_drop,hrow,hds,hks];omega
  have:=aP.append hl2 (aP.append hl1 (aP.Iq j q1) q2) (aP.drop (j+cs'.length) q1)
  rw[<-hkse] at this
  rw[hlv',hds]
  exact this
 let cells:=(cur.toList.take (i*ks.length+j)++vs'++cur.toList.drop (i*ks.length+j+vs'.length)).toArray
 have hnewown:(w.setRow b cells).ownsRow 0 e ks.length (.slice (some ⟨b,0,none⟩) xs.length cap) xs.length (vss.set i (vss[i].take j++vs'++vss[i].drop (j+vs'.length))).flatten:=by
  have hflat:vss.flatten.length=xs.length*ks.length:=by rw[bm hlen,h3]
  have hfs:=nG ks.length vss i vss[i] vs' j hlen hvi (by omega)
  refine⟨?_,.inr ⟨b,cap,cells,rfl,zero_le _,setRow_heap w b cur cells e (0,0) hcur,hncap,hcapm,?_,?_⟩⟩
  · rw[hfs]
    simp only[length_append,length_take,length_drop,hflat]
    omega
  · simp only[cells,size_toArray,length_append,length_take,length_drop,length_toList]
    omega
  · rw[hfs]
    simp only[cells]
    have hc0:cur.toList=vss.flatten++cur.toList.drop (xs.length*ks.length):=by
     conv=>lhs;rw[<-take_append_drop (xs.length*ks.length) cur.toList,htake]
    rw[hc0]
    exact sW _ _ _ _ _ (by rw[hflat];omega) hflat
 have hbn:∀c,c∈fps.flatten->c≠b:=fun c hc e'=>by
  subst e'
  have:=R1.own k
  rw[h5,hhd1] at this
  exact(nodup_append.1 this).2.2 c (by simp[Value.ownBlock]) c hc rfl
 cases hdd:(dp&&dp') with
 |false=>
  rw[hdd] at hsh
  have hshift:=R1.jV hsh hblk cells [b]
  have hsk:=hshift.keeps
  rw[hhd1] at hsk
  refine⟨.skip,_,g1.upd k (g1.hd k) [b],?_,.inr ⟨rfl,rfl⟩,R1.rewrite hsh hblk cells (by simp) (fun c hc=>.inl ?_) (fun c hc=>R1.alw k c ?_) ?_⟩
  · simp only[execOp,ho,ee,Sem.run_bind,hrun,Result.andThen_ok,Sem.run_pure];rfl
  · rw[h5,hhd1];simp only[mem_singleton] at hc;subst hc;simp[Value.ownBlock]
  · rw[h5,hhd1];simp only[mem_singleton] at hc;subst hc;simp[Value.ownBlock]
  · unfold bv
    simp only[sur,St.ap,if_true,Gh.upd,bh,hhd1]
    refine⟨_,replicate xs.length [],by rw[length_set];exact hnewown,by rw[length_set];exact h2,by simp[h3],by simp,by simp[Value.ownBlock],fun q row vs f e1 e2 e3=> ?_⟩
    simp only[false_eq_true,if_false]
    have hf:f=[]:=by
     have:=mem_of_getElem? e3
     exact(mem_replicate.1 this).2
    refine⟨?_,hf⟩
    by_cases hq:q=i
    · subst hq
      rw[getElem?_set_self (by omega)] at e1 e2
      simp only[Option.some.injEq] at e1 e2
      subst e1 e2
      exact(hwd c1 A.zx).keeps hsk
    · rw[List.getElem?_set_ne (fun h=>hq h.symm)] at e1 e2
      have hql:=(List.getElem?_eq_some_iff.1 e1).1
      exact(h6 q row vs fps[q] e1 e2 (getElem?_eq_getElem (by omega))).1.keeps hsk
 |true=>
  simp only[and_eq_true] at hdd
  obtain⟨f',hf1,hf2,hf3⟩:=hsplit hdd.1 hdd.2
  obtain⟨q1,q2,q3⟩:=A.deep hdd.2
  have hdd':(dp&&dp')=true:=by simp[hdd]
  rw[hdd'] at hsh
  have hFx:∀c,c∈b::(fps.set i f').flatten->c∈g1.fp k∨(c∈F):=fun c hc=>by
   rcases mem_cons.1 hc with rfl|hc
   · left;rw[h5,hhd1];simp[Value.ownBlock]
   · rcases fB hc with hc|hc
     · left;rw[h5];exact mem_append.2 (.inr hc)
     · rcases hf1 c hc with h|h
       · left;rw[h5];exact mem_append.2 (.inr (mem_flatten.2 ⟨_,mem_of_getElem? hfi,h⟩))
       · exact .inr h
  have hshift:=R1.jV hsh hblk cells (b::(fps.set i f').flatten)
  have hother:∀c,c∈fps.flatten∨c∈F->(w.setRow b cells).heap[c]? =w.heap[c]? :=fun c hc=>setRow_other w b c cells (by
   rcases hc with hc|hc
   · exact hbn c hc
   · rintro rfl
     exact(q3 c hc).1 k (by rw[h5,hhd1];simp[Value.ownBlock]))
  refine⟨.skip,_,g1.upd k (g1.hd k) (b::(fps.set i f').flatten),?_,.inr ⟨rfl,rfl⟩,R1.rewrite hsh hblk cells ?_ (fun c hc=>(hFx c hc).imp id fun h=>(q3 c h).1) (fun c hc=> ?_) ?_⟩
  · simp only[execOp,ho,ee,Sem.run_bind,hrun,Result.andThen_ok,Sem.run_pure];rfl
  · have hn0:=R1.own k
    rw[h5,hhd1] at hn0
    have hn1:fps.flatten.Nodup:=(nodup_append.1 hn0).2.1
    refine nodup_cons.2 ⟨fun hc=> ?_,sv fps i fps[i] f' hn1 hfi (fun c hc=>(hf1 c hc).imp id fun h hcf=>(q3 c h).1 k (by rw[h5];exact mem_append.2 (.inr hcf))) hf2⟩
    rcases fB hc with hc|hc
    · exact hbn b hc rfl
    · rcases hf1 b hc with h|h
      · exact hbn b (mem_flatten.2 ⟨_,mem_of_getElem? hfi,h⟩) rfl
      · exact(q3 b h).1 k (by rw[h5,hhd1];simp[Value.ownBlock])
  · rcases hFx c hc with h|h
    · exact R1.alw k c h
    · obtain⟨z,hz⟩:=(q3 c h).2
      exact R.alw z c hz
  · unfold bv
    simp only[sur,St.ap,if_true,Gh.upd,bh,hhd1]
    refine⟨_,fps.set i f',by rw[length_set];exact hnewown,by rw[length_set];exact h2,by simp[h3],by simp[h4],by simp[Value.ownBlock],fun q row vs f e1 e2 e3=> ?_⟩
    by_cases hq:q=i
    · subst hq
      rw[getElem?_set_self (by omega)] at e1 e2 e3
      simp only[Option.some.injEq] at e1 e2 e3
      subst e1 e2 e3
      refine hf3.keeps fun c hc=>hother c ?_
      rcases hf1 c hc with h|h
      · exact .inl (mem_flatten.2 ⟨_,mem_of_getElem? hfi,h⟩)
      · exact .inr h
    · rw[List.getElem?_set_ne (fun h=>hq h.symm)] at e1 e2 e3
      exact((h6 q row vs f e1 e2 e3).2.1 hdd.1).keeps fun c hc=>hother c (.inl (mem_flatten.2 ⟨f,mem_of_getElem? e3,hc⟩))
end
end Go.Vx
namespace Go.Vx
open Go.RowKit (Below)
section
variable {C:Cx} {g:Gh} {σ:St} {a:Act} {w:World} {o:Oper}
theorem mM{P:Program}{t e ty:TypeId}{i:TypeInfo}(ht:P.underlying t=some (.slice e))(hi:P.info? e=some i)(base:Option Addr)(n cap:Nat)(hn:n<=cap)(ad:Option Addr)(c:Nat)(w:World):
 (Builtin.append_ #[t,t] ty #[.slice base n cap,.slice ad 0 c]).run P w= .ok (.slice base n cap) w:=by
 cases ad with
 |none=>cases base<;>simp[Builtin.append_,run_underlying ht,sizeOf,typeInfo,hi,Builtin.lenOf,hn,Builtin.firstCells,storeCells]
 |some ad=>cases base<;>simp[Builtin.append_,run_underlying ht,sizeOf,typeInfo,hi,Builtin.lenOf,hn,Builtin.firstCells,loadCells,loadCellsFrom,storeCells]
theorem Bo{t e ty:TypeId}(ht:(C.T t).ok=true)(hs:(C.T t).sl=some e)(het:(C.T e).ok=true)(hpos:0<(C.T e).ks.length){v:Value}{n:Nat}{xs:List Value}
 (hown:w.ownsRow 0 e (C.T e).ks.length v n xs) {ad:Option Addr} {m c:Nat} {news:List Value} (hl:news.length=m*(C.T e).ks.length)
 (hnews:0<m->∃b p,ad=some ⟨b,p,none⟩∧Row w b p news) (h1:∀u∈news,u.oneCell'=true) (h63:n+m<=al) (hbytes:(n+m)*(C.T e).bytes<=140737488355328):
 ∃v' w',(Builtin.append_ #[t,t] ty #[v,.slice ad m c]).run C.P w= .ok v' w'∧w'.ownsRow 0 e (C.T e).ks.length v' (n+m) (xs++news)∧
  ((v'.ownBlock=v.ownBlock∧w.grownBy w' v.ownBlock∧w'.heap.size=w.heap.size)∨(v'.ownBlock=some w.heap.size∧Below w.heap.size w w'∧w.heap.size<w'.heap.size)):=by
 obtain⟨i,d,z,hi,_,hsz,hby,hz,hzc,_⟩:=(C.tok e het).ex
 have hu:=i9 ht hs
 have hzs:z.cells.size=i.size:=by rw[hsz];have:=congrArg List.length hzc;simpa using this
 rw[<-hsz] at hown hl hpos⊢
 rw[<-hby] at hbytes
 have h63':n+m<=maxLen:=by simp only[al,maxLen] at*;omega
 by_cases hm:m=0
 · subst hm
   have hn0:news=[]:=List.eq_nil_of_length_eq_zero (by simpa using hl)
   subst hn0
   have hg:w.grownBy w v.ownBlock:=⟨rfl,rfl,rfl,le_refl _,fun _ _ _=>rfl⟩
   rcases be hown with ⟨rfl,rfl⟩|⟨b,cap,rfl,hncap,_⟩
   · exact⟨_,_,mM hu hi none 0 0 (le_refl _) ad c w,by simpa using hown,.inl ⟨rfl,hg,rfl⟩⟩
   · exact⟨_,_,mM hu hi _ n cap hncap ad c w,by simpa using hown,.inl ⟨rfl,hg,rfl⟩⟩
 · obtain⟨b,p,rfl,hrow⟩:=hnews (by omega)
   have hcells:∀j u,news[j]? =some u->w.cell? ((⟨b,p,none⟩:Addr).add j)=some u:=fun j u hj=>by
    rw[Addr.add_lit];exact hrow.get j u hj
   have hsmall:n+m<=9223372036854775807:=by simp only[al] at h63;omega
   have hlen:(xs++news).length=(n+m)*i.size:=by rw[length_append,hown.1,hl,add_mul]
   have grown:∀(old:Nat),(w.drew.alloc (.cells (xs.toArray++news.toArray++Builtin.zeroCells z.cells (grownCap w (n+m) old e - (n+m))) e)).ownsRow 0 e i.size
    (.slice (some ⟨w.heap.size,0,none⟩) (n+m) (grownCap w (n+m) old e)) (n+m) (xs++news):=by
    intro old
    refine⟨hlen,.inr ⟨w.heap.size,_,_,rfl,zero_le _,heap_alloc_new w.drew _,grownCap_ge w (n+m) old e,grownCap_le_maxLen w (n+m) old e h63',?_,?_⟩⟩
    · have hge:=grownCap_ge w (n+m) old e
      simp only[Array.size_append,size_toArray,size_zeroCells,hzs,hown.1,hl,<-add_mul]
      congr 1
      omega
    · simp only[Array.toList_append,append_assoc]
      rw[<-append_assoc,<-hlen]
      exact List.take_left
   have hbel:∀(ob:Obj),Below w.heap.size w (w.drew.alloc ob)∧w.heap.size<(w.drew.alloc ob).heap.size:=fun ob=>
    ⟨((Below.refl _ _).drew).alloc (le_refl _) _,by show w.heap.size<(w.heap.push ob).size;simp⟩
   rcases hown.2 with ⟨rfl,rfl⟩|⟨gb,cap,cur,rfl,_,hcur,hncap,hcapm,hcs,htake⟩
   · have hx:xs=[]:=List.eq_nil_of_length_eq_zero (by simpa using hown.1)
     subst hx
     have hr:=run_append_nil (P:=C.P) w t ty e i z hu hi hz ⟨b,p,none⟩ m c news hl hcells (by omega) (by omega) (by simp only[zero_add] at hbytes;omega)
     have hgr:=grown 0
     simp only[zero_add,List.nil_append,Array.empty_append] at hgr⊢
     exact⟨_,_,hr,hgr,.inr ⟨rfl,(hbel _).1,(hbel _).2⟩⟩
   · by_cases hroom:n+m<=cap
     · have hfit:n*i.size+news.length<=cur.size:=by rw[hl,hcs,<-add_mul];exact mul_le_mul_right _ hroom
       have hr:=run_append_room (P:=C.P) w t ty e i hu hi gb n cap cur hcur ⟨b,p,none⟩ m c news hl hcells h1 hroom hfit
       refine⟨_,_,hr,⟨hlen,.inr ⟨gb,cap,_,rfl,zero_le _,setRow_heap w gb cur _ e _ hcur,hroom,hcapm,?_,?_⟩⟩,
        .inl ⟨rfl,⟨rfl,rfl,rfl,by simp,fun k _ hk=>setRow_other w gb k _ (fun e=>hk (by simp[Value.ownBlock,e]))⟩,by simp⟩⟩
       · simp only[size_toArray,length_append,length_take,length_drop,length_toList]
         omega
       · rw[htake,<-hlen]
         exact List.take_left
     · have holds:∀j u,xs[j]? =some u->w.cell? ((⟨gb,0,none⟩:Addr).add j)=some u:=hown.cells (g:=gb) rfl
       have hr:=run_append_grow (P:=C.P) w t ty e i z hu hi hz ⟨gb,0,none⟩ n cap xs hown.1 holds ⟨b,p,none⟩ m c news hl hcells (by omega) (by omega) (growslice_fits (by omega) hbytes)
       exact⟨_,_,hr,grown cap,.inr ⟨rfl,(hbel _).1,(hbel _).2⟩⟩
theorem Rel.replace(R:Rel C g σ a w){kd x:Nat}(hkd:Ob.live (σ.obj kd)=true)(hx:σ.obj x=none){ob:Ob}{h:Value}{F:List Nat}{w':World}
 (hos:w'.os=w.os) (htp:w'.tape=w.tape) (hop:w'.output=w.output) (hsz:w.heap.size<=w'.heap.size)
 (hw:∀c,c<w.heap.size->bq (g.hd kd)≠some c->w'.heap[c]? =w.heap[c]?) (hh:∀b,bq h=some b->bq (g.hd kd)=some b∨w.heap.size<=b) (hF:F.Nodup)
 (hFb:∀c,c∈F->((c∈g.fp kd∨((∀z,c ∉ g.fp z)∧(C.w0.heap.size<=c∨c∈C.X)))∧c<w.heap.size)∨(w.heap.size<=c∧c<w'.heap.size))
 (ho:bv (sur C ((g.upd kd (g.hd kd) []).upd x h F) ((σ.aU kd .gone).aU x ob) w') ((g.upd kd (g.hd kd) []).upd x h F).fp x) (hox:Ob.isX (some ob)=false:=by rfl):
 Rel C ((g.upd kd (g.hd kd) []).upd x h F) ((σ.aU kd .gone).aU x ob) a w'∧Shift (sur C g σ w) (sur C ((g.upd kd (g.hd kd) []).upd x h F) ((σ.aU kd .gone).aU x ob) w'):=by
 have hxk:x≠kd:=fun e=>by subst e;rw[hx] at hkd;simp[Ob.live] at hkd
 have hhd:∀z,z≠x->((g.upd kd (g.hd kd) []).upd x h F).hd z=g.hd z:=fun z hz=>by
  simp only[Gh.upd,aW _ _ hz]
  by_cases h:z=kd
  · subst h;simp[bh]
  · simp[aW _ _ h]
 have hfp:∀z,z≠x->z≠kd->((g.upd kd (g.hd kd) []).upd x h F).fp z=g.fp z:=fun z hz hz'=>by simp[Gh.upd,aW _ _ hz,aW _ _ hz']
 have hfpk:((g.upd kd (g.hd kd) []).upd x h F).fp kd=[]:=by simp[Gh.upd,aW _ _ hxk.symm,bh]
 have hfpx:((g.upd kd (g.hd kd) []).upd x h F).fp x=F:=by simp[Gh.upd,bh]
 have hobj:∀z,z≠x->z≠kd->((σ.aU kd .gone).aU x ob).obj z=σ.obj z:=fun z hz hz'=>by simp[St.ap,hz,hz']
 have hobjk:((σ.aU kd .gone).aU x ob).obj kd=some .gone:=by simp[St.ap,hxk.symm]
 have hk:Keeps w (Me C.M σ.obj g.hd g.fp) w' (Me C.M ((σ.aU kd .gone).aU x ob).obj ((g.upd kd (g.hd kd) []).upd x h F).hd ((g.upd kd (g.hd kd) []).upd x h F).fp):=by
  intro c p v hc hn
  have hlt:=fw hc
  have hck:bq (g.hd kd)≠some c:=fun e=>hn (.inr (.inl ⟨kd,hkd,e⟩))
  refine⟨by rw[World.cell?_of_block (w:=w) (hw c hlt hck)];exact hc,?_⟩
  rintro(hM|⟨z,hl,hz⟩|⟨z,hl,hz⟩)
  · exact hn (.inl hM)
  · by_cases hzx:z=x
    · subst hzx
      simp only[Gh.upd,bh] at hz
      rcases hh c hz with h'|h'
      · exact hck h'
      · omega
    · rw[hhd z hzx] at hz
      by_cases hzk:z=kd
      · subst hzk;rw[hobjk] at hl;simp[Ob.live] at hl
      · rw[hobj z hzx hzk] at hl
        exact hn (.inr (.inl ⟨z,hl,hz⟩))
  · by_cases hzx:z=x
    · subst hzx
      rw[St.ap,if_pos rfl,hox] at hl
      cases hl
    · by_cases hzk:z=kd
      · subst hzk;rw[hobjk] at hl;simp[Ob.isX] at hl
      · rw[hobj z hzx hzk] at hl
        rw[hfp z hzx hzk] at hz
        exact hn (.inr (.inr ⟨z,hl,hz⟩))
 have hs:Shift (sur C g σ w) (sur C ((g.upd kd (g.hd kd) []).upd x h F) ((σ.aU kd .gone).aU x ob) w'):=by
  refine⟨hk,fun z p v hr=> ?_,fun z i j v hp=> ?_,fun z i j v hl=> ?_,fun z o' hz=> ?_⟩
  rotate_left 2
  · by_cases hzx:z=x
    · subst hzx;simp[cB,sur,hx] at hl
    · by_cases hzk:z=kd
      · subst hzk;unfold cB;simp only[sur];rw[hobjk];trivial
      · by_cases hX:Ob.isX (σ.obj z)=true
        · refine hl.keep (hobj z hzx hzk) (hhd z hzx) fun b p u hu hb=> ?_
          show w'.cell? _=_
          have hne:bq (g.hd kd)≠some b:=fun e=>R.apart z kd hzk b (R.Gj hX hb) (R.er hkd e)
          rw[World.cell?_of_block (w:=w) (hw b (fw hu) hne)];exact hu
        · unfold cB at hl⊢
          simp only[sur] at hl⊢
          rw[hobj z hzx hzk]
          cases hq:σ.obj z with
          |none=>rw[hq] at hl;exact hl
          |some q=>
           rw[hq] at hX
           cases q with
           |arx=>simp[Ob.isX] at hX
           |_=>trivial
  · by_cases hzx:z=x
    · subst hzx;simp only[sur,hx] at hz;cases hz
    · by_cases hzk:z=kd
      · subst hzk
        exact⟨.gone,hobjk,fun _ _ _ e=>by cases e⟩
      · exact⟨o',by simp only[sur] at hz⊢;rw[hobj z hzx hzk];exact hz,fun e ks xs' e1=>⟨⟨xs',e1⟩,hhd z hzx⟩⟩
  · unfold aB at hr⊢
    simp only[sur] at hr⊢
    by_cases hzx:z=x
    · subst hzx;rw[hx] at hr;exact hr.elim
    · rw[hhd z hzx]
      by_cases hzk:z=kd
      · subst hzk;rw[hobjk];trivial
      · rw[hobj z hzx hzk]
        cases hzo:σ.obj z with
        |none=>rw[hzo] at hr;exact hr
        |some q=>
         rw[hzo] at hr
         cases q with
         |«sealed» e' ks' xs'=>exact⟨hr.1,hr.2.keeps hk⟩
         |_=>exact hr
  · unfold aV at hp⊢
    simp only[sur] at hp⊢
    by_cases hzx:z=x
    · subst hzx;rw[hx] at hp;exact hp.elim
    · rw[hhd z hzx]
      by_cases hzk:z=kd
      · subst hzk;rw[hobjk];trivial
      · rw[hobj z hzx hzk];exact hp
 have hbk:∀z,z≠kd->∀c,c∈g.fp z->bq (g.hd kd)≠some c:=fun z hz c hc e=>R.apart z kd hz c hc (R.er hkd e)
 refine⟨R.move rfl hs (fun z=> ?_) (fun z=> ?_) (fun z z' hne c hc hc'=> ?_) (fun z c hc=> ?_) ?_,hs⟩
 · by_cases hzx:z=x
   · subst hzx;exact ho
   · by_cases hzk:z=kd
     · subst hzk
       unfold bv
       simp only[sur,hobjk,hfpk]
     · refine(R.objs z).shift hs (hobj z hzx hzk) (hhd z hzx) (hfp z hzx hzk) fun c hc=>hw c (R.alw z c hc).2 (hbk z hzk c hc)
 · by_cases hzx:z=x
   · subst hzx;rw[hfpx];exact hF
   · by_cases hzk:z=kd
     · subst hzk;rw[hfpk];exact List.nodup_nil
     · rw[hfp z hzx hzk];exact R.own z
 · have key:∀z,z≠x->∀c,c∈((g.upd kd (g.hd kd) []).upd x h F).fp z->c∈F->False:=fun z hzx c hc hcF=>by
    by_cases hzk:z=kd
    · subst hzk;rw[hfpk] at hc;simp at hc
    · rw[hfp z hzx hzk] at hc
      rcases hFb c hcF with ⟨h1|⟨h1,_⟩,_⟩|⟨h1,_⟩
      · exact R.apart z kd hzk c hc h1
      · exact h1 z hc
      · have:=(R.alw z c hc).2;omega
   by_cases hzx:z=x
   · subst hzx
     rw[hfpx] at hc
     exact key z' (fun e=>hne e.symm) c hc' hc
   · by_cases hzx':z'=x
     · subst hzx'
       rw[hfpx] at hc'
       exact key z hzx c hc hc'
     · by_cases hzk:z=kd
       · subst hzk;rw[hfpk] at hc;simp at hc
       · by_cases hzk':z'=kd
         · subst hzk';rw[hfpk] at hc';simp at hc'
         · rw[hfp z hzx hzk] at hc
           rw[hfp z' hzx' hzk'] at hc'
           exact R.apart z z' hne c hc hc'
 · by_cases hzx:z=x
   · subst hzx
     rw[hfpx] at hc
     rcases hFb c hc with ⟨h1,h2⟩|⟨h1,h2⟩
     · refine⟨?_,by omega⟩
       rcases h1 with h1|⟨_,h1⟩
       · exact(R.alw kd c h1).1
       · exact h1
     · exact⟨.inl (le_trans R.fr.size h1),h2⟩
   · by_cases hzk:z=kd
     · subst hzk;rw[hfpk] at hc;simp at hc
     · rw[hfp z hzx hzk] at hc
       exact⟨(R.alw z c hc).1,lt_of_lt_of_le (R.alw z c hc).2 hsz⟩
 · refine⟨hos.trans R.fr.os,htp.trans R.fr.tape,hop.trans R.fr.output,le_trans R.fr.size hsz,fun k hk hkX=> ?_⟩
   rw[hw k (lt_of_lt_of_le hk R.fr.size)]
   · exact R.fr.block k hk hkX
   · intro e
     rcases(R.alw kd k (R.er hkd e)).1 with h'|h'
     · omega
     · exact hkX h'
end
end Go.Vx
namespace Go.Vx
open Go.RowKit (Below)
theorem lj{w:World}{b sz:Nat}:∀(vss:List (List Value))(p:Nat),(∀(i:Nat)(vs:List Value),vss[i]? =some vs->Row w b (p+i*sz) vs∧vs.length=sz)->Row w b p vss.flatten
 |[],_,_=>trivial
 |vs::vss,p,h=>by
  have h0:=h 0 vs rfl
  simp only[zero_mul,add_zero] at h0
  rw[flatten_cons]
  refine Row.append h0.1 ?_
  rw[h0.2]
  refine lj (sz:=sz) vss (p+sz) fun i us hi=> ?_
  have:=h (i+1) us (by simpa using hi)
  rwa[show p+(i+1)*sz=p+sz+i*sz by rw[add_mul];omega] at this
theorem tm{α:Type}{P:Nat->α->Prop}:∀n:Nat,(∀i,i<n->∃x,P i x)->∃l:List α,l.length=n∧∀(i:Nat)(x:α),l[i]? =some x->P i x
 |0,_=>⟨[],rfl,fun i x h=>by simp at h⟩
 |n+1,h=>by
  obtain⟨l,hl,hp⟩:=tm n fun i hi=>h i (by omega)
  obtain⟨x,hx⟩:=h n (by omega)
  refine⟨l++[x],by simp[hl],fun i y hy=> ?_⟩
  rw[List.getElem?_append] at hy
  split at hy
  · exact hp i y hy
  · have:i=n:=by
     have:=(List.getElem?_eq_some_iff.1 hy).1
     simp at this
     omega
    subst this
    simp[hl] at hy
    rw[<-hy];exact hx
def eO(ks:List K):Bool:=ks.all K.plain
theorem aP.plain{w:World}{M:Nat->Nat->Prop}:∀{ks:List K}{vs:List Value}{ds:List D},aP w M ks vs ds->eO ks=true->bj w ks vs ds []
 |[],_,_,h,_=>⟨h,rfl⟩
 |k::ks,_,ds,h,hp=>by
  obtain⟨v,vs',rfl,c,h'⟩:=h
  simp only[eO,List.all_cons,and_eq_true] at hp
  refine⟨v,vs',[],[],rfl,rfl,?_,aP.plain h' hp.2⟩
  cases k with
  |int _=>exact⟨c.1,c.2,rfl⟩
  |bool=>exact⟨c,rfl⟩
  |str=>exact⟨c.1,c.2,rfl⟩
  |sl _ _=>simp[K.plain] at hp
structure Src (w:World) (me:Nat->Nat->Prop) (ks:List K) (v:Value) (ys:List (List D)) (vssn:List (List Value)):Prop where
 len:vssn.length=ys.length
 lens:∀vs∈vssn,vs.length=ks.length
 val:∃ad cap,v= .slice ad ys.length cap∧(0<ys.length->∃b p,ad=some ⟨b,p,none⟩∧Row w b p vssn.flatten)
 rows:∀(i:Nat)(row:List D)(vs:List Value),ys[i]? =some row->vssn[i]? =some vs->aP w me ks vs row
theorem Src.NV{w:World}{me:Nat->Nat->Prop}{e:TypeId}{ks:List K}{v:Value}{d:D}(h:bV w me (.sl e ks) v d):∃vssn,Src w me ks v d.ae vssn:=by
 obtain⟨ad,cap,rfl,hcap,hmax,hor⟩:=h
 rcases hor with h0|⟨b,off,rfl,hrows⟩
 · exact⟨[],by simp[h0],by simp,⟨ad,cap,rfl,fun h=>by simp[h0] at h⟩,fun i row vs h=>by simp[h0] at h⟩
 · obtain⟨vss,hl,hp⟩:=tm (P:=fun i vs=>Row w b (off+i*ks.length) vs∧∀row,d.ae[i]? =some row->aP w me ks vs row) d.ae.length (fun i hi=>by
    obtain⟨vs,h1,_,h3⟩:=hrows i d.ae[i] (getElem?_eq_getElem hi)
    exact⟨vs,h1,fun row hr=>by rw[getElem?_eq_getElem hi] at hr;simp at hr;rw[<-hr];exact h3⟩)
   have hlens:∀vs∈vss,vs.length=ks.length:=fun vs hv=>by
    obtain⟨i,hi⟩:=getElem?_of_mem hv
    have hlt:=(List.getElem?_eq_some_iff.1 hi).1
    exact((hp i vs hi).2 d.ae[i] (getElem?_eq_getElem (by omega))).length
   exact⟨vss,hl,hlens,⟨_,cap,rfl,fun _=>⟨b,off,rfl,lj (sz:=ks.length) vss off fun i vs hi=>⟨(hp i vs hi).1,hlens vs (mem_of_getElem? hi)⟩⟩⟩,
    fun i row vs h1 h2=>(hp i vs h2).2 row h1⟩
section
variable {C:Cx} {g:Gh} {σ:St} {a:Act} {w:World} {o:Oper}
theorem Rel.src(R:Rel C g σ a w){y:Nat}{p:Option (Nat×Nat)}{e:TypeId}{ks:List K}{dp:Bool}{xs:List (List D)}{v:Value}
 (hy:σ.obj y=some (.arr e ks dp xs)) (h:aB (sur C g σ w) y p v):∃vssn,Src w (Me C.M σ.obj g.hd g.fp) ks v (cut xs p) vssn:=by
 obtain⟨⟨aa,n,cap,a',hhd,ev,hle,hnc,hof,hpos⟩,hle2⟩:=R.view hy h
 obtain⟨vss,fps,h1,h2,h3,h4,h5,hlen,h6⟩:=R.pJ hy
 have hcut:∀{α:Type}(l:List α),l.length=xs.length->cut l p=(l.drop (cC p)).take (cn xs p):=fun l hl=>by
  cases p with
  |none=>simp[cut,cC,cn,<-hl]
  |some q=>rfl
 have hcl:(cut xs p).length=cn xs p:=by
  rw[hcut xs rfl,length_take,length_drop];omega
 refine⟨(vss.drop (cC p)).take (cn xs p),?_,fun vs hv=>hlen vs (List.mem_of_mem_drop (List.mem_of_mem_take hv)),⟨a',cap - cC p,by rw[hcl];exact ev,fun h0=> ?_⟩,fun i row vs e1 e2=> ?_⟩
 · rw[hcl,length_take,length_drop,h3];omega
 · rw[hcl] at h0
   rcases be h1 with ⟨hh,h00⟩|⟨b,cap',hh,hn,_⟩
   · omega
   · rw[hhd] at hh
     simp only[Value.slice.injEq] at hh
     obtain⟨rfl,_,_⟩:=hh
     refine⟨b,cC p*ks.length,by have:=hpos h0;simpa[Addr.add_lit] using this,?_⟩
     refine lj (sz:=ks.length) _ _ fun i vs hi=> ?_
     rw[getElem?_take] at hi
     split at hi
     · rw[getElem?_drop] at hi
       have hr:=hU h1 hlen (by rw[hhd];rfl:(g.hd y).ownBlock=some b) hi
       rw[add_mul] at hr
       exact⟨hr,hlen vs (mem_of_getElem? hi)⟩
     · cases hi
 · rw[hcut xs rfl,getElem?_take] at e1
   rw[getElem?_take] at e2
   split at e1
   · rename_i hlt
     rw[if_pos hlt,getElem?_drop] at e2
     rw[getElem?_drop] at e1
     have hl:=(List.getElem?_eq_some_iff.1 e2).1
     exact(h6 _ row vs fps[cC p+i] e1 e2 (getElem?_eq_getElem (by omega))).1
   · cases e1
theorem yL{w:World}{e:TypeId}{sz:Nat}{ad:Option Addr}{n cap l:Nat}{vss:List (List Value)}(h:w.ownsRow 0 e sz (.slice ad n cap) n vss.flatten)(hv:vss.length=n)
 (hl:∀vs∈vss,vs.length=sz) (hle:l<=n):w.ownsRow 0 e sz (.slice ad l cap) l (vss.take l).flatten:=by
 have e1:(vss.take l).flatten=vss.flatten.take (l*sz):=by
  have hlf:(vss.take l).flatten.length=l*sz:=by
   rw[bm (n:=sz) fun vs hv=>hl vs (List.mem_of_mem_take hv),length_take,Nat.min_eq_left (by omega)]
  have e2:vss.flatten=(vss.take l).flatten++(vss.drop l).flatten:=by rw[<-flatten_append,take_append_drop]
  rw[e2,List.take_append_of_le_length (Nat.le_of_eq hlf.symm),take_of_length_le (Nat.le_of_eq hlf)]
 refine⟨?_,?_⟩
 · rw[bm (n:=sz) fun vs hv=>hl vs (List.mem_of_mem_take hv),length_take,Nat.min_eq_left (by omega)]
 · rcases h.2 with ⟨h1,h2⟩|⟨gb,cap',cur,ev,hb,hg,hn,hm,hs,ht⟩
   · have:l=0:=by omega
     subst this
     simp only[Value.slice.injEq] at h1
     exact .inl ⟨by rw[h1.1,h1.2.2],rfl⟩
   · simp only[Value.slice.injEq] at ev
     obtain⟨rfl,_,rfl⟩:=ev
     refine .inr ⟨gb,cap,cur,rfl,hb,hg,by omega,hm,hs,?_⟩
     rw[e1,<-ht,List.take_take]
     congr 1
     have:l*sz<=n*sz:=mul_le_mul_right _ hle
     omega
theorem fe{w:World}{base:Nat}{e:TypeId}{sz:Nat}{v:Value}{n:Nat}{xs:List Value}(h:w.ownsRow base e sz v n xs):bq v=v.ownBlock:=by
 rcases be h with ⟨rfl,_⟩|⟨b,cap,rfl,_⟩<;>rfl
theorem uJ(R:Rel C g σ a w){x y:Operand}{t e:TypeId}(ho:o.op= .call { callee:=.builtin .append,args:= #[x,y],argTypes:= #[t,t] })(ht:(C.T t).ok=true)
 (hs:(C.T t).sl=some e) (het:(C.T e).ok=true) (hpos:0<(C.T e).ks.length) {kd:Nat} {p0:Option (Nat×Nat)} {ks:List K} {dp:Bool} {xs:List (List D)}
 (hx:aB (sur C g σ w) kd p0 (a.eval x)) (hp0:cC p0=0) (hk:σ.obj kd=some (.arr e ks dp xs)) (hks:ks.length=(C.T e).ks.length)
 {ys:List (List D)} {vssn:List (List Value)} (S:Src w (Me C.M σ.obj g.hd g.fp) ks (a.eval y) ys vssn) {key:Nat} (hkey:σ.obj key=none) {dp2:Bool}
 (hdp:dp2=true->dp=true∧∃fpsn:List (List Nat),fpsn.length=ys.length∧(∀(i:Nat)(row:List D)(vs:List Value)(f:List Nat),ys[i]? =some row->vssn[i]? =some vs->fpsn[i]? =some f->bj w ks vs row f)∧
   fpsn.flatten.Nodup∧∀c,c∈fpsn.flatten->(∀z,c ∉ g.fp z)∧(C.w0.heap.size<=c∨c∈C.X)∧c<w.heap.size)
 (h63:(cut xs p0).length+ys.length<=al) (hbytes:((cut xs p0).length+ys.length)*(C.T e).bytes<=140737488355328):
 Did C a w o (.one (.ref key none)) ((σ.aU kd .gone).aU key (.arr e ks dp2 (cut xs p0++ys))):=by
 obtain⟨⟨aa,n,cap,a',hhd,evx,hle,hnc,hof,_⟩,hle2⟩:=R.view hk hx
 rw[hp0] at evx hle hof hle2
 have haa:=hof rfl
 subst haa
 simp only[Nat.sub_zero,zero_add] at evx hle hle2
 obtain⟨vss,fps,h1,h2,h3,h4,h5,hlen,h6⟩:=R.pJ hk
 have hcut:cut xs p0=xs.take (cn xs p0):=by
  cases p0 with
  |none=>simp[cut,cn]
  |some q=>obtain⟨q1,q2⟩:=q;simp only[cC] at hp0;subst hp0;simp[cut,cn]
 have hcl:(cut xs p0).length=cn xs p0:=by rw[hcut,length_take];omega
 generalize hL:cn xs p0=L at*
 have hn:n=xs.length:=by
  rcases be h1 with ⟨hh,h0⟩|⟨b,cap',hh,_,_⟩
  · rw[hhd] at hh;simp only[Value.slice.injEq] at hh;omega
  · rw[hhd] at hh;simp only[Value.slice.injEq] at hh;exact hh.2.1
 subst hn
 have hown0:w.ownsRow 0 e ks.length (a.eval x) L (vss.take L).flatten:=by
  rw[evx];rw[hhd] at h1;exact yL h1 h3 hlen hle2
 rw[hks] at hown0
 have hnl:vssn.flatten.length=ys.length*(C.T e).ks.length:=by rw[bm S.lens,S.len,hks]
 obtain⟨ad,capy,evy,hrow⟩:=S.val
 have hone:∀u∈vssn.flatten,u.oneCell'=true:=fun u hu=>by
  obtain⟨vs,hvs,huv⟩:=mem_flatten.1 hu
  obtain⟨i,hi⟩:=getElem?_of_mem hvs
  have hlt:=(List.getElem?_eq_some_iff.1 hi).1
  have hr:=S.rows i ys[i]! vs (by rw[getElem?_eq_getElem (by rw[<-S.len];exact hlt)];simp[show i<ys.length by rw[<-S.len];exact hlt]) hi
  exact(kP (s:=⟨w,_,σ.obj,g.hd⟩) hr).rj u huv
 rw[hcl] at h63 hbytes
 obtain⟨v',w',hrun,hown',hcase⟩:=Bo (C:=C) (w:=w) (ty:=o.type) ht hs het hpos hown0 (ad:=ad) (c:=capy) hnl hrow hone h63 hbytes
 have hblk:bq (g.hd kd)=(a.eval x).ownBlock:=by
  rw[hhd,evx]
  cases a' with
  |none=>rfl
  |some q=>rfl
 have hkd:Ob.live (σ.obj kd)=true:=by rw[hk];rfl
 have hrest:w'.os=w.os∧w'.tape=w.tape∧w'.output=w.output∧w.heap.size<=w'.heap.size∧∀c,c<w.heap.size->bq (g.hd kd)≠some c->w'.heap[c]? =w.heap[c]? :=by
  rcases hcase with ⟨_,q,_⟩|⟨_,q,_⟩
  · exact⟨q.os,q.tape,q.output,q.size,fun c hc hne=>q.block c hc fun e=>hne (by rw[hblk,e])⟩
  · exact⟨q.os,q.tape,q.output,q.size,fun c hc _=>q.block c hc⟩
 obtain⟨r1,r2,r3,r4,r5⟩:=hrest
 have hblk':=fe hown'
 have hh:∀b,bq v'=some b->bq (g.hd kd)=some b∨w.heap.size<=b:=fun b hb=>by
  rw[hblk'] at hb
  rcases hcase with ⟨q,_,_⟩|⟨q,_,_⟩
  · left;rw[hblk,<-q];exact hb
  · right;rw[q] at hb;simp at hb;omega
 have hfk:g.fp kd=(a.eval x).ownBlock.toList++fps.flatten:=by rw[h5,<-fe h1,hblk]
 have hxk:key≠kd:=fun e=>by subst e;rw[hkey] at hkd;simp[Ob.live] at hkd
 have hnew:∃F0:List (List Nat),F0.length=L+ys.length∧(v'.ownBlock.toList++F0.flatten).Nodup∧
  (∀c,c∈F0.flatten->(c∈fps.flatten∨((∀z,c ∉ g.fp z)∧(C.w0.heap.size<=c∨c∈C.X)))∧c<w.heap.size)∧
  (dp2=false->∀f∈F0,f=[])∧
  (dp2=true->∀(i:Nat)(row:List D)(vs:List Value)(f:List Nat),(cut xs p0++ys)[i]? =some row->(vss.take L++vssn)[i]? =some vs->F0[i]? =some f->bj w ks vs row f):=by
  have hobn:∀c,v'.ownBlock=some c->c ∉ fps.flatten∧(c<w.heap.size->∃z,c∈g.fp z):=fun c hc=>by
   rcases hcase with ⟨q,_,_⟩|⟨q,_,_⟩
   · rw[q] at hc
     have hnd:=R.own kd
     rw[hfk,hc] at hnd
     exact⟨fun hm=>(nodup_append.1 hnd).2.2 c (by simp) c hm rfl,fun _=>⟨kd,by rw[hfk,hc];simp⟩⟩
   · rw[q] at hc
     simp at hc
     subst hc
     exact⟨fun hm=>by have:=(R.alw kd _ (by rw[hfk];exact mem_append.2 (.inr hm))).2;omega,fun h=>by omega⟩
  cases hd2:dp2 with
  |false=>
   refine⟨replicate (L+ys.length) [],by simp,?_,fun c hc=>by simp at hc,fun _ f hf=>(mem_replicate.1 hf).2,fun h=>by cases h⟩
   cases v'.ownBlock<;>simp
  |true=>
   obtain⟨hd1,fpsn,f1,f2,f3,f4⟩:=hdp hd2
   have hnd:=R.own kd
   rw[hfk] at hnd
   have hfn:=(nodup_append.1 hnd).2.1
   have hsub:(fps.take L).flatten.Sublist fps.flatten:=by
    have e2:fps.flatten=(fps.take L).flatten++(fps.drop L).flatten:=by rw[<-flatten_append,take_append_drop]
    rw[e2];exact List.sublist_append_left _ _
   refine⟨fps.take L++fpsn,by rw[length_append,length_take,f1];omega,?_,fun c hc=> ?_,(fun h=>by cases h),fun _ i row vs f e1 e2 e3=> ?_⟩
   · rw[flatten_append]
     have hn2:((fps.take L).flatten++fpsn.flatten).Nodup:=nodup_append.2 ⟨hfn.sublist hsub,f3,fun c hc d hd hcd=>by
      subst hcd
      exact(f4 c hd).1 kd (by rw[hfk];exact mem_append.2 (.inr (hsub.subset hc)))⟩
     cases hob:v'.ownBlock with
     |none=>simpa using hn2
     |some c=>
      obtain⟨q1,q2⟩:=hobn c hob
      simp only[toList_some,List.singleton_append]
      refine nodup_cons.2 ⟨fun hm=> ?_,hn2⟩
      rcases mem_append.1 hm with hm|hm
      · exact q1 (hsub.subset hm)
      · obtain⟨z,hz⟩:=q2 (f4 c hm).2.2
        exact(f4 c hm).1 z hz
   · rw[flatten_append] at hc
     rcases mem_append.1 hc with hc|hc
     · exact⟨.inl (hsub.subset hc),(R.alw kd c (by rw[hfk];exact mem_append.2 (.inr (hsub.subset hc)))).2⟩
     · exact⟨.inr ⟨(f4 c hc).1,(f4 c hc).2.1⟩,(f4 c hc).2.2⟩
   · have l1:(cut xs p0).length=L:=hcl
     have l2:(vss.take L).length=L:=by rw[length_take];omega
     have l3:(fps.take L).length=L:=by rw[length_take];omega
     rw[List.getElem?_append] at e1 e2 e3
     rw[l1] at e1
     rw[l2] at e2
     rw[l3] at e3
     by_cases hi:i<L
     · rw[if_pos hi] at e1 e2 e3
       rw[hcut] at e1
       rw[getElem?_take,if_pos hi] at e1 e2 e3
       exact(h6 i row vs f e1 e2 e3).2.1 hd1
     · rw[if_neg hi] at e1 e2 e3
       exact f2 _ row vs f e1 e2 e3
 obtain⟨F0,F1,F2,F3,F4,F5⟩:=hnew
 have hFb:∀c,c∈v'.ownBlock.toList++F0.flatten->((c∈g.fp kd∨((∀z,c ∉ g.fp z)∧(C.w0.heap.size<=c∨c∈C.X)))∧c<w.heap.size)∨(w.heap.size<=c∧c<w'.heap.size):=fun c hc=>by
  rcases mem_append.1 hc with hc|hc
  · rw[mem_toList] at hc
    rcases hcase with ⟨q,_,_⟩|⟨q,_,q3⟩
    · rw[q] at hc
      have hm:c∈g.fp kd:=by rw[hfk,hc];simp
      exact .inl ⟨.inl hm,(R.alw kd c hm).2⟩
    · rw[q] at hc;simp at hc;exact .inr ⟨by omega,by omega⟩
  · obtain⟨q1,q2⟩:=F3 c hc
    refine .inl ⟨q1.imp (fun h=> ?_) id,q2⟩
    rw[hfk];exact mem_append.2 (.inr h)
 have hk2:Keeps w (Me C.M σ.obj g.hd g.fp) w' (Me C.M ((σ.aU kd .gone).aU key (.arr e ks dp2 (cut xs p0++ys))).obj ((g.upd kd (g.hd kd) []).upd key v' (v'.ownBlock.toList++F0.flatten)).hd ((g.upd kd (g.hd kd) []).upd key v' (v'.ownBlock.toList++F0.flatten)).fp):=by
  intro c p v hc hne
  have hlt:=fw hc
  have hck:bq (g.hd kd)≠some c:=fun e=>hne (.inr (.inl ⟨kd,hkd,e⟩))
  refine⟨by rw[World.cell?_of_block (w:=w) (r5 c hlt hck)];exact hc,?_⟩
  rintro(hM|⟨z,hl,hz⟩|⟨z,hl,hz⟩)
  · exact hne (.inl hM)
  · by_cases hzx:z=key
    · subst hzx
      simp only[Gh.upd,bh] at hz
      rcases hh c hz with h'|h'
      · exact hck h'
      · omega
    · simp only[Gh.upd,aW _ _ hzx] at hz
      rw[St.ap,if_neg hzx,St.ap] at hl
      split at hl
      · simp[Ob.live] at hl
      · rename_i hzk
        rw[aW _ _ hzk] at hz
        exact hne (.inr (.inl ⟨z,hl,hz⟩))
  · by_cases hzx:z=key
    · subst hzx
      rw[St.ap,if_pos rfl] at hl
      simp[Ob.isX] at hl
    · simp only[Gh.upd,aW _ _ hzx] at hz
      rw[St.ap,if_neg hzx,St.ap] at hl
      split at hl
      · simp[Ob.isX] at hl
      · rename_i hzk
        rw[aW _ _ hzk] at hz
        exact hne (.inr (.inr ⟨z,hl,hz⟩))
 have hfr:∀c,c∈F0.flatten->w'.heap[c]? =w.heap[c]? :=fun c hc=>by
  obtain⟨q1,q2⟩:=F3 c hc
  refine r5 c q2 fun e=> ?_
  have hm:c∈g.fp kd:=R.er hkd e
  rcases q1 with q1|⟨q1,_⟩
  · have hnd:=R.own kd
    rw[hblk] at e
    rw[hfk,e] at hnd
    exact(nodup_append.1 hnd).2.2 c (by simp) c q1 rfl
  · exact q1 kd hm
 obtain⟨R',_⟩:=R.replace hkd hkey (ob:=.arr e ks dp2 (cut xs p0++ys)) (h:=v') (F:=v'.ownBlock.toList++F0.flatten) r1 r2 r3 r4 r5 hh F2 hFb (by
  unfold bv
  simp only[sur,St.ap,if_true,Gh.upd,bh]
  refine⟨vss.take L++vssn,F0,?_,by rw[length_append,hcl];exact h63,?_,by rw[F1,length_append,hcl],rfl,fun i row vs f e1 e2 e3=> ?_⟩
  · rw[flatten_append,length_append,hcl,hks];exact hown'
  · rw[length_append,length_append,length_take,S.len,hcl];omega
  · cases hd2:dp2 with
    |true=>
     simp only[if_true]
     exact(F5 hd2 i row vs f e1 e2 e3).keeps fun c hc=>hfr c (mem_flatten.2 ⟨f,mem_of_getElem? e3,hc⟩)
    |false=>
     simp only[false_eq_true,if_false]
     refine⟨?_,F4 hd2 f (mem_of_getElem? e3)⟩
     have l1:(cut xs p0).length=L:=hcl
     have l2:(vss.take L).length=L:=by rw[length_take];omega
     rw[List.getElem?_append] at e1 e2
     rw[l1] at e1
     rw[l2] at e2
     rw[hd2] at hk2
     by_cases hi:i<L
     · rw[if_pos hi] at e1 e2
       rw[hcut] at e1
       rw[getElem?_take,if_pos hi] at e1 e2
       have hil:=(List.getElem?_eq_some_iff.1 e2).1
       exact(h6 i row vs fps[i] e1 e2 (getElem?_eq_getElem (by omega))).1.keeps hk2
     · rw[if_neg hi] at e1 e2
       exact(S.rows _ row vs e1 e2).keeps hk2)
 refine⟨.value v',w',_,?_,.inl ⟨v',rfl,?_,?_⟩,R'⟩
 · simp[execOp,ho,resolve,invoke,builtin,evy,hrun]
 · show aB _ _ _ _
   unfold aB
   simp only[sur,St.ap,if_true,Gh.upd,bh]
   exact⟨trivial,trivial⟩
 · rcases be hown' with ⟨e1,_⟩|⟨b,c,e1,_⟩<;>rw[e1]<;>rfl
end
end Go.Vx
namespace Go.Vx
open Go.RowKit (Below)
theorem A6(vs:List Value):∀(off k:Nat)(cs:Array Value),off+k+vs.length<=cs.size->
 ((vs.zipIdx k).foldl (fun cs (x:Value×Nat)=>cs.setIfInBounds (off+x.2) x.1) cs).toList=cs.toList.take (off+k)++vs++cs.toList.drop (off+k+vs.length):=by
 induction vs with
 |nil=>intro off k cs h;simp
 |cons v vs ih=>
  intro off k cs h
  simp only[length_cons] at h
  rw[List.zipIdx_cons,List.foldl_cons,ih off (k+1) _ (by simp;omega)]
  simp only[Array.toList_setIfInBounds]
  have hlt:off+k<cs.toList.length:=by simp;omega
  have e1:off+(k+1)=(off+k)+1:=by omega
  rw[e1]
  generalize off+k=q at*
  generalize cs.toList=l at*
  have t1:(l.set q v).take (q+1)=l.take q++[v]:=by
   rw[List.take_add_one,List.take_set_of_le (le_refl _),getElem?_set_self hlt]
   simp
  have t2:(l.set q v).drop (q+1+vs.length)=l.drop (q+(vs.length+1)):=by
   rw[List.drop_set_of_lt (by omega)]
   congr 1;omega
  rw[t1,t2]
  simp
def Cz(gI:List (Nat×Nat)):List AC->List (Nat×AV)->Option (List AC)
 |cs,[]=>some cs
 |cs,(i,u)::rest=>match gI[i]?,u.cells? with
  |some (off,n),some cs'=>if cs'.length=n∧off+n<=cs.length then Cz gI (cs.take off++cs'++cs.drop (off+n)) rest else none
  |_,_=>none
theorem BP{s:Sur}{gI:List (Nat×Nat)}{place:Nat->Option (Nat×Nat)}(hp:∀i,place i=gI[i]?):∀(ps:List (Nat×AV))(qs:List (Nat×Value))(cs cs2:List AC)(vs:List Value),
 aE s cs vs->ps.length=qs.length->(∀(i:Nat) p q,ps[i]? =some p->qs[i]? =some q->p.1=q.1∧bB s p.2 q.2)->Cz gI cs ps=some cs2->
 ∃vs2,Instr.fill place vs.toArray qs=some (toArray vs2)∧aE s cs2 vs2
 |[],[],cs,cs2,vs,h,_,_,hl=>by simp only[Cz,Option.some.injEq] at hl;subst hl;exact⟨vs,rfl,h⟩
 |[],_::_,_,_,_,_,hl,_,_=>by simp at hl
 |_::_,[],_,_,_,_,hl,_,_=>by simp at hl
 |(i,u)::ps,(j,v)::qs,cs,cs2,vs,h,hlen,hq,hl=>by
  obtain⟨e,hu⟩:=hq 0 (i,u) (j,v) rfl rfl
  simp only at e hu
  subst e
  simp only[Cz] at hl
  split at hl
  · rename_i off n cs' hf hc
    split at hl
    · rename_i hb
      obtain⟨vs',hv',hr'⟩:=lP hu hc
      have hl1:=h.length
      have hl2:=hr'.length
      have hnew:aE s (cs.take off++cs'++cs.drop (off+n)) (vs.take off++vs'++vs.drop (off+n)):=((h.take off).append hr').append (h.drop (off+n))
      obtain⟨vs2,h1,h2⟩:=BP hp ps qs _ cs2 _ hnew (by simpa using hlen) (fun k p q e1 e2=>hq (k+1) p q (by simpa using e1) (by simpa using e2)) hl
      refine⟨vs2,?_,h2⟩
      rw[<-h1]
      simp only[Instr.fill,hp,hf]
      have hsz:v.cells.size=n:=by rw[hv'];simp;omega
      have hle:¬(off+v.cells.size>vs.toArray.size):=by rw[hsz];simp;omega
      simp only[hsz,ne_eq,not_true_eq_false,decide_false,Bool.false_or,hle,false_eq_true,if_false]
      rw[if_neg (by simp;omega)]
      congr 1
      apply ext'
      have hz:foldl (fun cs (x:Value×Nat)=>cs.setIfInBounds (off+x.2) x.1) vs.toArray v.cells.zipIdx=(vs'.zipIdx 0).foldl (fun cs (x:Value×Nat)=>cs.setIfInBounds (off+x.2) x.1) vs.toArray:=by
       rw[hv',<-Array.foldl_toList]
       simp
      rw[show(foldl (fun cs (x:Value×Nat)=>match x with|(c,j)=>cs.setIfInBounds (off+j) c) vs.toArray v.cells.zipIdx)=foldl (fun cs (x:Value×Nat)=>cs.setIfInBounds (off+x.2) x.1) vs.toArray v.cells.zipIdx from rfl,hz,
       A6 vs' off 0 vs.toArray (by simp;omega)]
      simp only[add_zero,hl2,hb.1]
    · cases hl
  · cases hl
section
variable {C:Cx} {g:Gh} {σ:St} {a:Act} {w:World} {o:Oper}
theorem vq:∀(l:List Field),(∀f∈l,(C.T f.type).ok=true)->∀w,((l.mapM fun f=>do pure (f.offset,<-sizeOf f.type):Sem (List (Nat×Nat)))).run C.P w= .ok (l.map fun f=>(f.offset,(C.T f.type).ks.length)) w
 |[],_,w=>by simp
 |f::l,h,w=>by
  have h1:=ov (h f (by simp)) w
  have h2:=vq l (fun x hx=>h x (by simp[hx])) w
  simp only[List.mapM_cons,Sem.run_bind,h1,Result.andThen_ok,Sem.run_pure,h2,map_cons]
theorem Gk(R:Rel C g σ a w){t:TypeId}{parts:Array (Nat×Operand)}(ho:o.op= .build t parts)(ht:(C.T t).ok=true)(ha:(C.T t).agg=true)
 (hf:∀p∈(C.T t).gI,(C.T p.2).ok=true) {cs:List AC}
 (hl:Cz ((C.T t).gI.map fun p=>(p.1,(C.T p.2).ks.length)) ((C.T t).ks.map gJ) (parts.toList.map fun p=>(p.1,ev C.T (((C.T t).gI.getD p.1 (0,0)).2) σ p.2))=some cs):Did C a w o (.agg cs) σ:=by
 obtain⟨_,d,_,_,h2,_,_,_,_,h7⟩:=(C.tok t ht).ex
 have hrow:=h7.row
 rw[ha] at hrow
 cases d with
 |struct fs=>
  have hfs:=h7.2.2.2.2
  obtain⟨z,hz,hzc⟩:=xn ht w
  have hm:(fs.mapM fun f=>do pure (f.offset,<-sizeOf f.type):Sem (Array (Nat×Nat))).run C.P w= .ok (fs.toList.map fun f=>(f.offset,(C.T f.type).ks.length)).toArray w:=by
   rw[Array.mapM_eq_mapM_toList]
   have:=vq (C:=C) fs.toList (fun f hf'=>hf (f.offset,f.type) (by rw[<-hfs];exact mem_map.2 ⟨f,hf',rfl⟩)) w
   simp only[Sem.run_map,this,Result.andThen_ok]
  obtain⟨vs2,q1,q2⟩:=BP (s:=sur C g σ w) (gI:=(C.T t).gI.map fun p=>(p.1,(C.T p.2).ks.length)) (place:=((fs.toList.map fun f=>(f.offset,(C.T f.type).ks.length)).toArray[·]?))
   (fun i=>by simp[<-hfs,List.map_map,Function.comp_def]) _ (parts.toList.map fun p=>(p.1,a.eval p.2)) _ cs _ (sr _ (C.T t).ks) (by simp) (fun i p q e1 e2=>by
     simp only[getElem?_map,map_eq_some_iff] at e1 e2
     obtain⟨r,hr,rfl⟩:=e1
     obtain⟨r',hr',rfl⟩:=e2
     rw[hr] at hr'
     simp only[Option.some.injEq] at hr'
     subst hr'
     exact⟨rfl,bG R _ _⟩) hl
  refine .quiet R (v:=.agg vs2.toArray) ?_ ⟨vs2,rfl,q2⟩
  have hparts:(parts.map fun x=>(x.1,a.eval x.2)).toList=parts.toList.map fun p=>(p.1,a.eval p.2):=by simp
  simp only[execOp,ho,Instr.build,Sem.run_bind,hz,Result.andThen_ok,run_underlying h2,hm,hzc]
  rw[show(Array.map (fun(x:Nat×Operand)=>match x with|(i,x)=>(i,a.eval x)) parts)=parts.map fun x=>(x.1,a.eval x.2) from rfl,hparts,q1]
  rfl
 |array n e=>exact h7.elim
 |_=>simp[TypeDesc.isRow] at hrow
theorem Rel.Jv(R:Rel C g σ a w){x:Nat}(hx:σ.obj x=none){e:TypeId}{ks:List K}{dp:Bool}{xs:List (List D)}{vss:List (List Value)}{fps:List (List Nat)}{cells:Array Value}{cap:Nat}
 (hc:cells.toList.take (xs.length*ks.length)=vss.flatten) (hcap:cells.size=cap*ks.length) (hle:xs.length<=cap) (hcm:cap<=maxLen) (hmax:xs.length<=al) (h3:vss.length=xs.length) (h4:fps.length=xs.length)
 (hlen:∀vs∈vss,vs.length=ks.length)
 (hrows:∀(i:Nat)(row:List D)(vs:List Value)(f:List Nat),xs[i]? =some row->vss[i]? =some vs->fps[i]? =some f->if dp then bj w ks vs row f else(aP w (Me C.M σ.obj g.hd g.fp) ks vs row∧f=[]))
 (hn:fps.flatten.Nodup) (hfr:∀c,c∈fps.flatten->(∀z,c ∉ g.fp z)∧(C.w0.heap.size<=c∨c∈C.X)∧c<w.heap.size):
 Rel C (g.upd x (.slice (some ⟨w.heap.size,0,none⟩) xs.length cap) (w.heap.size::fps.flatten)) (σ.aU x (.arr e ks dp xs)) a (w.alloc (.cells cells e)):=by
 have hb:=nu w (.cells cells e)
 have hs:=Shift.grow (C:=C) (g:=g) hb x hx (.arr e ks dp xs) (.slice (some ⟨w.heap.size,0,none⟩) xs.length cap) (w.heap.size::fps.flatten) (fun b hb=>by simp[bq] at hb;omega)
 have old:∀y b,b∈g.fp y->b<w.heap.size:=fun y b hm=>(R.alw y b hm).2
 have key:∀z,z≠x->∀c,c∈g.fp z->c∈w.heap.size::fps.flatten->False:=fun z hz c hc hcf=>by
  rcases mem_cons.1 hcf with rfl|hcf
  · have:=old z _ hc;omega
  · exact(hfr c hcf).1 z hc
 refine R.move rfl hs (fun y=> ?_) (fun y=> ?_) (fun y z hyz b hy hz=> ?_) (fun y b hy=> ?_) (R.fr.below hb)
 · by_cases hy:y=x
   · subst hy
     unfold bv
     simp only[sur,St.ap,if_true,Gh.upd,bh]
     refine⟨vss,fps,⟨by rw[bm hlen,h3],.inr ⟨w.heap.size,cap,cells,rfl,zero_le _,heap_alloc_new' _ _,hle,hcm,hcap,hc⟩⟩,hmax,h3,h4,rfl,fun i row vs f e1 e2 e3=> ?_⟩
     have:=hrows i row vs f e1 e2 e3
     cases dp with
     |true=>exact bj.keeps this fun c hc=>hb.block c (hfr c (mem_flatten.2 ⟨f,mem_of_getElem? e3,hc⟩)).2.2
     |false=>exact⟨this.1.keeps hs.keeps,this.2⟩
   · refine(R.objs y).shift hs ?_ ?_ ?_ fun b hm=>hb.block b (old y b hm)
     · simp[sur,St.ap,hy]
     · simp[sur,Gh.upd,aW _ _ hy]
     · simp[Gh.upd,aW _ _ hy]
 · by_cases hy:y=x
   · subst hy
     simp only[Gh.upd,bh]
     exact nodup_cons.2 ⟨fun h=>by have:=(hfr _ h).2.2;omega,hn⟩
   · simpa[Gh.upd,aW _ _ hy] using R.own y
 · by_cases hy':y=x
   · subst hy'
     have hz':z≠y:=fun e=>hyz e.symm
     simp only[Gh.upd,bh] at hy
     simp only[Gh.upd,aW _ _ hz'] at hz
     exact key z hz' b hz hy
   · by_cases hz':z=x
     · subst hz'
       simp only[Gh.upd,bh] at hz
       simp only[Gh.upd,aW _ _ hy'] at hy
       exact key y hy' b hy hz
     · simp only[Gh.upd,aW _ _ hy',aW _ _ hz'] at hy hz
       exact R.apart y z hyz b hy hz
 · by_cases hy':y=x
   · subst hy'
     simp only[Gh.upd,bh] at hy
     rcases mem_cons.1 hy with rfl|hy
     · exact⟨.inl R.fr.size,by simp⟩
     · exact⟨(hfr b hy).2.1,lt_of_lt_of_le (hfr b hy).2.2 hb.size⟩
   · simp only[Gh.upd,aW _ _ hy'] at hy
     exact⟨(R.alw y b hy).1,lt_of_lt_of_le (R.alw y b hy).2 hb.size⟩
theorem yi(w:World):∀(ks:List K),bj w ks (ks.map zeroV) (ks.map yq) []
 |[]=>⟨rfl,rfl⟩
 |k::ks=>by
  refine⟨zeroV k,ks.map zeroV,[],[],rfl,rfl,?_,yi w ks⟩
  cases k with
  |int k=>exact⟨rfl,by cases k<;>simp[yq,inR,IntKind.min,IntKind.max,IntKind.signed,IntKind.bits],rfl⟩
  |bool=>exact⟨rfl,rfl⟩
  |str=>exact⟨rfl,zero_le _,rfl⟩
  |sl e ks=>exact⟨[],[],World.ownsRow_nil _ _ _ _,by simp[al,yq],rfl,rfl,rfl,fun i row vs f h=>by simp[yq] at h⟩
theorem sM(z:Array Value)(zs:List Value)(hz:z.toList=zs)(hpos:0<zs.length):∀n,(madeCells z (n*zs.length)).toList=(replicate n zs).flatten:=by
 intro n
 have hsz:z.size=zs.length:=by rw[<-hz];simp
 apply List.ext_getElem?
 intro i
 by_cases hi:i<n*zs.length
 · have h1:(madeCells z (n*zs.length)).toList[i]? =some (zs[i % zs.length]'(mod_lt _ hpos)):=by
    have hm:i % z.size<z.size:=mod_lt _ (by omega)
    simp only[madeCells,toList_map,getElem?_map,Array.toList_range]
    rw[List.getElem?_range hi]
    simp only[map_some,Option.some.injEq]
    rw[getElem!_pos z _ hm]
    subst hz
    simp
   rw[h1]
   have hq:i / zs.length<n:=Nat.div_lt_of_lt_mul (by rw[mul_comm];exact hi)
   have:=jx zs.length (replicate n zs) (fun vs hv=>by rw[(mem_replicate.1 hv).2]) (i / zs.length) zs (i % zs.length) (zs[i % zs.length]'(mod_lt _ hpos)) (by simp[hq]) (by simp[mod_lt _ hpos])
   rw[show i / zs.length*zs.length+i % zs.length=i by rw[mul_comm];exact Nat.div_add_mod i zs.length] at this
   exact this.symm
 · rw[List.getElem?_eq_none (by simp[size_madeCells];omega),List.getElem?_eq_none]
   rw[bm (n:=zs.length) (fun vs hv=>by rw[(mem_replicate.1 hv).2])]
   simp;omega
theorem Hv(R:Rel C g σ a w){t e:TypeId}{x y:Operand}(ho:o.op= .makeSlice t x y)(ht:(C.T t).ok=true)(hs:(C.T t).sl=some e)(het:(C.T e).ok=true)(hpos:0<(C.T e).ks.length)
 {k k':IntKind} {d d':D} (hx:(ev C.T 0 σ x).dn= .one (.dat (.int k) d)) (hy:(ev C.T 0 σ y).dn= .one (.dat (.int k') d')) (hdd:d'.ZY=d.ZY) (h0:0<=d.ZY) (h1:d.ZY.toNat<=al)
 (hb:d.ZY.toNat*(C.T e).bytes<=281474976710656) {key:Nat} (hkey:σ.obj key=none):
 Did C a w o (.one (.ref key none)) (σ.aU key (.arr e (C.T e).ks true (replicate d.ZY.toNat ((C.T e).ks.map yq)))):=by
 obtain⟨ex,_⟩:=R.jI hx
 obtain⟨ey,_⟩:=R.jI hy
 rw[hdd] at ey
 obtain⟨i,_,z,q1,_,q3,q4,q5,q6,_⟩:=(C.tok e het).ex
 have hml:al<=maxLen:=by simp[al,maxLen]
 generalize hn:d.ZY.toNat=n at*
 have hdn:d.ZY=(n:Int):=by omega
 rw[hdn] at ex ey
 have hrun:(Instr.makeSlice t (.int k (n:Int)) (.int k' (n:Int))).run C.P w= .ok (.slice (some ⟨w.heap.size,0,none⟩) n n) (w.alloc (.cells (madeCells z.cells (n*i.size)) e)):=by
  have hcells:(i.bytes:Int)*(n:Int)<=281474976710656:=by
   have:n*i.bytes<=281474976710656:=by rw[q4];exact hb
   have h2:((n*i.bytes:Nat):Int)<=281474976710656:=by omega
   rw[mul_comm] at h2
   simpa using h2
  have:=run_make (P:=C.P) w t e i z (i9 ht hs) q1 q5 k k' (n:Int) (n:Int) (by omega) (by omega) hcells (by simp only[al] at h1;omega)
  simpa using this
 rw[q3] at hrun
 have hzl:z.cells.toList=(C.T e).ks.map zeroV:=q6
 have hmc:=sM z.cells ((C.T e).ks.map zeroV) hzl (by simpa using hpos) n
 simp only[List.length_map] at hmc
 refine⟨.value (.slice (some ⟨w.heap.size,0,none⟩) n n),_,_,?_,.inl ⟨_,rfl,?_,rfl⟩,R.Jv hkey (cap:=n) (vss:=replicate n ((C.T e).ks.map zeroV)) (fps:=replicate n []) (cells:=madeCells z.cells (n*(C.T e).ks.length)) ?_ ?_ ?_ ?_ ?_ ?_ ?_ ?_ ?_ ?_ ?_⟩
 · simp only[execOp,ho,ex,ey,Sem.run_bind,hrun,Result.andThen_ok,Sem.run_pure]
 · show aB _ _ _ _
   unfold aB
   simp only[sur,St.ap,if_true,Gh.upd,bh]
   exact⟨trivial,by simp⟩
 · rw[hmc,List.length_replicate,take_of_length_le]
   rw[bm (n:=(C.T e).ks.length) (fun vs hv=>by rw[(mem_replicate.1 hv).2];simp)]
   simp
 · exact size_madeCells _ _
 · simp
 · omega
 · simpa using h1
 · simp
 · simp
 · intro vs hv
   rw[(mem_replicate.1 hv).2];simp
 · intro j row vs f e1 e2 e3
   have r1:=(mem_replicate.1 (mem_of_getElem? e1)).2
   have r2:=(mem_replicate.1 (mem_of_getElem? e2)).2
   have r3:=(mem_replicate.1 (mem_of_getElem? e3)).2
   subst r1 r2 r3
   simp only[if_true]
   exact yi w _
 · simp
 · intro c hc;simp at hc
end
end Go.Vx
namespace Go.Vx
open Go.RowKit (Below)
theorem Cg{sz:Nat}:∀(vs:List Value)(k:Nat)(cells:Array Value),(∀v∈vs,v.cells.size=sz)->(k+vs.length)*sz<=cells.size->
 Instr.fill (fun i=>some (i*sz,sz)) cells ((vs.zipIdx k).map fun p=>(p.2,p.1))=
  some (cells.toList.take (k*sz)++(vs.map fun v=>v.cells.toList).flatten++cells.toList.drop ((k+vs.length)*sz)).toArray
 |[],k,cells,_,_=>by simp[Instr.fill]
 |v::vs,k,cells,h,hle=>by
  have hv:=h v (by simp)
  simp only[length_cons] at hle
  have e1:(k+(vs.length+1))*sz=k*sz+sz+vs.length*sz:=by rw[add_mul,add_mul];omega
  have e2:(k+1+vs.length)*sz=k*sz+sz+vs.length*sz:=by rw[add_mul,add_mul];omega
  have e3:(k+1)*sz=k*sz+sz:=by rw[add_mul];omega
  rw[e1] at hle
  have hz:foldl (fun cs (x:Value×Nat)=>match x with|(c,j)=>cs.setIfInBounds (k*sz+j) c) cells v.cells.zipIdx=(cells.toList.take (k*sz)++v.cells.toList++cells.toList.drop (k*sz+sz)).toArray:=by
   have:foldl (fun cs (x:Value×Nat)=>match x with|(c,j)=>cs.setIfInBounds (k*sz+j) c) cells v.cells.zipIdx=(v.cells.toList.zipIdx 0).foldl (fun cs (x:Value×Nat)=>cs.setIfInBounds (k*sz+x.2) x.1) cells:=by
    rw[<-Array.foldl_toList];simp
   rw[this]
   apply ext'
   rw[A6 v.cells.toList (k*sz) 0 cells (by simp[hv];omega)]
   simp[hv]
  simp only[List.zipIdx_cons,map_cons,Instr.fill,hv]
  rw[if_neg (by simp;omega),hz,Cg vs (k+1) _ (fun u hu=>h u (by simp[hu])) (by simp[hv,e2];omega)]
  congr 2
  have hl1:(cells.toList.take (k*sz)++v.cells.toList).length=(k+1)*sz:=by simp[hv,e3];omega
  rw[List.take_append_of_le_length (by omega),take_of_length_le (by omega),List.drop_append,List.drop_of_length_le (by omega),hl1,drop_drop]
  have e4:k*sz+sz+((k+1+vs.length)*sz - (k+1)*sz)=(k+(vs.length+1))*sz:=by rw[e1,e2,e3];omega
  simp[e4]
def chunk{α:Type}(m:Nat):Nat->List α->List (List α)
 |0,_=>[]
 |n+1,ds=>ds.take m::chunk m n (ds.drop m)
@[simp] theorem pV {α:Type} (m:Nat):∀(n:Nat)(ds:List α),(chunk m n ds).length=n
 |0,_=>rfl
 |n+1,ds=>by simp[chunk,pV m n]
theorem Ee{w:World}{M:Nat->Nat->Prop}{ks:List K}:∀(n:Nat)(vss:List (List Value))(ds:List D),aP w M (replicate n ks).flatten vss.flatten ds->vss.length=n->(∀vs∈vss,vs.length=ks.length)->
 ∀(i:Nat)(row:List D)(vs:List Value),(chunk ks.length n ds)[i]? =some row->vss[i]? =some vs->aP w M ks vs row
 |0,_,_,_,_,_,i,row,vs,h1,_=>by simp[chunk] at h1
 |n+1,[],_,_,hl,_,_,_,_,_,_=>by simp at hl
 |n+1,us::vss,ds,h,hl,hlen,i,row,vs,h1,h2=>by
  have hu:=hlen us (by simp)
  rw[List.replicate_succ,flatten_cons,flatten_cons] at h
  cases i with
  |zero=>
   simp only[chunk,List.getElem?_cons_zero,Option.some.injEq] at h1 h2
   subst h1 h2
   have:=aP.Iq ks.length h
   rwa[take_left' rfl,take_left' hu] at this
  |succ i=>
   simp only[chunk,List.getElem?_cons_succ] at h1 h2
   have:=aP.drop ks.length h
   rw[drop_left' rfl,drop_left' hu] at this
   exact Ee n vss _ this (by simpa using hl) (fun x hx=>hlen x (by simp[hx])) i row vs h1 h2
theorem Eo{w:World}{ks:List K}:∀(n:Nat)(vss:List (List Value))(ds:List D)(F:List Nat),bj w (replicate n ks).flatten vss.flatten ds F->vss.length=n->(∀vs∈vss,vs.length=ks.length)->
 ∃fps:List (List Nat),fps.length=n∧fps.flatten=F∧∀(i:Nat)(row:List D)(vs:List Value)(f:List Nat),(chunk ks.length n ds)[i]? =some row->vss[i]? =some vs->fps[i]? =some f->bj w ks vs row f
 |0,vss,_,F,h,hl,_=>by
  have:vss=[]:=List.eq_nil_of_length_eq_zero hl
  subst this
  exact⟨[],rfl,by simpa using h.2.symm,fun i row vs f h1=>by simp[chunk] at h1⟩
 |n+1,[],_,_,_,hl,_=>by simp at hl
 |n+1,us::vss,ds,F,h,hl,hlen=>by
  have hu:=hlen us (by simp)
  rw[List.replicate_succ,flatten_cons,flatten_cons] at h
  obtain⟨F1,F2,rfl,h1,h2⟩:=bj.split ks.length h
  rw[take_left' rfl,take_left' hu] at h1
  rw[drop_left' rfl,drop_left' hu] at h2
  obtain⟨fps,q1,q2,q3⟩:=Eo n vss _ F2 h2 (by simpa using hl) (fun x hx=>hlen x (by simp[hx]))
  refine⟨F1::fps,by simp[q1],by simp[q2],fun i row vs f e1 e2 e3=> ?_⟩
  cases i with
  |zero=>
   simp only[chunk,List.getElem?_cons_zero,Option.some.injEq] at e1 e2 e3
   subst e1 e2 e3
   exact h1
  |succ i=>
   simp only[chunk,List.getElem?_cons_succ] at e1 e2 e3
   exact q3 i row vs f e1 e2 e3
def gather(n:Nat):List AV->Option (List AC)
 |[]=>some []
 |u::us=>match u.cells?,gather n us with
  |some cs,some cs'=>if cs.length=n then some (cs++cs') else none
  |_,_=>none
theorem vT{s:Sur}{n:Nat}:∀(us:List AV)(vs:List Value)(cs:List AC),us.length=vs.length->(∀(i:Nat) u v,us[i]? =some u->vs[i]? =some v->bB s u v)->gather n us=some cs->
 (∀v∈vs,v.cells.size=n)∧aE s cs (vs.map fun v=>v.cells.toList).flatten
 |[],[],cs,_,_,h=>by simp only[gather,Option.some.injEq] at h;subst h;exact⟨by simp,rfl⟩
 |[],_::_,_,h,_,_=>by simp at h
 |_::_,[],_,h,_,_=>by simp at h
 |u::us,v::vs,cs,hl,hr,h=>by
  simp only[gather] at h
  split at h
  · rename_i c1 c2 e1 e2
    split at h
    · rename_i hn
      simp only[Option.some.injEq] at h
      subst h
      obtain⟨vs',hv',hr'⟩:=lP (hr 0 u v rfl rfl) e1
      obtain⟨q1,q2⟩:=vT us vs c2 (by simpa using hl) (fun i u v a b=>hr (i+1) u v (by simpa using a) (by simpa using b)) e2
      have:=hr'.length
      refine⟨fun x hx=> ?_,?_⟩
      · rcases mem_cons.1 hx with rfl|hx
        · rw[hv'];simp;omega
        · exact q1 x hx
      · simp only[map_cons,flatten_cons,hv']
        exact hr'.append q2
    · cases h
  · cases h
section
variable {C:Cx} {g:Gh} {σ:St} {a:Act} {w:World} {o:Oper}
theorem vQ(R:Rel C g σ a w){t e:TypeId}{n:Nat}{parts:Array (Nat×Operand)}(ho:o.op= .buildSlice t n parts)(ht:(C.T t).ok=true)(hs:(C.T t).sl=some e)(het:(C.T e).ok=true)
 (hpos:0<(C.T e).ks.length) (hsz:n*(C.T e).ks.length<=16777216) (hp:parts.toList.map Prod.fst=List.range n) {cs:List AC} (hg:gather (C.T e).ks.length (parts.toList.map fun p=>ev C.T e σ p.2)=some cs)
 {σ1:St} {ks':List K} {ds:List D} {dp:Bool} (hab:fX σ cs=some (σ1,ks',ds,dp)) (hks:ks'=(replicate n (C.T e).ks).flatten) {key:Nat} (hkey:σ.obj key=none):
 Did C a w o (.one (.ref key none)) (σ1.aU key (.arr e (C.T e).ks dp (chunk (C.T e).ks.length n ds))):=by
 obtain⟨i,_,z,q1,_,q3,q4,q5,q6,_⟩:=(C.tok e het).ex
 have hlen:parts.toList.length=n:=by have:=congrArg List.length hp;simpa using this
 generalize hvs:(parts.toList.map fun p=>a.eval p.2)=vs
 have hvl:vs.length=n:=by rw[<-hvs];simpa using hlen
 have hparts:(parts.map fun x=>(x.1,a.eval x.2)).toList=(vs.zipIdx 0).map fun p=>(p.2,p.1):=by
  apply List.ext_getElem?
  intro j
  have hj:=congrArg (fun l=>l[j]?) hp
  simp only[getElem?_map] at hj
  subst hvs
  simp only[toList_map,getElem?_map,List.getElem?_zipIdx]
  cases hpj:parts.toList[j]? with
  |none=>simp
  |some p=>
   rw[hpj] at hj
   simp only[map_some] at hj
   have hlt:j<n:=by rw[<-hlen];exact(List.getElem?_eq_some_iff.1 hpj).1
   rw[List.getElem?_range hlt] at hj
   simp only[Option.some.injEq] at hj
   simp[hj]
 obtain⟨hcs,hrep⟩:=vT (s:=sur C g σ w) (n:=(C.T e).ks.length) _ vs cs (by subst hvs;simp) (fun j u v e1 e2=>by
  subst hvs
  simp only[getElem?_map,map_eq_some_iff] at e1 e2
  obtain⟨p,hp1,rfl⟩:=e1
  obtain⟨p',hp2,rfl⟩:=e2
  rw[hp1] at hp2
  simp only[Option.some.injEq] at hp2
  subst hp2
  exact bG R _ _) hg
 generalize hvss:(vs.map fun v=>v.cells.toList)=vss at hrep
 have hvssl:vss.length=n:=by subst hvss;simpa using hvl
 have hrowl:∀us∈vss,us.length=(C.T e).ks.length:=fun us hu=>by
  subst hvss
  obtain⟨v,hv,rfl⟩:=mem_map.1 hu
  simpa using hcs v hv
 obtain⟨g1,F,A⟩:=jb cs R hrep hab
 have R1:=A.rel
 have hml:al<=maxLen:=by simp[al,maxLen]
 have hn0:n<=n*(C.T e).ks.length:=Nat.le_mul_of_pos_right _ hpos
 have hrun:(Instr.buildSlice t n (parts.map fun x=>(x.1,a.eval x.2))).run C.P w= .ok (.slice (some ⟨w.heap.size,0,none⟩) n n) (w.alloc (.cells vss.flatten.toArray e)):=by
  have hfill:∀cells:Array Value,cells.size=n*(C.T e).ks.length->Instr.fill (fun i=>some (i*(C.T e).ks.length,(C.T e).ks.length)) cells (parts.map fun x=>(x.1,a.eval x.2)).toList=some vss.flatten.toArray:=fun cells hc=>by
   rw[hparts,Cg vs 0 cells hcs (by rw[hc,hvl];simp),hvss]
   simp[hvl,hc]
  by_cases h0:n*i.size=0
  · have hn:n=0:=by
     rcases Nat.mul_eq_zero.1 h0 with h|h
     · exact h
     · omega
    subst hn
    have hps:parts.map (fun x=>(x.1,a.eval x.2))= #[]:=by
     apply Array.eq_empty_of_size_eq_zero
     simpa using hlen
    have hv0:vss=[]:=List.eq_nil_of_length_eq_zero hvssl
    simp only[hps,hv0]
    simp[Instr.buildSlice,run_underlying (i9 ht hs),sizeOf,typeInfo,q1,Instr.fill,newRow]
    congr 2
    exact Array.eq_empty_of_size_eq_zero (by simp)
  · have hsmall:¬n*i.size>2^24:=by rw[q3];simpa using hsz
    have:=hfill ((Array.range (n*(C.T e).ks.length)).map (z.cells[· % z.cells.size]!)) (by simp)
    rw[<-q3] at this
    generalize (parts.map fun x=>(x.1,a.eval x.2))=ps at this⊢
    simp[Instr.buildSlice,run_underlying (i9 ht hs),sizeOf,typeInfo,zeroValue,q1,q5,hsmall,h0,this,newRow]
 have hk1:=A.none key hkey
 have hflat:vss.flatten.length=n*(C.T e).ks.length:=by rw[bm hrowl,hvssl]
 have hreps:=A.zx
 rw[hks] at hreps
 have hgo:∀fps:List (List Nat),fps.length=n->fps.flatten.Nodup->(∀c,c∈fps.flatten->(∀z,c ∉ g1.fp z)∧(C.w0.heap.size<=c∨c∈C.X)∧c<w.heap.size)->
  (∀(i:Nat)(row:List D)(vs:List Value)(f:List Nat),(chunk (C.T e).ks.length n ds)[i]? =some row->vss[i]? =some vs->fps[i]? =some f->if dp then bj w (C.T e).ks vs row f else(aP w (Me C.M σ1.obj g1.hd g1.fp) (C.T e).ks vs row∧f=[]))->
  Did C a w o (.one (.ref key none)) (σ1.aU key (.arr e (C.T e).ks dp (chunk (C.T e).ks.length n ds))):=fun fps f1 f2 f3 f4=>by
  have:=R1.Jv hk1 (e:=e) (ks:=(C.T e).ks) (dp:=dp) (xs:=chunk (C.T e).ks.length n ds) (vss:=vss) (fps:=fps) (cells:=vss.flatten.toArray) (cap:=n) (by simp only[pV];rw[<-hflat];exact take_of_length_le (le_refl _)) (by simp[hflat]) (by simp) (by simp only[maxLen];omega) (by simp[al];omega) (by simp[hvssl]) (by simp[f1]) hrowl f4 f2 f3
  refine⟨.value (.slice (some ⟨w.heap.size,0,none⟩) n n),_,_,?_,.inl ⟨_,rfl,?_,rfl⟩,this⟩
  · simp only[execOp,ho,Sem.run_bind]
    rw[show(Array.map (fun(x:Nat×Operand)=>match x with|(i,x)=>(i,a.eval x)) parts)=parts.map fun x=>(x.1,a.eval x.2) from rfl,hrun]
    rfl
  · show aB _ _ _ _
    unfold aB
    simp only[sur,St.ap,if_true,Gh.upd,bh]
    exact⟨trivial,by simp⟩
 cases dp with
 |true=>
  obtain⟨d1,d2,d3⟩:=A.deep rfl
  rw[hks] at d1
  obtain⟨fps,f1,f2,f3⟩:=Eo n vss ds F d1 hvssl hrowl
  refine hgo fps f1 (by rw[f2];exact d2) (fun c hc=> ?_) fun i row vs f e1 e2 e3=>by simpa using f3 i row vs f e1 e2 e3
  rw[f2] at hc
  obtain⟨q,x,hx⟩:=d3 c hc
  exact⟨q,R.alw x c hx⟩
 |false=>
  refine hgo (replicate n []) (by simp) (by simp) (fun c hc=>by simp at hc) fun i row vs f e1 e2 e3=> ?_
  simp only[false_eq_true,if_false]
  exact⟨Ee n vss ds hreps hvssl hrowl i row vs e1 e2,(mem_replicate.1 (mem_of_getElem? e3)).2⟩
end
section
variable {C:Cx} {g:Gh} {σ:St} {a:Act} {w:World} {o:Oper}
theorem Rel.wD(R:Rel C g σ a w){x:Nat}{e:TypeId}{ks:List K}{xs:List (List D)}(hx:σ.obj x=some (.arx e ks xs)):
 ∃(vss:List (List Value)) (fps:List (List Nat)),w.ownsRow 0 e ks.length (g.hd x) xs.length vss.flatten∧xs.length<=al∧vss.length=xs.length∧fps.length=xs.length∧
  g.fp x=(g.hd x).ownBlock.toList++fps.flatten∧(∀vs∈vss,vs.length=ks.length)∧
  ∀(i:Nat)(row:List D)(vs:List Value)(f:List Nat),xs[i]? =some row->vss[i]? =some vs->fps[i]? =some f->bj w ks vs row f:=by
 have h:=R.objs x
 unfold bv at h
 simp only[sur,hx] at h
 obtain⟨vss,fps,h1,h2,h3,h4,h5,h6⟩:=h
 refine⟨vss,fps,h1,h2,h3,h4,h5,fun vs hv=> ?_,h6⟩
 obtain⟨j,hj⟩:=getElem?_of_mem hv
 have hjl:=(List.getElem?_eq_some_iff.1 hj).1
 exact(h6 j xs[j] vs fps[j] (getElem?_eq_getElem (by omega)) hj (getElem?_eq_getElem (by omega))).length
theorem Rel.yV(R:Rel C g σ a w){x:Nat}{e:TypeId}{ks:List K}{xs:List (List D)}(hx:σ.obj x=some (.arx e ks xs)):mx w (.sl e ks) (g.hd x) (.sl xs) (g.fp x):=by
 obtain⟨vss,fps,h1,h2,h3,h4,h5,_,h6⟩:=R.wD hx
 exact⟨vss,fps,h1,h2,h3,h4,h5,h6⟩
theorem Rel.HE(R:Rel C g σ a w){x:Nat}{e:TypeId}{ks:List K}{xs:List (List D)}(hx:σ.obj x=some (.arx e ks xs)){i:Nat}(hi:i<xs.length):
 ∃b cap vs f,g.hd x= .slice (some ⟨b,0,none⟩) xs.length cap∧Row w b (i*ks.length) vs∧bj w ks vs (xs.getD i []) f:=by
 obtain⟨vss,fps,h1,h2,h3,h4,h5,hlen,h6⟩:=R.wD hx
 have hvi:vss[i]? =some vss[i]:=getElem?_eq_getElem (by omega)
 have hfi:fps[i]? =some fps[i]:=getElem?_eq_getElem (by omega)
 rcases be h1 with ⟨_,h0⟩|⟨b,cap,hh,hn,_⟩
 · omega
 · exact⟨b,cap,vss[i],fps[i],hh,hU h1 hlen (by rw[hh];rfl) hvi,h6 i _ _ _ (by simp[getD,hi]) hvi hfi⟩
theorem Au(R:Rel C g σ a w){x:Operand}{t:TypeId}(ho:o.op= .call { callee:=.builtin .len,args:= #[x],argTypes:= #[t] })(ht:(C.T t).ok=true){e':TypeId}(hs:(C.T t).sl=some e')
 {z:Nat} (hx:ev C.T t σ x= .one (.ref z none)) {e:TypeId} {ks:List K} {xs:List (List D)} (hz:σ.obj z=some (.arx e ks xs)):
 Did C a w o (.one (.dat (.int .i64) (.int xs.length))) σ:=by
 have hxr:=bG R t x
 rw[hx] at hxr
 have hv:aB (sur C g σ w) z none (a.eval x):=hxr.1
 unfold aB at hv
 simp only[sur,hz] at hv
 obtain⟨vss,fps,h1,hmax,_⟩:=R.wD hz
 have ex:∃ad cap,a.eval x= .slice ad xs.length cap:=by
  rw[hv]
  rcases be h1 with ⟨e1,h0⟩|⟨b,cap,e1,_,_⟩
  · exact⟨none,0,by rw[e1,h0]⟩
  · exact⟨_,cap,e1⟩
 obtain⟨ad,cap,ex⟩:=ex
 obtain⟨_,dt,_,_,ht2,_,_,_,_,h7⟩:=(C.tok t ht).ex
 have hd:∃e,dt= .slice e:=by
  cases dt with
  |slice e=>exact⟨e,rfl⟩
  |int k=>have:=h7.2.1;rw[hs] at this;simp at this
  |bool=>have:=h7.2.1;rw[hs] at this;simp at this
  |struct fs=>have:=h7.2.1;rw[hs] at this;simp at this
  |string=>have:=h7.2.1;rw[hs] at this;simp at this
  |_=>exact h7.elim
 obtain⟨e2,rfl⟩:=hd
 refine .quiet R (v:=.int .i64 xs.length) ?_ (dh ⟨rfl,kF hmax⟩)
 simp[execOp,ho,ex,resolve,invoke,builtin,Builtin.len_,run_underlying ht2,goInt]
theorem qc(R:Rel C g σ a w){t:TypeId}{x y:Operand}(ho:o.op= .indexAddr t x y)(ht:(C.T t).ok=true){e:TypeId}(he:(C.T t).sl=some e)(het:(C.T e).ok=true)
 {k:IntKind} {dn:D} (hy:(ev C.T 0 σ y).dn= .one (.dat (.int k) dn)) {z:Nat} (hx:ev C.T 0 σ x= .one (.ref z none)) {e':TypeId} {ks:List K} {xs:List (List D)}
 (hz:σ.obj z=some (.arx e' ks xs)) (hks:ks.length=(C.T e).ks.length) (h0:0<=dn.ZY) (h1:dn.ZY<xs.length):Did C a w o (.ptr z dn.ZY.toNat 0) σ:=by
 have hyr:=(bG R 0 y).dn
 rw[hy] at hyr
 obtain⟨hyv,_⟩:=intOf hyr
 have hxr:=bG R 0 x
 rw[hx] at hxr
 have hv:aB (sur C g σ w) z none (a.eval x):=hxr.1
 unfold aB at hv
 simp only[sur,hz] at hv
 obtain⟨b,cap,vs,f,hhd,_,_⟩:=R.HE hz (i:=dn.ZY.toNat) (by omega)
 refine .quiet R (lx ho (C.tok t ht) he (C.tok e het) hyv (hv.trans hhd) h0 (by omega) rfl) ?_
 show aV _ _ _ _ _
 unfold aV
 simp only[sur,hz]
 exact⟨b,_,cap,hhd,by rw[<-hks];simp⟩
theorem ri(R:Rel C g σ a w){t:TypeId}{x:Operand}(ho:o.op= .load t x)(ht:(C.T t).ok=true){y i j:Nat}(hx:ev C.T 0 σ x= .ptr y i j){e:TypeId}{ks:List K}
 {xs:List (List D)} (hy:σ.obj y=some (.arx e ks xs)) (hi:i<xs.length) (hagg:(C.T t).agg=false) {k:K} (hk:ks[j]? =some k):
 Did C a w o (match k with| .sl _ _=>.lod y i j|k=>.one (.dat k ((xs.getD i []).getD j default))) σ:=by
 have h:=bG R 0 x
 rw[hx] at h
 have h':aV (sur C g σ w) y i j (a.eval x):=h
 unfold aV at h'
 simp only[sur,hy] at h'
 obtain⟨b,n,cap,hb,ee⟩:=h'
 obtain⟨b',cap',vs,f,hb',hr,hc⟩:=R.HE hy hi
 rw[hb] at hb'
 simp only[Value.slice.injEq,Option.some.injEq,Addr.mk.injEq,and_true] at hb'
 obtain⟨rfl,_⟩:=hb'
 have hjl:=(List.getElem?_eq_some_iff.1 hk).1
 have hl1:(C.T t).ks.length=1:=by
  obtain⟨_,_,_,_,_,_,_,_,_,h7⟩:=(C.tok t ht).ex
  exact h7.one hagg
 have hvl:j<vs.length:=by rw[hc.length];exact hjl
 have hcell:w.cell? ⟨b,i*ks.length+j,none⟩=some vs[j]:=hr.get j _ (getElem?_eq_getElem hvl)
 have hrow:Row w b (i*ks.length+j) [vs[j]]:=⟨hcell,trivial⟩
 have hrun:=ld ho (C.tok t ht) ee hrow (by rw[hl1];rfl)
 rw[hagg] at hrun
 obtain⟨F1,F2,_,_,r2⟩:=bj.split j hc
 have hkd:ks.drop j=k::ks.drop (j+1):=by
  rw[List.drop_eq_getElem_cons hjl]
  rw[getElem?_eq_getElem hjl] at hk
  simp only[Option.some.injEq] at hk
  rw[hk]
 rw[hkd] at r2
 obtain⟨v,vs',f1,f2,ev,_,rc,_⟩:=r2
 have hv:v=vs[j]:=by
  rw[List.drop_eq_getElem_cons hvl] at ev
  simp only[List.cons.injEq] at ev
  exact ev.1.symm
 subst hv
 have hd:((xs.getD i []).drop j).headD default=(xs.getD i []).getD j default:=by
  simp[getD_eq_getElem?_getD,List.headD_eq_head?_getD]
 rw[hd] at rc
 refine .quiet R hrun ?_
 cases k with
 |sl e' ks'=>
  show cB _ _ _ _ _
  unfold cB
  simp only[sur,hy]
  exact⟨b,n,cap,hb,⟨e',ks',hk⟩,hcell⟩
 |int q=>exact dh ⟨rc.1,rc.2.1⟩
 |bool=>exact dh (show bV _ _ .bool _ _ from rc.1)
 |str=>exact dh ⟨rc.1,rc.2.1⟩
end
section
variable {C:Cx} {g:Gh} {σ:St} {a:Act} {w:World} {o:Oper}
theorem zA{α:Type}{l:List α}{p q:Nat}{v:α}(hp:p<l.length)(hq:q≠p):(l.take p++[v]++l.drop (p+1))[q]? =l[q]? :=by
 rcases lt_or_ge q p with h|h
 · rw[append_assoc,List.getElem?_append_left (by rw[length_take];omega),getElem?_take,if_pos h]
 · rw[List.getElem?_append_right (by simp only[length_append,length_take,length_singleton];omega),getElem?_drop]
   congr 1
   simp only[length_append,length_take,length_singleton]
   omega
theorem HZ{n i j i' j':Nat}(hj:j<n)(hj':j'<n)(h:j≠j'):i'*n+j'≠i*n+j:=by
 intro e
 rcases Nat.lt_trichotomy i i' with hi|hi|hi
 · have:(i+1)*n<=i'*n:=mul_le_mul_right _ hi
   rw[succ_mul] at this
   omega
 · subst hi;omega
 · have:(i'+1)*n<=i*n:=mul_le_mul_right _ hi
   rw[succ_mul] at this
   omega
theorem wS(R:Rel C g σ a w){t:TypeId}{x y:Operand}(ho:o.op= .store t x y)(ht:(C.T t).ok=true){k i j:Nat}(hx:ev C.T 0 σ x= .ptr k i j){e:TypeId}{ks:List K}
 {xs:List (List D)} (hk:σ.obj k=some (.arx e ks xs)) (hi:i<xs.length) (hrow:(xs.getD i []).length=ks.length) {kk:K} {d:D} (hy:ev C.T t σ y= .one (.dat kk d)) (hkk:ks[j]? =some kk) (hpl:kk.plain=true)
 (hagg:(C.T t).agg=false):
 Did C a w o .dead (σ.aU k (.arx e ks (xs.set i ((xs.getD i []).take j++[d]++(xs.getD i []).drop (j+1))))):=by
 have hp:=bG R 0 x
 rw[hx] at hp
 have hp':aV (sur C g σ w) k i j (a.eval x):=hp
 unfold aV at hp'
 simp only[sur,hk] at hp'
 obtain⟨b,n,cap,hb,ee⟩:=hp'
 have hr:=bG R t y
 rw[hy] at hr
 obtain⟨hrc,h1c⟩:=hr
 generalize hve:a.eval y=v' at hrc h1c
 have hrd:mx w kk v' d []:=by
  have hrc:bV w _ kk v' d:=hrc
  cases kk with
  |int q=>exact⟨hrc.1,hrc.2,rfl⟩
  |bool=>exact⟨hrc,rfl⟩
  |str=>exact⟨hrc.1,hrc.2,rfl⟩
  |sl _ _=>simp[K.plain] at hpl
 have hcv:v'.cells=[v'].toArray:=by cases v'<;>simp_all [Value.cells,Value.oneCell']
 obtain⟨vss,fps,h1,h2,h3,h4,h5,hlen,h6⟩:=R.wD hk
 have hjl:=(List.getElem?_eq_some_iff.1 hkk).1
 have hl1:(C.T t).ks.length=1:=by
  obtain⟨_,_,_,_,_,_,_,_,_,h7⟩:=(C.tok t ht).ex
  exact h7.one hagg
 have hrowi:xs[i]? =some (xs.getD i []):=by simp[getD,hi]
 have hvi:vss[i]? =some vss[i]:=getElem?_eq_getElem (by omega)
 have hfi:fps[i]? =some fps[i]:=getElem?_eq_getElem (by omega)
 have c2:=h6 i _ _ _ hrowi hvi hfi
 have hlvi:vss[i].length=ks.length:=hlen _ (mem_of_getElem? hvi)
 rcases h1.2 with ⟨e0,_⟩|⟨gb,cap',cur,ev,_,hcur,hncap,hcapm,hcs,htake⟩
 · rw[hb] at e0;cases e0
 rw[hb] at ev
 simp only[Value.slice.injEq,Option.some.injEq,Addr.mk.injEq,and_true,true_and] at ev
 obtain⟨rfl,rfl,rfl⟩:=ev
 have hilt:i*ks.length+ks.length<=xs.length*ks.length:=by
  rw[<-succ_mul];exact mul_le_mul_right _ hi
 have hcaplt:xs.length*ks.length<=cap*ks.length:=mul_le_mul_right _ hncap
 have hfit:i*ks.length+j+[v'].length<=cur.size:=by rw[hcs];simp only[length_singleton];omega
 have hrun:=ml (C:=C) ht hcur hcv (by rw[hl1];rfl) (p:=i*ks.length+j) hfit (fun u hu=>by simp only[mem_singleton] at hu;subst hu;exact h1c)
 let cells:=(cur.toList.take (i*ks.length+j)++[v']++cur.toList.drop (i*ks.length+j+[v'].length)).toArray
 have hbfp:b∈g.fp k:=R.Gj (by rw[hk];rfl) (by rw[hb];rfl)
 have hplt:i*ks.length+j<cur.toList.length:=by rw[length_toList (xs:=cur),hcs];omega
 have hnewown:(w.setRow b cells).ownsRow 0 e ks.length (.slice (some ⟨b,0,none⟩) xs.length cap) xs.length (vss.set i (vss[i].take j++[v']++vss[i].drop (j+[v'].length))).flatten:=by
  have hflat:vss.flatten.length=xs.length*ks.length:=by rw[bm hlen,h3]
  have hfs:=nG ks.length vss i vss[i] [v'] j hlen hvi (by simp only[length_singleton];omega)
  refine⟨?_,.inr ⟨b,cap,cells,rfl,zero_le _,setRow_heap w b cur cells e (0,0) hcur,hncap,hcapm,?_,?_⟩⟩
  · rw[hfs]
    simp only[length_append,length_take,length_drop,hflat,length_singleton]
    omega
  · simp only[cells,size_toArray,length_append,length_take,length_drop,length_toList,length_singleton]
    simp only[length_singleton] at hfit
    omega
  · rw[hfs]
    simp only[cells]
    have hc0:cur.toList=vss.flatten++cur.toList.drop (xs.length*ks.length):=by
     conv=>lhs;rw[<-take_append_drop (xs.length*ks.length) cur.toList,htake]
    rw[hc0]
    exact sW _ _ _ _ _ (by rw[hflat];simp only[length_singleton];omega) hflat
 have hbn:∀c,c∈fps.flatten->c≠b:=fun c hc e'=>by
  subst e'
  have:=R.own k
  rw[h5,hb] at this
  exact(nodup_append.1 this).2.2 c (by simp[Value.ownBlock]) c hc rfl
 have hisX:∀z,Ob.isX ((σ.aU k (.arx e ks (xs.set i ((xs.getD i []).take j++[d]++(xs.getD i []).drop (j+1))))).obj z)=Ob.isX (σ.obj z):=fun z=>by
  rw[St.ap]
  split
  · rename_i h;subst h;rw[hk];rfl
  · rfl
 have hlive:∀z,Ob.live ((σ.aU k (.arx e ks (xs.set i ((xs.getD i []).take j++[d]++(xs.getD i []).drop (j+1))))).obj z)=Ob.live (σ.obj z):=fun z=>by
  rw[St.ap]
  split
  · rename_i h;subst h;rw[hk];rfl
  · rfl
 have hkeep:Keeps w (Me C.M σ.obj g.hd g.fp) (w.setRow b cells) (Me C.M (σ.aU k (.arx e ks (xs.set i ((xs.getD i []).take j++[d]++(xs.getD i []).drop (j+1))))).obj g.hd g.fp):=by
  intro c p v hc hn
  have hcb:c≠b:=fun e'=>hn (.inr (.inr ⟨k,by rw[hk];rfl,e'▸hbfp⟩))
  refine⟨by rw[cell_setRow_other w b cells ⟨c,p,none⟩ hcb];exact hc,?_⟩
  rintro(hM|⟨z,hl,hz⟩|⟨z,hl,hz⟩)
  · exact hn (.inl hM)
  · rw[hlive] at hl;exact hn (.inr (.inl ⟨z,hl,hz⟩))
  · rw[hisX] at hl;exact hn (.inr (.inr ⟨z,hl,hz⟩))
 have hs:Shift (sur C g σ w) (sur C g (σ.aU k (.arx e ks (xs.set i ((xs.getD i []).take j++[d]++(xs.getD i []).drop (j+1))))) (w.setRow b cells)):=by
  refine⟨hkeep,fun z p v hr2=> ?_,fun z i' j' v hp2=> ?_,fun z i' j' v hl=> ?_,fun z o' hz=> ?_⟩
  · unfold aB at hr2⊢
    simp only[sur,St.ap] at hr2⊢
    by_cases hz:z=k
    · subst hz
      rw[if_pos rfl]
      rw[hk] at hr2
      exact hr2
    · rw[if_neg hz]
      cases he:σ.obj z with
      |none=>rw[he] at hr2;exact hr2
      |some q=>
       rw[he] at hr2
       cases q with
       |«sealed» _ _ _=>exact⟨hr2.1,hr2.2.keeps hkeep⟩
       |_=>exact hr2
  · unfold aV at hp2⊢
    simp only[sur,St.ap] at hp2⊢
    by_cases hz:z=k
    · subst hz
      rw[if_pos rfl]
      rw[hk] at hp2
      exact hp2
    · rw[if_neg hz];exact hp2
  · by_cases hz:z=k
    · subst hz
      unfold cB at hl⊢
      simp only[sur,St.ap,if_true,hk] at hl⊢
      obtain⟨b',n',cap',e1,⟨t',l',e2⟩,e3⟩:=hl
      refine⟨b',n',cap',e1,⟨t',l',e2⟩,?_⟩
      rw[hb] at e1
      simp only[Value.slice.injEq,Option.some.injEq,Addr.mk.injEq,and_true,true_and] at e1
      obtain⟨rfl,rfl,rfl⟩:=e1
      have hjj:j≠j':=fun h=>by
       subst h
       rw[hkk] at e2
       simp only[Option.some.injEq] at e2
       subst e2
       simp[K.plain] at hpl
      rw[cell_of_row w b _ cur e (0,0) hcur] at e3
      rw[cell_of_row (w.setRow b cells) b _ cells e (0,0) (setRow_heap w b cur cells e (0,0) hcur)]
      have e4:=zA (v:=v') hplt (HZ (i:=i) (i':=i') hjl (List.getElem?_eq_some_iff.1 e2).1 hjj)
      show(toArray _)[_]? =_
      rw[List.getElem?_toArray]
      exact e4.trans (by simpa using e3)
    · by_cases hX:Ob.isX (σ.obj z)=true
      · refine hl.keep (by simp only[sur,St.ap,if_neg hz]) rfl fun c p u hu hbz=> ?_
        show(w.setRow b cells).cell? _=_
        have hcb:c≠b:=fun e'=>R.apart z k hz c (R.Gj hX hbz) (e'▸hbfp)
        rw[cell_setRow_other w b cells ⟨c,p,none⟩ hcb];exact hu
      · unfold cB at hl⊢
        simp only[sur,St.ap,if_neg hz] at hl⊢
        cases hq:σ.obj z with
        |none=>rw[hq] at hl;exact hl
        |some q=>
         rw[hq] at hX
         cases q with
         |arx=>simp[Ob.isX] at hX
         |_=>trivial
  · by_cases hzk:z=k
    · subst hzk
      simp only[sur,hk,Option.some.injEq] at hz
      subst hz
      refine⟨_,by simp only[sur,St.ap,if_true];rfl,fun e1 k1 x1 he=> ?_⟩
      simp only[Ob.arx.injEq] at he
      obtain⟨rfl,rfl,_⟩:=he
      exact⟨⟨xs,rfl⟩,rfl⟩
    · exact⟨o',by simpa only[sur,St.ap,if_neg hzk] using hz,fun e1 k1 x1 he=>⟨⟨x1,he⟩,rfl⟩⟩
 refine⟨.skip,w.setRow b cells,g,?_,.inr ⟨rfl,rfl⟩,R.move rfl hs (fun z=> ?_) R.own R.apart (fun z c hc=>by rw[setRow_size];exact R.alw z c hc) ?_⟩
 · simp only[execOp,ho,ee,hve,Sem.run_bind,hrun,Result.andThen_ok,Sem.run_pure]
   rfl
 · by_cases hz:z=k
   · subst hz
     unfold bv
     simp only[sur,St.ap,if_true]
     have hother:∀c,c∈fps.flatten->(w.setRow b cells).heap[c]? =w.heap[c]? :=fun c hc=>setRow_other w b c cells (hbn c hc)
     refine⟨_,fps,by rw[length_set,hb];exact hnewown,by rw[length_set];exact h2,by rw[length_set,length_set];exact h3,by rw[length_set];exact h4,h5,fun q row vs f e1 e2 e3=> ?_⟩
     have hfm:∀c,c∈f->c∈fps.flatten:=fun c hc=>mem_flatten.2 ⟨f,mem_of_getElem? e3,hc⟩
     refine bj.keeps (w:=w) ?_ fun c hc=>hother c (hfm c hc)
     by_cases hq:q=i
     · subst hq
       rw[getElem?_set_self (by omega)] at e1 e2
       rw[hfi] at e3
       simp only[Option.some.injEq] at e1 e2 e3
       subst e1 e2 e3
       obtain⟨F1,F2,hF,r1,r2⟩:=bj.split j c2
       obtain⟨F3,F4,hF2,r3,r4⟩:=bj.split 1 r2
       have hkd:(ks.drop j).take 1=[kk]:=by
        rw[List.drop_eq_getElem_cons hjl]
        rw[getElem?_eq_getElem hjl] at hkk
        simp only[Option.some.injEq] at hkk
        rw[hkk];rfl
       have hF3:F3=[]:=by
        rw[hkd] at r3
        obtain⟨v,vs',f1,f2,_,e4,rc,rn⟩:=r3
        obtain⟨_,rfl⟩:=rn
        cases kk with
        |int q=>rw[e4,rc.2.2];rfl
        |bool=>rw[e4,rc.2];rfl
        |str=>rw[e4,rc.2.2];rfl
        |sl _ _=>simp[K.plain] at hpl
       have hkse:ks=ks.take j++[kk]++ks.drop (j+1):=by
        rw[<-hkd,append_assoc,<-drop_drop,take_append_drop,take_append_drop]
       have hl1':((xs.getD q []).take j).length=(ks.take j).length:=by rw[length_take,length_take,hrow]
       have hl2:((xs.getD q []).take j++[d]).length=(ks.take j++[kk]).length:=by
        simp only[length_append,length_take,hrow,length_singleton]
       have rd:bj w [kk] [v'] [d] []:=⟨v',[],[],[],rfl,rfl,hrd,rfl,rfl⟩
       have r4':bj w (ks.drop (j+1)) (vss[q].drop (j+[v'].length)) ((xs.getD q []).drop (j+1)) F4:=by
        simp only[length_singleton]
        rw[<-drop_drop,<-drop_drop,<-drop_drop];exact r4
       have:=bj.append hl2 (bj.append hl1' r1 rd) r4'
       rw[<-hkse] at this
       rw[hF,hF2,hF3]
       simpa using this
     · rw[List.getElem?_set_ne (fun h=>hq h.symm)] at e1 e2
       exact h6 q row vs f e1 e2 e3
   · refine(R.objs z).shift hs ?_ rfl rfl fun c hc=>setRow_other w b c cells fun e'=>R.apart z k hz c hc (e'▸hbfp)
     simp only[sur,St.ap,if_neg hz]
 · refine⟨R.fr.os,R.fr.tape,R.fr.output,by rw[setRow_size];exact R.fr.size,fun q hq hx=> ?_⟩
   rw[setRow_other w b q cells]
   · exact R.fr.block q hq hx
   · rintro rfl
     rcases(R.alw k q hbfp).1 with h|h
     · omega
     · exact hx h
end
end Go.Vx
namespace Go.Vx
open Go.RowKit (Below)
inductive Opn where
 |bin (op:BinOp) (k:IntKind)
 |eF (op:BinOp)
 |beq|bne|not|and
 |neg (k:IntKind)|wrap (k:IntKind)|shr (k:IntKind)
 |vn|iM|len|ssub|ite
 |row|fld (j:Nat)|mk|rput (j:Nat)
 |fT|lapp|cut|rows (m:Nat)|rep|map (f c:Nat)
 |le|lt|nz|eqi|strfit|appfit (bytes:Nat)|mkfit (bytes:Nat)|rowlen (n:Nat)
 |KT|subn|asl|ltlen|bstr
 |fn (f c:Nat)
 deriving DecidableEq,Inhabited
inductive E where
 |var (i:Nat)
 |int (n:Int)
 |bool (b:Bool)
 |str (s:ByteArray)
 |nl
 |op (o:Opn) (es:List E)
 deriving Inhabited
def D.row(d:D):List D:=d.ae.headD []
def D.n(d:D):Nat:=d.ZY.toNat
def lV(op:BinOp)(k:IntKind)(x y:Int):D:=match tH op k x y with
 |some (_,_,d)=>d
 |none=>default
def ze(op:BinOp)(x y:ByteArray):D:=match xr op x y with
 |some (_,_,d)=>d
 |none=>default
def bytesOf(xs:List (List D)):ByteArray:=strOfNums (xs.map fun r=>(r.headD default).ZY)
abbrev Fns:=Nat->Nat->List D->D
def opD(Φ:Fns):Opn->List D->D
 | .bin op k,ds=>lV op k (ds.getD 0 default).ZY (ds.getD 1 default).ZY
 | .eF op,ds=>ze op (ds.getD 0 default).ao (ds.getD 1 default).ao
 | .beq,ds=>.bool ((ds.getD 0 default).ZZ==(ds.getD 1 default).ZZ)
 | .bne,ds=>.bool ((ds.getD 0 default).ZZ != (ds.getD 1 default).ZZ)
 | .not,ds=>.bool (!(ds.getD 0 default).ZZ)
 | .and,ds=>.bool ((ds.getD 0 default).ZZ&&(ds.getD 1 default).ZZ)
 | .neg k,ds=>.int (k.wrap (0 - (ds.getD 0 default).ZY))
 | .wrap k,ds=>.int (k.wrap (ds.getD 0 default).ZY)
 | .shr k,ds=>.int ((ds.getD 0 default).ZY.fdiv (2^min (ds.getD 1 default).ZY.toNat k.bits))
 | .vn,ds=>.int ((ds.getD 0 default).ao.toList.getD (ds.getD 1 default).ZY.toNat 0).toNat
 | .iM,ds=>.int (ds.getD 0 default).ao.size
 | .len,ds=>.int (ds.getD 0 default).ae.length
 | .ssub,ds=>.str ((ds.getD 0 default).ao.extract (ds.getD 1 default).ZY.toNat (ds.getD 2 default).ZY.toNat)
 | .ite,ds=>if(ds.getD 0 default).ZZ=true then ds.getD 1 default else ds.getD 2 default
 | .row,ds=>.sl [(ds.getD 0 default).ae.getD (ds.getD 1 default).n []]
 | .fld j,ds=>(ds.getD 0 default).row.getD j default
 | .mk,ds=>.sl [ds]
 | .rput j,ds=>match ds with
   |[]=>.sl [[]]
   |d::ds=>.sl [d.row.take j++ds++d.row.drop (j+ds.length)]
 | .fT,ds=>.sl ((ds.getD 0 default).ae.set (ds.getD 1 default).n (ds.getD 2 default).row)
 | .lapp,ds=>.sl ((ds.getD 0 default).ae++(ds.getD 1 default).ae)
 | .cut,ds=>.sl (((ds.getD 0 default).ae.drop (ds.getD 1 default).n).take (ds.getD 2 default).n)
 | .rows m,ds=>.sl (chunk m (ds.length / m) ds)
 | .rep,ds=>.sl (replicate (ds.getD 0 default).n (ds.getD 1 default).row)
 | .map f c,ds=>.sl ((ds.getD 0 default).ae.map fun r=>(Φ f c (.sl [r]::ds.tail)).row)
 | .le,ds=>.bool (decide ((ds.getD 0 default).ZY<=(ds.getD 1 default).ZY))
 | .lt,ds=>.bool (decide ((ds.getD 0 default).ZY<(ds.getD 1 default).ZY))
 | .nz,ds=>.bool (decide ((ds.getD 0 default).ZY≠0))
 | .eqi,ds=>.bool (decide ((ds.getD 0 default).ZY=(ds.getD 1 default).ZY))
 | .strfit,ds=>.bool (decide ((ds.getD 0 default).ao.size+(ds.getD 1 default).ao.size<=al))
 | .appfit b,ds=>.bool (decide ((ds.getD 0 default).ae.length+(ds.getD 1 default).ae.length<=al∧((ds.getD 0 default).ae.length+(ds.getD 1 default).ae.length)*b<=140737488355328))
 | .mkfit b,ds=>.bool (decide (0<=(ds.getD 0 default).ZY∧(ds.getD 0 default).n<=al∧(ds.getD 0 default).n*b<=140737488355328))
 | .rowlen n,ds=>.bool (decide ((ds.getD 0 default).row.length=n))
 | .KT,ds=>.int ((ds.getD 0 default).n+(ds.getD 1 default).n:Nat)
 | .subn,ds=>.int ((ds.getD 0 default).n - (ds.getD 1 default).n:Nat)
 | .asl,ds=>.sl (ds.getD 0 default).ae
 | .ltlen,ds=>.bool (decide ((ds.getD 0 default).n<(ds.getD 1 default).ae.length))
 | .bstr,ds=>.str (bytesOf (ds.getD 0 default).ae)
 | .fn f c,ds=>Φ f c ds
mutual
def E.den(Φ:Fns)(env:List D):E->D
 | .var i=>env.getD i default
 | .int n=>.int n
 | .bool b=>.bool b
 | .str s=>.str s
 | .nl=>.sl []
 | .op o es=>opD Φ o (E.bC Φ env es)
def E.bC(Φ:Fns)(env:List D):List E->List D
 |[]=>[]
 |e::es=>e.den Φ env::E.bC Φ env es
end
theorem E.ck(Φ:Fns)(env:List D):∀es:List E,E.bC Φ env es=es.map (E.den Φ env)
 |[]=>rfl
 |e::es=>by rw[E.bC,E.ck Φ env es];rfl
mutual
def E.eqb:E->E->Bool
 | .var i,.var j=>i==j
 | .int n,.int m=>n==m
 | .bool b,.bool c=>b==c
 | .str s,.str t=>decide (s=t)
 | .nl,.nl=>true
 | .op o es,.op p fs=>decide (o=p)&&E.ct es fs
 |_,_=>false
def E.ct:List E->List E->Bool
 |[],[]=>true
 |e::es,f::fs=>E.eqb e f&&E.ct es fs
 |_,_=>false
end
mutual
theorem E.aY:∀{e f:E},E.eqb e f=true->e=f
 | .var i,f,h=>by cases f<;>simp_all [E.eqb]
 | .int i,f,h=>by cases f<;>simp_all [E.eqb]
 | .bool i,f,h=>by cases f<;>simp_all [E.eqb]
 | .str i,f,h=>by cases f<;>simp_all [E.eqb]
 | .nl,f,h=>by cases f<;>simp_all [E.eqb]
 | .op o es,f,h=>by
   cases f<;>simp only[E.eqb,false_eq_true,and_eq_true,decide_eq_true_eq] at h
   obtain⟨rfl,h⟩:=h
   rw[E.bp h]
theorem E.bp:∀{es fs:List E},E.ct es fs=true->es=fs
 |[],fs,h=>by cases fs<;>simp_all [E.ct]
 |e::es,fs,h=>by
  cases fs with
  |nil=>simp[E.ct] at h
  |cons f fs=>
   simp only[E.ct,and_eq_true] at h
   rw[E.aY h.1,E.bp h.2]
end
inductive SC where
 |dat (k:K) (e:E)
 |nil (t:TypeId) (ks:List K)
 |ref (key:Nat) (part:Option (E×E))
 |dead
 deriving Inhabited
inductive SV where
 |one (c:SC)
 |agg (cs:List SC)
 |ptr (key:Nat) (i:E) (j:Nat)
 |pim (ks:List K) (e:E) (off:Nat)
 |tup (vs:List SV)
 |whn (c:E) (v:SV)
 |lod (key:Nat) (i:E) (j:Nat)
 |dead
 deriving Inhabited
inductive SOb where
 |box (T:TypeId) (cs:List SC)
 |arr (e:TypeId) (ks:List K) (deep:Bool) (xs:E)
 |sealed (e:TypeId) (ks:List K) (xs:E)
 |gone
 |arx (e:TypeId) (ks:List K) (xs:E)
 deriving Inhabited
structure SSt where
 tmps:List SV
 objs:List (Nat×SOb)
 deriving Inhabited
section
variable (Φ:Fns) (env:List D)
def jK:Option (E×E)->Option (Nat×Nat)
 |some (a,b)=>some ((a.den Φ env).n,(b.den Φ env).n)
 |none=>none
def SC.den:SC->AC
 | .dat k e=>.dat k (e.den Φ env)
 | .nil t ks=>.nil t ks
 | .ref x p=>.ref x (jK Φ env p)
 | .dead=>.dead
mutual
def SV.den:SV->AV
 | .one c=>.one (c.den Φ env)
 | .agg cs=>.agg (cs.map (SC.den Φ env))
 | .ptr x i j=>.ptr x (i.den Φ env).n j
 | .pim ks e off=>.pim ks ((e.den Φ env).row.drop off)
 | .tup vs=>.tup (SV.bC vs)
 | .whn c v=>.whn (c.den Φ env).ZZ v.den
 | .lod x i j=>.lod x (i.den Φ env).n j
 | .dead=>.dead
def SV.bC:List SV->List AV
 |[]=>[]
 |v::vs=>v.den::SV.bC vs
end
theorem SV.ck:∀vs:List SV,SV.bC Φ env vs=vs.map (SV.den Φ env)
 |[]=>rfl
 |v::vs=>by rw[SV.bC,SV.ck vs];rfl
def SOb.den:SOb->Ob
 | .box T cs=>.box T (cs.map (SC.den Φ env))
 | .arr e ks dp xs=>.arr e ks dp (xs.den Φ env).ae
 | .sealed e ks xs=>.sealed e ks (xs.den Φ env).ae
 | .gone=>.gone
 | .arx e ks xs=>.arx e ks (xs.den Φ env).ae
def SSt.den(s:SSt):St:=⟨s.tmps.map (SV.den Φ env),s.objs.map fun p=>(p.1,p.2.den Φ env)⟩
end
def cI(x:Nat):List (Nat×SOb)->Option SOb
 |[]=>none
 |(y,o)::l=>bif x==y then some o else cI x l
def jO(x:Nat):List (Nat×SOb)->List (Nat×SOb)
 |[]=>[]
 |(y,o)::l=>bif x==y then jO x l else(y,o)::jO x l
def SSt.tmp(s:SSt)(t:Nat):SV:=s.tmps.getD t .dead
def SSt.obj(s:SSt)(x:Nat):Option SOb:=cI x s.objs
def SSt.ew(s:SSt)(t:Nat)(v:SV):SSt:={ s with tmps:=s.tmps.set t v }
def SSt.aU(s:SSt)(x:Nat)(o:SOb):SSt:={ s with objs:=(x,o)::jO x s.objs }
def SSt.Rf(s:SSt)(x:Nat):SSt:={ s with objs:=jO x s.objs }
section
variable {Φ:Fns} {env:List D}
@[simp] theorem SSt.fx (s:SSt) (t:Nat):(s.den Φ env).tmp t=(s.tmp t).den Φ env:=by
 simp only[SSt.den,St.tmp,SSt.tmp,getD_eq_getElem?_getD,getElem?_map]
 cases s.tmps[t]? <;>rfl
theorem ym(x:Nat):∀l:List (Nat×SOb),look x (l.map fun p=>(p.1,p.2.den Φ env))=(cI x l).map (SOb.den Φ env)
 |[]=>rfl
 |(y,o)::l=>by
  by_cases h:x=y
  · subst h;simp[look,cI]
  · have:(x==y)=false:=by simpa using h
    simp[look,cI,h,this,ym x l]
@[simp] theorem SSt.eL (s:SSt) (x:Nat):(s.den Φ env).obj x=(s.obj x).map (SOb.den Φ env):=ym x s.objs
theorem rT(x:Nat):∀l:List (Nat×SOb),drop' x (l.map fun p=>(p.1,p.2.den Φ env))=(jO x l).map fun p=>(p.1,p.2.den Φ env)
 |[]=>rfl
 |(y,o)::l=>by
  by_cases h:x=y
  · subst h;simp[drop',jO,rT x l]
  · have:(x==y)=false:=by simpa using h
    simp[drop',jO,h,this,rT x l]
theorem SSt.bK(s:SSt)(x:Nat)(o:SOb):(s.aU x o).den Φ env=(s.den Φ env).aU x (o.den Φ env):=by
 simp[SSt.den,SSt.aU,St.aU,rT]
theorem SSt.eD(s:SSt)(t:Nat)(v:SV):(s.ew t v).den Φ env=(s.den Φ env).ew t (v.den Φ env):=by
 simp[SSt.den,SSt.ew,St.ew,List.map_set]
end
def scv(T:TypeId->TI)(ty:TypeId):Value->SV
 | .int k n=>bif E9 k n then .one (.dat (.int k) (.int n)) else .dead
 | .bool b=>.one (.dat .bool (.bool b))
 | .string s=>bif decide (s.size<=1048576) then .one (.dat .str (.str s)) else .dead
 | .slice none 0 0=>match(T ty).ks with|[.sl e ks]=>.one (.nil e ks)|_=>.dead
 |_=>.dead
def sev(T:TypeId->TI)(ty:TypeId)(s:SSt):Operand->SV
 | .tmp t=>s.tmp t
 | .const v=>scv T ty v
 |_=>.dead
def SC.dn:SC->SC
 | .nil e ks=>.dat (.sl e ks) .nl
 |c=>c
def SV.dn:SV->SV
 | .one c=>.one c.dn
 |v=>v
def SV.conds:SV->List E
 | .whn b v=>b::v.conds
 |_=>[]
def SV.core:SV->SV
 | .whn _ v=>v.core
 |v=>v
section
variable {Φ:Fns} {env:List D}
theorem J0(T:TypeId->TI)(ty:TypeId)(v:Value):(scv T ty v).den Φ env=cv T ty v:=by
 cases v with
 |int k n=>by_cases h:E9 k n=true<;>simp[scv,cv,h,SV.den,SC.den,E.den]
 |bool b=>rfl
 |string s=>by_cases h:s.size<=1048576<;>simp[scv,cv,h,SV.den,SC.den,E.den]
 |slice a n cap=>
  cases a with
  |some a=>rfl
  |none=>
   cases n with
   |succ n=>rfl
   |zero=>
    cases cap with
    |succ n=>rfl
    |zero=>
     simp only[scv,cv]
     generalize (T ty).ks=l
     rcases l with _|⟨k,_|⟨k2,l⟩⟩
     · rfl
     · cases k<;>rfl
     · cases k<;>rfl
 |_=>rfl
theorem gj(T:TypeId->TI)(ty:TypeId)(s:SSt)(x:Operand):(sev T ty s x).den Φ env=ev T ty (s.den Φ env) x:=by
 cases x with
 |tmp t=>simp[sev,ev]
 |const v=>exact J0 T ty v
 |_=>rfl
theorem SC.Cm(c:SC):c.dn.den Φ env=(c.den Φ env).dn:=by cases c<;>rfl
theorem SV.Cm(v:SV):v.dn.den Φ env=(v.den Φ env).dn:=by
 cases v with
 |one c=>simp[SV.dn,SV.den,AV.dn,SC.Cm]
 |_=>rfl
theorem SV.np:∀v:SV,v.core.den Φ env=(v.den Φ env).core
 | .whn c v=>by simp only[SV.core,SV.den,AV.core];exact SV.np v
 | .one _=>rfl
 | .agg _=>rfl
 | .ptr _ _ _=>rfl
 | .pim _ _ _=>rfl
 | .tup _=>rfl
 | .lod _ _ _=>rfl
 | .dead=>rfl
theorem SV.l5:∀v:SV,(v.den Φ env).conds=v.conds.map fun c=>(c.den Φ env).ZZ
 | .whn c v=>by simp only[SV.conds,SV.den,AV.conds,map_cons];rw[SV.l5 v]
 | .one _=>rfl
 | .agg _=>rfl
 | .ptr _ _ _=>rfl
 | .pim _ _ _=>rfl
 | .tup _=>rfl
 | .lod _ _ _=>rfl
 | .dead=>rfl
theorem bQ{T:TypeId->TI}{ty:TypeId}{s:SSt}{x:Operand}{k:K}{e:E}(h:(sev T ty s x).dn= .one (.dat k e)):(ev T ty (s.den Φ env) x).dn= .one (.dat k (e.den Φ env)):=by
 rw[<-gj (Φ:=Φ) (env:=env),<-SV.Cm,h];rfl
theorem cd{T:TypeId->TI}{ty:TypeId}{s:SSt}{x:Operand}{v:SV}(h:sev T ty s x=v):ev T ty (s.den Φ env) x=v.den Φ env:=by
 rw[<-gj (Φ:=Φ) (env:=env),h]
theorem aT{s:SSt}{x:Nat}{o:SOb}(h:s.obj x=some o):(s.den Φ env).obj x=some (o.den Φ env):=by
 rw[SSt.eL,h];rfl
end
end Go.Vx
namespace Go.Vx
open Go.RowKit (Below)
structure Res where
 cs:List E
 v:SV
 upd:List (Nat×SOb)
 deriving Inhabited
def SSt.bg(s:SSt):List (Nat×SOb)->SSt
 |[]=>s
 |(x,o)::l=>(s.aU x o).bg l
def lU:List K->E->Nat->List SC
 |[],_,_=>[]
 |k::ks,e,j=>.dat k (.op (.fld j) [e])::lU ks e (j+1)
def Fq(agg:Bool)(cs:List SC):SV:=bif agg then .agg cs else match cs with|[c]=>.one c|_=>.dead
def GW:Option SOb->Bool
 |some (.box ..)=>true
 |some (.arr ..)=>true
 |some (.arx ..)=>true
 |_=>false
def Nz(op:BinOp)(k:IntKind):Option K:=match op with
 | .add| .sub| .mul| .quo| .rem| .and| .or| .xor=>some (.int k)
 | .eql| .neq| .lss| .leq| .gtr| .geq=>some .bool
 |_=>none
def NY(op:BinOp)(b:E):List E:=match op with
 | .quo| .rem=>[.op .nz [b]]
 |_=>[]
def Ph(op:BinOp):Option K:=match op with
 | .add=>some .str
 | .eql| .neq| .lss| .geq=>some .bool
 |_=>none
def Np(op:BinOp)(a b:E):List E:=match op with
 | .add=>[.op .strfit [a,b]]
 |_=>[]
def zD(xs:E):Option (E×E)->E
 |none=>.op .len [xs]
 |some (_,l)=>.op .KT [l,.int 0]
def I2(p:Option (E×E))(i:E):E:=match p with
 |none=>i
 |some (o,_)=>.op .KT [o,i]
def rp(xs:E)(p:Option (E×E)):E:=match p with
 |none=>.op .asl [xs]
 |some (o,l)=>.op .cut [xs,o,l]
def tV(T:TypeId->TI)(s:SSt)(dflt:E):Option Operand->Option E
 |none=>some dflt
 |some x=>match(sev T 0 s x).dn with
  | .one (.dat (.int _) e)=>some e
  |_=>none
def gu(xs i:E):E×E:=match xs with
 | .op .fT [X,i',R]=>bif E.eqb i i' then(X,R) else(xs,.op .row [xs,i])
 |_=>(xs,.op .row [xs,i])
def rp1:E->Option (Nat×E×E)
 | .op (.rput j) [R,d]=>some (j,R,d)
 |_=>none
def ls1:E->Option E
 | .op .fT [X,_,_]=>some X
 |_=>none
def nF:Nat->E->E
 |0,R=>R
 |f+1,R=>match rp1 R with
  |some (_,R',_)=>nF f R'
  |none=>R
def okR(n:Nat):Nat->E->Bool
 |0,_=>true
 |f+1,R=>match rp1 R with
  |some (j,R',_)=>Nat.blt j n&&okR n f R'
  |none=>true
def An(j:Nat):Nat->E->E
 |0,R=>.op (.fld j) [R]
 |f+1,R=>match rp1 R with
  |some (j',R',d)=>bif j==j' then d else An j f R'
  |none=>.op (.fld j) [R]
def C8:Nat->E->E
 |0,X=>.op .len [X]
 |f+1,X=>match ls1 X with
  |some X'=>C8 f X'
  |none=>.op .len [X]
theorem Ie{R R' d:E}{j:Nat}(h:rp1 R=some (j,R',d)):R= .op (.rput j) [R',d]:=by
 unfold rp1 at h
 split at h
 · simp only[Option.some.injEq,Prod.mk.injEq] at h
   obtain⟨rfl,rfl,rfl⟩:=h
   rfl
 · cases h
theorem Pd{X X':E}(h:ls1 X=some X'):∃i R,X= .op .fT [X',i,R]:=by
 unfold ls1 at h
 split at h
 · simp only[Option.some.injEq] at h
   subst h
   exact⟨_,_,rfl⟩
 · cases h
section
variable {Φ:Fns} {env:List D}
theorem uk(xs i:E)(h:(i.den Φ env).n<((gu xs i).1.den Φ env).ae.length):((gu xs i).1.den Φ env).ae.length=(xs.den Φ env).ae.length∧
 ((gu xs i).2.den Φ env).row=(xs.den Φ env).ae.getD (i.den Φ env).n []∧∀r,((gu xs i).1.den Φ env).ae.set (i.den Φ env).n r=(xs.den Φ env).ae.set (i.den Φ env).n r:=by
 have base:∀(h:(i.den Φ env).n<(xs.den Φ env).ae.length),((E.op .row [xs,i]).den Φ env).row=(xs.den Φ env).ae.getD (i.den Φ env).n []:=fun h=>by
  simp only[E.den,E.bC,opD,getD_cons_zero,getD_cons_succ,D.row,D.aQ,headD_cons]
 unfold gu at h⊢
 split
 · rename_i X i' R
   simp only at h
   cases hi:E.eqb i i' with
   |true=>
    rw[hi] at h
    simp only[cond_true] at h⊢
    have e1:=E.aY hi
    subst e1
    simp only[E.den,E.bC,opD,getD_cons_zero,getD_cons_succ,D.aQ,length_set,List.set_set,true_and,implies_true,and_true]
    simp[getD_eq_getElem?_getD,h]
   |false=>
    rw[hi] at h
    simp only[cond_false] at h⊢
    exact⟨trivial,base h,fun _=>trivial⟩
 · rename_i hne
   split at h
   · exact absurd rfl (hne _ _ _)
   · exact⟨rfl,base h,fun _=>rfl⟩
theorem y0{n:Nat}:∀(f:Nat)(R:E),okR n f R=true->((nF f R).den Φ env).row.length=n->(R.den Φ env).row.length=n:=by
 intro f
 induction f with
 |zero=>intro R _ h;exact h
 |succ f ih=>
  intro R h1 h2
  unfold okR at h1
  unfold nF at h2
  cases hr:rp1 R with
  |none=>rw[hr] at h2;exact h2
  |some q=>
   obtain⟨j,R',d⟩:=q
   rw[hr] at h1 h2
   simp only[and_eq_true] at h1
   have hj:j<n:=le_of_ble_eq_true h1.1
   have:=ih R' h1.2 h2
   rw[Ie hr]
   simp only[E.den,E.bC,opD,D.row,D.aQ,headD_cons,length_append,length_take,length_drop,length_singleton]
   unfold D.row at this
   omega
theorem Et{n j:Nat}:∀(f:Nat)(R:E),okR n f R=true->((nF f R).den Φ env).row.length=n->(An j f R).den Φ env=(R.den Φ env).row.getD j default:=by
 intro f
 induction f with
 |zero=>intro R _ h;simp[An,E.den,E.bC,opD]
 |succ f ih=>
  intro R h1 h2
  unfold An
  unfold okR at h1
  unfold nF at h2
  cases hr:rp1 R with
  |none=>simp[E.den,E.bC,opD]
  |some q=>
   obtain⟨j',R',d⟩:=q
   rw[hr] at h1 h2
   simp only[and_eq_true] at h1
   simp only at h2⊢
   have hj:j'<n:=le_of_ble_eq_true h1.1
   have hl:=y0 (Φ:=Φ) (env:=env) _ R' h1.2 h2
   have hi:=ih R' h1.2 h2
   rw[Ie hr]
   simp only[E.den,E.bC,opD,D.row,D.aQ,headD_cons]
   unfold D.row at hl
   by_cases hjj:j=j'
   · subst hjj
     simp only[BEq.rfl,cond_true,getD_eq_getElem?_getD]
     rw[append_assoc,List.getElem?_append_right (by rw[length_take];omega),length_take,show j - min j _=0 by omega]
     rfl
   · have:(j==j')=false:=by simpa using hjj
     rw[this,cond_false,hi]
     unfold D.row
     simp only[getD_eq_getElem?_getD]
     congr 1
     rcases lt_or_ge j j' with hlt|hge
     · rw[append_assoc,List.getElem?_append_left (by rw[length_take];omega),getElem?_take,if_pos hlt]
     · rw[List.getElem?_append_right (by simp only[length_append,length_take,length_singleton];omega),getElem?_drop]
       congr 1
       simp only[length_append,length_take,length_singleton]
       omega
theorem E4:∀(f:Nat)(X:E),(C8 f X).den Φ env= .int (X.den Φ env).ae.length:=by
 intro f
 induction f with
 |zero=>intro X;simp[C8,E.den,E.bC,opD]
 |succ f ih=>
  intro X
  unfold C8
  cases hx:ls1 X with
  |none=>simp[E.den,E.bC,opD]
  |some X'=>
   simp only
   rw[ih]
   obtain⟨i,R,rfl⟩:=Pd hx
   simp[E.den,E.bC,opD]
end
def xv(T:TypeId->TI)(s:SSt)(t:TypeId)(x:Operand):Option Res:=
 bif (T t).ok then match sev T 0 s x with
  | .pim ks e off=>bif Nat.ble (T t).ks.length ks.length then some ⟨[],Fq (T t).agg (lU (ks.take (T t).ks.length) e off),[]⟩ else none
  | .ptr y i j=>match s.obj y with
    |some (.box _ cs)=>bif Nat.ble (j+(T t).ks.length) cs.length then some ⟨[],Fq (T t).agg ((cs.drop j).take (T t).ks.length),[]⟩ else none
    |some (.arr _ ks _ xs)=>bif Nat.ble (j+(T t).ks.length) ks.length then some ⟨[.op .ltlen [i,xs]],Fq (T t).agg (lU ((ks.drop j).take (T t).ks.length) (.op .row [xs,i]) j),[]⟩ else none
    |some (.arx _ ks xs)=>bif !(T t).agg&&okR ks.length 64 (gu xs i).2 then match ks[j]? with
     |some (.sl _ _)=>some ⟨[.op .ltlen [i,(gu xs i).1]],.lod y i j,[]⟩
     |some k=>some ⟨[.op .ltlen [i,(gu xs i).1],.op (.rowlen ks.length) [nF 64 (gu xs i).2]],.one (.dat k (An j 64 (gu xs i).2)),[]⟩
     |none=>none
     else none
    |_=>none
  |_=>none
 else none
def jf(T:TypeId->TI)(s:SSt)(st:TypeId)(x:Operand)(f:Nat):Option Res:=
 match(T st).gI[f]? with
 |some (off,ft)=>bif (T st).ok&&((T st).agg&&((T ft).ok&& !((T ft).ks.length==0))) then match sev T 0 s x with
   | .ptr y i j=>bif GW (s.obj y) then some ⟨[],.ptr y i (j+off),[]⟩ else none
   | .pim ks e o=>some ⟨[],.pim (ks.drop off) e (o+off),[]⟩
   |_=>none
  else none
 |none=>none
def ja(T:TypeId->TI)(s:SSt)(t:TypeId)(x y:Operand):Option Res:=
 match(T t).sl with
 |some e=>bif (T t).ok&&(T e).ok then match(sev T 0 s y).dn with
   | .one (.dat (.int _) i)=>match sev T 0 s x with
     | .one (.ref z p)=>match s.obj z with
       |some (.arr _ ks _ xs)=>bif ks.length==(T e).ks.length then some ⟨[.op .le [.int 0,i],.op .lt [i,zD xs p]],.ptr z (I2 p i) 0,[]⟩ else none
       |some (.arx _ ks xs)=>bif p.isNone&&ks.length==(T e).ks.length then some ⟨[.op .le [.int 0,i],.op .lt [i,C8 64 xs]],.ptr z i 0,[]⟩ else none
       |_=>none
     |v=>match v.dn with
      | .one (.dat (.sl _ ks) d)=>bif ks.length==(T e).ks.length then some ⟨[.op .le [.int 0,i],.op .lt [i,.op .len [d]]],.pim ks (.op .row [d,i]) 0,[]⟩ else none
      |_=>none
   |_=>none
  else none
 |none=>none
def F6(T:TypeId->TI)(s:SSt)(op:BinOp)(t:TypeId)(x y:Operand)(u:TypeId):Option Res:=
 match(sev T t s x).dn,(sev T u s y).dn with
 | .one (.dat (.int k) a),.one (.dat (.int k') b)=>
   match op with
   | .shr=>some ⟨[.op .le [.int 0,b]],.one (.dat (.int k) (.op (.shr k) [a,b])),[]⟩
   |op=>bif decide (k=k') then match Nz op k with
    |some kk=>some ⟨NY op b,.one (.dat kk (.op (.bin op k) [a,b])),[]⟩
    |none=>none
    else none
 | .one (.dat .str a),.one (.dat .str b)=>match Ph op with
   |some kk=>some ⟨Np op a b,.one (.dat kk (.op (.eF op) [a,b])),[]⟩
   |none=>none
 | .one (.dat .bool a),.one (.dat .bool b)=>
   bif (T t).ok&& !(T t).agg then match(T t).ks with
    |[.bool]=>match op with
     | .eql=>some ⟨[],.one (.dat .bool (.op .beq [a,b])),[]⟩
     | .neq=>some ⟨[],.one (.dat .bool (.op .bne [a,b])),[]⟩
     |_=>none
    |_=>none
   else none
 |_,_=>none
section
variable {Φ:Fns} {env:List D} {C:Cx} {g:Gh} {s:SSt} {a:Act} {w:World} {o:Oper}
abbrev holds(Φ:Fns)(env:List D)(cs:List E):Prop:=∀c∈cs,(c.den Φ env).ZZ=true
theorem ak{α:Type}{b:Bool}{x:Option α}{r:α}(h:(bif b then x else none)=some r):b=true∧x=some r:=by
 cases b<;>simp_all
theorem pp{α:Type}(l:List α)(j:Nat)(d:α):l.getD j d=(l.drop j).headD d:=by
 simp[getD_eq_getElem?_getD,List.headD_eq_head?_getD]
theorem kb:∀(ks:List K)(e:E)(j:Nat),(lU ks e j).map (SC.den Φ env)=tR ks ((e.den Φ env).row.drop j)
 |[],_,_=>rfl
 |k::ks,e,j=>by
  simp only[lU,map_cons,tR,SC.den,E.den,opD,E.bC]
  rw[kb ks e (j+1),List.tail_drop,<-pp]
  rfl
theorem nk(agg:Bool)(cs:List SC):(Fq agg cs).den Φ env=mkA agg (cs.map (SC.den Φ env)):=by
 cases agg with
 |true=>rfl
 |false=>
  rcases cs with _|⟨c,_|⟨d,cs⟩⟩<;>rfl
theorem ye(s:SSt)(y:Nat):Ob.held ((s.den Φ env).obj y)=GW (s.obj y):=by
 rw[SSt.eL]
 cases s.obj y with
 |none=>rfl
 |some o=>cases o<;>rfl
theorem ni(xs:E)(p:Option (E×E)):(zD xs p).den Φ env= .int (cn (xs.den Φ env).ae (jK Φ env p)):=by
 cases p with
 |none=>rfl
 |some q=>obtain⟨o,l⟩:=q;simp[zD,E.den,E.bC,opD,jK,cn,D.n,D.ZY]
theorem Bl(p:Option (E×E))(i:E):((I2 p i).den Φ env).n=cC (jK Φ env p)+(i.den Φ env).ZY.toNat:=by
 cases p with
 |none=>simp[I2,jK,cC,D.n]
 |some q=>obtain⟨o,l⟩:=q;exact Int.toNat_natCast _
theorem eV(xs:E)(p:Option (E×E)):(rp xs p).den Φ env= .sl (cut (xs.den Φ env).ae (jK Φ env p)):=by
 cases p with
 |none=>rfl
 |some q=>obtain⟨o,l⟩:=q;rfl
def Good(Φ:Fns)(env:List D)(C:Cx)(s:SSt)(a:Act)(w:World)(o:Oper)(r:Res):Prop:=
 holds Φ env r.cs->Did C a w o (r.v.den Φ env) ((s.bg r.upd).den Φ env)
theorem xS(R:Rel C g (s.den Φ env) a w)(x:Operand)(ho:o.op= .move x∨o.op= .assign x):Good Φ env C s a w o ⟨[],sev C.T o.type s x,[]⟩:=fun _=>by
 have:=Jz R x ho
 rwa[<-gj] at this
theorem Gu(R:Rel C g (s.den Φ env) a w){t:TypeId}{x:Operand}(ho:o.op= .load t x){r:Res}(h:xv C.T s t x=some r):Good Φ env C s a w o r:=fun hc=>by
 unfold xv at h
 obtain⟨ht,h⟩:=ak h
 split at h
 · rename_i ks e off hx
   obtain⟨h1,h⟩:=ak h
   simp only[Option.some.injEq] at h
   subst h
   have:=y8 R ho ht (cd hx) (le_of_ble_eq_true h1)
   simpa[nk,kb,SSt.bg] using this
 · rename_i y i j hx
   split at h
   · rename_i T cs hy
     obtain⟨h1,h⟩:=ak h
     simp only[Option.some.injEq] at h
     subst h
     have:=zq R ho ht (cd hx) (aT hy) (by simpa using le_of_ble_eq_true h1)
     simpa[nk,SSt.bg,List.map_take,List.map_drop] using this
   · rename_i e ks dp xs hy
     obtain⟨h1,h⟩:=ak h
     simp only[Option.some.injEq] at h
     subst h
     have hi:=hc _ (mem_singleton.2 rfl)
     simp only[E.den,E.bC,opD,D.ZZ,decide_eq_true_eq] at hi
     have:=yU R ho ht (cd hx) (aT hy) (by simpa using hi) (le_of_ble_eq_true h1)
     simpa[nk,kb,SSt.bg,E.den,E.bC,opD,D.row,D.ae] using this
   · rename_i e ks xs hy
     obtain⟨hagg,h⟩:=ak h
     simp only[and_eq_true,not_eq_true'] at hagg
     split at h
     · rename_i e' ks' hk
       simp only[Option.some.injEq] at h
       subst h
       have hi:=hc _ (mem_singleton.2 rfl)
       simp only[E.den,E.bC,opD,D.ZZ,decide_eq_true_eq,getD_cons_zero,getD_cons_succ] at hi
       have hx1:=uk (Φ:=Φ) (env:=env) xs i hi
       exact ri R ho ht (cd hx) (aT hy) (by rw[<-hx1.1];exact hi) hagg.1 hk
     · rename_i k hk hne
       simp only[Option.some.injEq] at h
       subst h
       have hi:=hc (.op .ltlen [i,(gu xs i).1]) (by simp)
       have hl:=hc (.op (.rowlen ks.length) [nF 64 (gu xs i).2]) (by simp)
       simp only[E.den,E.bC,opD,D.ZZ,decide_eq_true_eq,getD_cons_zero,getD_cons_succ] at hi hl
       have hx1:=uk (Φ:=Φ) (env:=env) xs i hi
       have:=ri R ho ht (cd hx) (aT hy) (by rw[<-hx1.1];exact hi) hagg.1 hne
       have hf:=Et (Φ:=Φ) (env:=env) (j:=j) 64 (gu xs i).2 hagg.2 hl
       rw[hx1.2.1] at hf
       cases k with
       |sl e' ks'=>exact absurd rfl (hk e' ks')
       |_=>simpa[SV.den,SC.den,SSt.bg,hf] using this
     · cases h
   · cases h
 · cases h
theorem vU(R:Rel C g (s.den Φ env) a w){st:TypeId}{x:Operand}{f:Nat}(ho:o.op= .fieldAddr st x f){r:Res}(h:jf C.T s st x f=some r):Good Φ env C s a w o r:=fun hc=>by
 unfold jf at h
 split at h
 · rename_i off ft hf
   obtain⟨h1,h⟩:=ak h
   simp only[and_eq_true,not_eq_true',beq_eq_false_iff_ne,ne_eq] at h1
   obtain⟨q1,q2,q3,q4⟩:=h1
   split at h
   · rename_i y i j hx
     obtain⟨h1,h⟩:=ak h
     simp only[Option.some.injEq] at h
     subst h
     exact rl R ho q1 hf q2 q3 q4 (cd hx) (by rw[ye];exact h1)
   · rename_i ks e o' hx
     simp only[Option.some.injEq] at h
     subst h
     have:=ra R ho q1 hf q2 q3 q4 (cd hx)
     simpa[SV.den,SSt.bg,drop_drop] using this
   · cases h
 · cases h
theorem vw(R:Rel C g (s.den Φ env) a w){t:TypeId}{x y:Operand}(ho:o.op= .indexAddr t x y){r:Res}(h:ja C.T s t x y=some r):Good Φ env C s a w o r:=fun hc=>by
 unfold ja at h
 split at h
 · rename_i e he
   obtain⟨h1,h⟩:=ak h
   simp only[and_eq_true] at h1
   obtain⟨q1,q2⟩:=h1
   split at h
   · rename_i k i hy
     split at h
     · rename_i z p hx
       split at h
       · rename_i e' ks dp xs hz
         obtain⟨h1,h⟩:=ak h
         simp only[Option.some.injEq] at h
         subst h
         have c0:=hc (.op .le [.int 0,i]) (by simp)
         have c1:=hc (.op .lt [i,zD xs p]) (by simp)
         simp[E.den,E.bC,opD,D.ZZ,D.ZY,ni] at c0 c1
         have:=qB R ho q1 he q2 (bQ hy) (cd hx) (aT hz) (by simpa using h1) c0 c1
         simpa[SV.den,SSt.bg,Bl] using this
       · rename_i e' ks xs hz
         obtain⟨h1,h⟩:=ak h
         simp only[and_eq_true,beq_iff_eq] at h1
         simp only[Option.some.injEq] at h
         subst h
         have hp:p=none:=by simpa using h1.1
         subst hp
         have c0:=hc (.op .le [.int 0,i]) (by simp)
         have c1:=hc (.op .lt [i,C8 64 xs]) (by simp)
         simp[E.den,E.bC,opD,D.ZZ,D.ZY,E4] at c0 c1
         exact qc R ho q1 he q2 (bQ hy) (cd hx) (aT hz) h1.2 c0 c1
       · cases h
     · split at h
       · rename_i v hv e' ks d hx
         obtain⟨h1,h⟩:=ak h
         simp only[Option.some.injEq] at h
         subst h
         have c0:=hc (.op .le [.int 0,i]) (by simp)
         have c1:=hc (.op .lt [i,.op .len [d]]) (by simp)
         simp[E.den,E.bC,opD,D.ZZ,D.ZY] at c0 c1
         have:=qe R ho q1 he q2 (bQ hy) (bQ hx) (by simpa using h1) c0 c1
         simpa[SV.den,SSt.bg,E.den,E.bC,opD,D.row,D.n,D.ae] using this
       · cases h
   · cases h
 · cases h
theorem Kk(op:BinOp)(k:IntKind){kk:K}(h:Nz op k=some kk)(x y:Int):∃p:Prop,tH op k x y=some (p,kk,lV op k x y)∧(((op= .quo∨op= .rem)->y≠0)->p):=by
 cases op<;>simp only[Nz,Option.some.injEq,reduceCtorEq] at h<;>subst h<;>refine⟨_,rfl,fun hp=> ?_⟩<;>first|trivial|exact hp (.inl rfl)|exact hp (.inr rfl)
theorem JV(op:BinOp){kk:K}(h:Ph op=some kk)(x y:ByteArray):∃p:Prop,xr op x y=some (p,kk,ze op x y)∧((op= .add->x.size+y.size<=al)->p):=by
 cases op<;>simp only[Ph,Option.some.injEq,reduceCtorEq] at h<;>subst h<;>refine⟨_,rfl,fun hp=> ?_⟩<;>first|trivial|exact hp rfl
theorem Id(R:Rel C g (s.den Φ env) a w){op:BinOp}{t u:TypeId}{x y:Operand}(ho:o.op= .binOp op t x y u){r:Res}(h:F6 C.T s op t x y u=some r):Good Φ env C s a w o r:=fun hc=>by
 unfold F6 at h
 split at h
 · rename_i k a' k' b' hx hy
   split at h
   · simp only[Option.some.injEq] at h
     subst h
     have c0:=hc _ (mem_singleton.2 rfl)
     simp[E.den,E.bC,opD,D.ZZ,D.ZY] at c0
     exact Ku R ho (bQ hx) (bQ hy) c0
   · obtain⟨h1,h2⟩:=ak h
     clear h
     have h3:k=k':=of_decide_eq_true h1
     clear h1
     subst h3
     have h:=h2
     clear h2
     split at h
     · rename_i kk hkk
       simp only[Option.some.injEq] at h
       subst h
       obtain⟨p,q1,q2⟩:=Kk op k hkk (a'.den Φ env).ZY (b'.den Φ env).ZY
       refine z7 R ho (bQ hx) (bQ hy) q1 (q2 fun hq=> ?_)
       have hm:E.op .nz [b']∈NY op b':=by rcases hq with rfl|rfl<;>simp[NY]
       have c0:=hc _ hm
       simpa[E.den,E.bC,opD,D.ZZ] using c0
     · cases h
 · rename_i a' b' hx hy
   split at h
   · rename_i kk hkk
     simp only[Option.some.injEq] at h
     subst h
     obtain⟨p,q1,q2⟩:=JV op hkk (a'.den Φ env).ao (b'.den Φ env).ao
     refine AX R ho (bQ hx) (bQ hy) q1 (q2 fun hq=> ?_)
     have hm:E.op .strfit [a',b']∈Np op a' b':=by subst hq;simp[Np]
     have c0:=hc _ hm
     simpa[E.den,E.bC,opD,D.ZZ] using c0
   · cases h
 · rename_i a' b' hx hy
   obtain⟨h1,h⟩:=ak h
   simp only[and_eq_true,not_eq_true'] at h1
   split at h
   · rename_i hks
     split at h
     · simp only[Option.some.injEq] at h
       subst h
       exact qf R ho h1.1 hks h1.2 (bQ hx) (bQ hy) (.inl ⟨rfl,rfl⟩)
     · simp only[Option.some.injEq] at h
       subst h
       exact qf R ho h1.1 hks h1.2 (bQ hx) (bQ hy) (.inr ⟨rfl,rfl⟩)
     · cases h
   · cases h
 · cases h
end
end Go.Vx

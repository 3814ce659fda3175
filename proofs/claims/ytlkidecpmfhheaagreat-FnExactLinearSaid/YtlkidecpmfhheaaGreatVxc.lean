import Derived.Test.YtlkidecpmfhheaaGreatVxb
import Derived.Orders
set_option linter.all false
open Option (map_some map_eq_some_iff)
open List (length_map getD_eq_getElem?_getD getElem?_map nodup_nil mem_map all_eq_true any_eq_true mem_cons mem_append mem_singleton getD_cons_zero mem_cons_of_mem map_cons range' range'_zero range'_succ getElem?_append_right mem_of_getElem? mem_range count count_eq_zero count_pos_iff count_set mem_flatMap nodup_append Sublist flatMap_cons mem_filter getD_cons_succ)
open Bool (and_eq_true or_eq_true not_eq_true' false_eq_true)
open Nat (le_of_ble_eq_true ble_eq_true_of_le zero_add le_refl)
open Array (mem_toList_iff toList_setIfInBounds)
namespace Go.Vx
open Go.RowKit (Below)
def AC.cr(m:Nat->Option Nat):AC->AC
 | .ref z p=>match m z with
   |some z'=>.ref z' p
   |none=>.dead
 |c=>c
mutual
def AV.cr(m:Nat->Option Nat):AV->AV
 | .one c=>.one (c.cr m)
 | .agg cs=>.agg (cs.map (AC.cr m))
 | .ptr z i j=>match m z with
   |some z'=>.ptr z' i j
   |none=>.dead
 | .pim ks row=>.pim ks row
 | .tup vs=>.tup (AV.ph m vs)
 | .whn b v=>.whn b (v.cr m)
 | .lod z i j=>match m z with
   |some z'=>.lod z' i j
   |none=>.dead
 | .dead=>.dead
def AV.ph(m:Nat->Option Nat):List AV->List AV
 |[]=>[]
 |v::vs=>v.cr m::AV.ph m vs
end
def Ob.cr(m:Nat->Option Nat):Ob->Ob
 | .box T cs=>.box T (cs.map (AC.cr m))
 |o=>o
def Gh.ren(g:Gh)(n:Nat->Option Nat):Gh:=
 ⟨fun y=>match n y with|some x=>g.hd x|none=>undef,fun y=>match n y with|some x=>g.fp x|none=>[]⟩
section
variable {C:Cx} {g:Gh} {σ σ':St} {a:Act} {w:World} {m n:Nat->Option Nat}
structure Ren (m n:Nat->Option Nat) (σ σ':St):Prop where
 mn:∀x y,m x=some y->n y=some x
 nm:∀x y,n y=some x->m x=some y
 obj:∀y,σ'.obj y=match n y with|some x=>(σ.obj x).map (Ob.cr m)|none=>none
theorem Ob.Fu(o:Option Ob):Ob.live (o.map (Ob.cr m))=Ob.live o:=by
 cases o with
 |none=>rfl
 |some o=>cases o<;>rfl
theorem Ob.HP(o:Option Ob):Ob.isX (o.map (Ob.cr m))=Ob.isX o:=by
 cases o with
 |none=>rfl
 |some o=>cases o<;>rfl
theorem Ren.me(r:Ren m n σ σ'){b o:Nat}(h:Me C.M σ'.obj (g.ren n).hd (g.ren n).fp b o):Me C.M σ.obj g.hd g.fp b o:=by
 rcases h with hM|⟨y,hl,hb⟩|⟨y,hl,hb⟩
 · exact .inl hM
 · rw[r.obj] at hl
   cases hn:n y with
   |none=>rw[hn] at hl;simp[Ob.live] at hl
   |some x=>
    rw[hn] at hl
    simp only[Gh.ren,hn] at hb
    exact .inr (.inl ⟨x,by rw[Ob.Fu] at hl;exact hl,hb⟩)
 · rw[r.obj] at hl
   cases hn:n y with
   |none=>rw[hn] at hl;simp[Ob.isX] at hl
   |some x=>
    rw[hn] at hl
    simp only[Gh.ren,hn] at hb
    exact .inr (.inr ⟨x,by rw[Ob.HP] at hl;exact hl,hb⟩)
theorem Ren.keeps(r:Ren m n σ σ'):Keeps w (Me C.M σ.obj g.hd g.fp) w (Me C.M σ'.obj (g.ren n).hd (g.ren n).fp):=fun _ _ _ hc hn=>⟨hc,fun h=>hn (r.me h)⟩
theorem Ren.ref(r:Ren m n σ σ'){x y:Nat}(hxy:m x=some y){p:Option (Nat×Nat)}{v:Value}(h:aB (sur C g σ w) x p v):aB (sur C (g.ren n) σ' w) y p v:=by
 have hn:=r.mn x y hxy
 unfold aB at h⊢
 simp only[sur,r.obj,hn] at h⊢
 have hh:(g.ren n).hd y=g.hd x:=by simp only[Gh.ren,hn]
 cases he:σ.obj x with
 |none=>rw[he] at h;exact h
 |some o=>
  rw[he] at h
  cases o with
  |box T cs=>exact h
  |arr e ks dp xs=>simp only[map_some,Ob.cr,hh];exact h
  |«sealed» e ks xs=>exact⟨h.1,h.2.keeps r.keeps⟩
  |gone=>trivial
  |arx e ks xs=>simp only[map_some,Ob.cr,hh];exact h
theorem Ren.ptr(r:Ren m n σ σ'){x y:Nat}(hxy:m x=some y){i j:Nat}{v:Value}(h:aV (sur C g σ w) x i j v):aV (sur C (g.ren n) σ' w) y i j v:=by
 have hn:=r.mn x y hxy
 unfold aV at h⊢
 simp only[sur,r.obj,hn] at h⊢
 have hh:(g.ren n).hd y=g.hd x:=by simp only[Gh.ren,hn]
 cases he:σ.obj x with
 |none=>rw[he] at h;exact h
 |some o=>
  rw[he] at h
  cases o with
  |box T cs=>simp only[map_some,Ob.cr,hh];exact h
  |arr e ks dp xs=>simp only[map_some,Ob.cr,hh];exact h
  |«sealed» e ks xs=>trivial
  |gone=>trivial
  |arx e ks xs=>simp only[map_some,Ob.cr,hh];exact h
theorem Ren.lod(r:Ren m n σ σ'){x y:Nat}(hxy:m x=some y){i j:Nat}{v:Value}(h:cB (sur C g σ w) x i j v):cB (sur C (g.ren n) σ' w) y i j v:=by
 have hn:=r.mn x y hxy
 unfold cB at h⊢
 simp only[sur,r.obj,hn] at h⊢
 have hh:(g.ren n).hd y=g.hd x:=by simp only[Gh.ren,hn]
 cases he:σ.obj x with
 |none=>rw[he] at h;exact h
 |some o=>
  rw[he] at h
  cases o with
  |arx e ks xs=>simp only[map_some,Ob.cr,hh];exact h
  |_=>trivial
theorem Ren.ac(r:Ren m n σ σ'):∀{c:AC}{v:Value},iN (sur C g σ w) c v->iN (sur C (g.ren n) σ' w) (c.cr m) v
 | .dat k d,v,h=>bV.keeps r.keeps h
 | .nil _ _,v,h=>h
 | .ref x p,v,h=>by
   simp only[AC.cr]
   cases hm:m x with
   |none=>trivial
   |some y=>exact r.ref hm h
 | .dead,v,h=>trivial
theorem Ren.acs(r:Ren m n σ σ'):∀{cs:List AC}{vs:List Value},aE (sur C g σ w) cs vs->aE (sur C (g.ren n) σ' w) (cs.map (AC.cr m)) vs
 |[],_,h=>h
 |_::_,_,⟨v,vs',e,o,h1,h2⟩=>⟨v,vs',e,o,r.ac h1,r.acs h2⟩
mutual
theorem Ren.av(r:Ren m n σ σ'):∀{u:AV}{v:Value},bB (sur C g σ w) u v->bB (sur C (g.ren n) σ' w) (u.cr m) v
 | .one _,_,h=>⟨r.ac h.1,h.2⟩
 | .agg _,_,h=>let⟨vs,e,h⟩:=h;⟨vs,e,r.acs h⟩
 | .ptr x i j,_,h=>by
   simp only[AV.cr]
   cases hm:m x with
   |none=>trivial
   |some y=>exact r.ptr hm h
 | .pim ks row,_,h=>by
   obtain⟨b,o,vs,rfl,hr,hn,hc⟩:=h
   exact⟨b,o,vs,rfl,hr,fun j hj hme=>hn j hj (r.me hme),hc.keeps r.keeps⟩
 | .tup _,_,h=>let⟨vs,e,h⟩:=h;⟨vs,e,r.avs h⟩
 | .whn _ _,_,h=>⟨fun e=>r.av (h.1 e),h.2⟩
 | .lod x i j,_,h=>by
   simp only[AV.cr]
   cases hm:m x with
   |none=>trivial
   |some y=>exact r.lod hm h
 | .dead,_,_=>trivial
theorem Ren.avs(r:Ren m n σ σ'):∀{us:List AV}{vs:List Value},f9 (sur C g σ w) us vs->f9 (sur C (g.ren n) σ' w) (AV.ph m us) vs
 |[],_,h=>h
 |_::_,_,⟨v,vs',e,h1,h2⟩=>⟨v,vs',e,r.av h1,r.avs h2⟩
end
theorem Rel.ren(R:Rel C g σ a w)(r:Ren m n σ σ')(hpin:∀p∈C.pin,n p.1=some p.1) (hpinB:∀p∈C.yO,n p.1=some p.1) (ht:σ'.tmps=σ.tmps.map (AV.cr m)):Rel C (g.ren n) σ' a w:=by
 refine⟨R.defers,R.size,by rw[ht,length_map];exact R.len,fun t=> ?_,fun y=> ?_,fun y=> ?_,fun y z hyz b hy hz=> ?_,fun y b hy=> ?_,R.fr,⟨fun p hp=> ?_,fun p hp=> ?_⟩⟩
 rotate_right
 · exact r.ptr (r.nm _ _ (hpinB p hp)) (R.pin.2 p hp)
 rotate_right
 · obtain⟨o,ho,hx⟩:=R.pin.1 p hp
   have hn:=hpin p hp
   have hh:(g.ren n).hd p.1=g.hd p.1:=by simp only[Gh.ren,hn]
   refine⟨o.cr m,by simp only[sur] at ho⊢;rw[r.obj,hn];simp only[ho,map_some],fun e ks xs he=> ?_⟩
   have ho':o= .arx e ks xs:=by cases o<;>simp only[Ob.cr,reduceCtorEq] at he<;>exact he
   have:=hx e ks xs ho'
   simp only[sur] at this⊢
   rw[hh]
   exact this
 · have:σ'.tmp t=(σ.tmp t).cr m:=by
    unfold St.tmp
    rw[ht,getD_eq_getElem?_getD,getD_eq_getElem?_getD,getElem?_map]
    cases σ.tmps[t]? <;>rfl
   rw[this]
   exact r.av (R.tmps t)
 · unfold bv
   simp only[sur]
   cases hn:n y with
   |none=>
    have e0:σ'.obj y=none:=by rw[r.obj,hn]
    rw[e0]
    simp only[Gh.ren,hn]
   |some x=>
    have e0:σ'.obj y=(σ.obj x).map (Ob.cr m):=by rw[r.obj,hn]
    rw[e0]
    have hh:(g.ren n).hd y=g.hd x:=by simp only[Gh.ren,hn]
    have hf:(g.ren n).fp y=g.fp x:=by simp only[Gh.ren,hn]
    have h:=R.objs x
    unfold bv at h
    simp only[sur] at h
    rw[hh,hf]
    cases he:σ.obj x with
    |none=>rw[he] at h;exact h
    |some o=>
     rw[he] at h
     cases o with
     |box T cs=>
      obtain⟨b,vs,h1,h2,h3,h4⟩:=h
      exact⟨b,vs,h1,h2,h3,r.acs h4⟩
     |arr e ks dp xs=>
      obtain⟨vss,fps,h1,h2,h3,h4,h5,h6⟩:=h
      refine⟨vss,fps,h1,h2,h3,h4,h5,fun i row vs f q1 q2 q3=> ?_⟩
      have:=h6 i row vs f q1 q2 q3
      split at this
      · rename_i hd;rw[if_pos hd];exact this
      · rename_i hd;rw[if_neg hd];exact⟨this.1.keeps r.keeps,this.2⟩
     |«sealed» e ks xs=>exact h
     |gone=>exact h
     |arx e ks xs=>exact h
 · cases hn:n y with
   |none=>simp only[Gh.ren,hn];exact nodup_nil
   |some x=>simp only[Gh.ren,hn];exact R.own x
 · cases hn:n y with
   |none=>simp[Gh.ren,hn] at hy
   |some x=>
    cases hn':n z with
    |none=>simp[Gh.ren,hn'] at hz
    |some x'=>
     simp only[Gh.ren,hn] at hy
     simp only[Gh.ren,hn'] at hz
     refine R.apart x x' (fun e=> ?_) b hy hz
     subst e
     have h1:=r.nm x y hn
     have h2:=r.nm x z hn'
     rw[h1] at h2
     exact hyz (Option.some.inj h2)
 · cases hn:n y with
   |none=>simp[Gh.ren,hn] at hy
   |some x=>simp only[Gh.ren,hn] at hy;exact R.alw x b hy
end
end Go.Vx
namespace Go.Vx
open Go.RowKit (Below)
def SC.cr(m:Nat->Option Nat):SC->SC
 | .ref z p=>match m z with
   |some z'=>.ref z' p
   |none=>.dead
 |c=>c
mutual
def SV.cr(m:Nat->Option Nat):SV->SV
 | .one c=>.one (c.cr m)
 | .agg cs=>.agg (cs.map (SC.cr m))
 | .ptr z i j=>match m z with
   |some z'=>.ptr z' i j
   |none=>.dead
 | .pim ks e off=>.pim ks e off
 | .tup vs=>.tup (SV.ph m vs)
 | .whn b v=>.whn b (v.cr m)
 | .lod z i j=>match m z with
   |some z'=>.lod z' i j
   |none=>.dead
 | .dead=>.dead
def SV.ph(m:Nat->Option Nat):List SV->List SV
 |[]=>[]
 |v::vs=>v.cr m::SV.ph m vs
end
def SOb.cr(m:Nat->Option Nat):SOb->SOb
 | .box T cs=>.box T (cs.map (SC.cr m))
 |o=>o
def ia(d:Nat)(z:Nat):Option Nat:=bif z / 64==d then none else some z
def tM(d:Nat):List (Nat×SOb)->List (Nat×SOb)
 |[]=>[]
 |(y,o)::l=>bif y / 64==d then tM d l else(y,o.cr (ia d))::tM d l
def SSt.kill(d:Nat)(s:SSt):SSt:=⟨s.tmps.map (SV.cr (ia d)),tM d s.objs⟩
def SSt.free(d:Nat)(s:SSt):SSt:=bif Nat.blt d 1000000&&s.objs.any fun p=>p.1 / 64==d then s.kill d else s
section
variable {Φ:Fns} {env:List D}
theorem SC.gL(m:Nat->Option Nat)(c:SC):(c.cr m).den Φ env=(c.den Φ env).cr m:=by
 cases c with
 |ref z p=>simp only[SC.cr,SC.den,AC.cr];cases m z<;>rfl
 |_=>rfl
theorem SC.lL(m:Nat->Option Nat)(cs:List SC):(cs.map (SC.cr m)).map (SC.den Φ env)=(cs.map (SC.den Φ env)).map (AC.cr m):=by
 simp[Function.comp_def,SC.gL]
mutual
theorem SV.gL(m:Nat->Option Nat):∀v:SV,(v.cr m).den Φ env=(v.den Φ env).cr m
 | .one c=>by simp only[SV.cr,SV.den,AV.cr,SC.gL]
 | .agg cs=>by simp only[SV.cr,SV.den,AV.cr,SC.lL]
 | .ptr z i j=>by simp only[SV.cr,SV.den,AV.cr];cases m z<;>rfl
 | .pim _ _ _=>rfl
 | .tup vs=>by simp only[SV.cr,SV.den,AV.cr,SV.lL m vs]
 | .whn c v=>by simp only[SV.cr,SV.den,AV.cr,SV.gL m v]
 | .lod z i j=>by simp only[SV.cr,SV.den,AV.cr];cases m z<;>rfl
 | .dead=>rfl
theorem SV.lL(m:Nat->Option Nat):∀vs:List SV,SV.bC Φ env (SV.ph m vs)=AV.ph m (SV.bC Φ env vs)
 |[]=>rfl
 |v::vs=>by simp only[SV.ph,SV.bC,AV.ph,SV.gL m v,SV.lL m vs]
end
theorem SOb.gL(m:Nat->Option Nat)(o:SOb):(o.cr m).den Φ env=(o.den Φ env).cr m:=by
 cases o with
 |box T cs=>simp only[SOb.cr,SOb.den,Ob.cr,SC.lL]
 |_=>rfl
theorem nq(d y:Nat):∀l,cI y (tM d l)=match ia d y with|some _=>(cI y l).map (SOb.cr (ia d))|none=>none
 |[]=>by simp only[tM,cI];split<;>rfl
 |(z,o)::l=>by
  have ih:=nq d y l
  by_cases hz:z / 64=d
  · have h1:(z / 64==d)=true:=by simpa using hz
    simp only[tM,h1,cond_true,ih,cI]
    by_cases hy:y=z
    · subst hy;simp[ia,h1]
    · have h2:(y==z)=false:=by simpa using hy
      simp[h2]
  · have h1:(z / 64==d)=false:=by simpa using hz
    simp only[tM,h1,cond_false,cI]
    by_cases hy:y=z
    · subst hy;simp[ia,h1]
    · have h2:(y==z)=false:=by simpa using hy
      simp only[h2,cond_false,ih]
theorem Gw(d:Nat)(s:SSt){y:Nat}(h:y / 64=d):(s.kill d).obj y=none:=by
 have:=nq d y s.objs
 have hk:ia d y=none:=by simp[ia,h]
 rw[hk] at this
 exact this
theorem IX(d:Nat)(s:SSt):Ren (ia d) (ia d) (s.den Φ env) ((s.kill d).den Φ env):=by
 have key:∀x y,ia d x=some y->ia d y=some x:=fun x y h=>by
  unfold ia at h
  cases hx:(x / 64==d) with
  |true=>simp[hx] at h
  |false=>simp[hx] at h;subst h;simp[ia,hx]
 refine⟨key,fun x y h=>key y x h,fun y=> ?_⟩
 rw[SSt.eL,show(s.kill d).obj y=cI y (tM d s.objs) from rfl,nq]
 cases hk:ia d y with
 |none=>rfl
 |some x=>
  have hx:x=y:=by
   unfold ia at hk
   cases hy:(y / 64==d) with
   |true=>simp[hy] at hk
   |false=>simp[hy] at hk;exact hk.symm
  subst hx
  show Option.map (SOb.den Φ env) (Option.map (SOb.cr (ia d)) (cI x s.objs))=Option.map (Ob.cr (ia d)) ((SSt.den Φ env s).obj x)
  rw[SSt.eL,show s.obj x=cI x s.objs from rfl]
  cases cI x s.objs with
  |none=>rfl
  |some o=>simp[SOb.gL]
variable {C:Cx} {g:Gh} {s:SSt} {a:Act} {w:World}
theorem Rel.kill(R:Rel C g (s.den Φ env) a w)(d:Nat)(hd:d<1000000):∃g',Rel C g' ((s.kill d).den Φ env) a w:=
 ⟨_,R.ren (IX d s) (fun p hp=>by
   have:=C.u5 p hp
   have:(p.1 / 64==d)=false:=by
    simp only[beq_eq_false_iff_ne,ne_eq]
    omega
   simp[ia,this]) (fun p hp=>by
   have:=C.qR p hp
   have:(p.1 / 64==d)=false:=by
    simp only[beq_eq_false_iff_ne,ne_eq]
    omega
   simp[ia,this]) (by simp[SSt.den,SSt.kill,Function.comp_def,SV.gL])⟩
theorem Rel.free(R:Rel C g (s.den Φ env) a w)(d:Nat):∃g',Rel C g' ((s.free d).den Φ env) a w:=by
 unfold SSt.free
 cases hc:Nat.blt d 1000000&&s.objs.any fun p=>p.1 / 64==d with
 |true=>
  simp only[and_eq_true] at hc
  exact R.kill d (le_of_ble_eq_true hc.1)
 |false=>exact⟨g,R⟩
theorem vy(x:Nat):∀l:List (Nat×SOb),(l.any fun p=>p.1 / 64==x / 64)=false->cI x l=none
 |[],_=>rfl
 |(y,o)::l,h=>by
  simp only[List.any_cons,Bool.or_eq_false_iff,beq_eq_false_iff_ne,ne_eq] at h
  have:(x==y)=false:=by
   simp only[beq_eq_false_iff_ne,ne_eq]
   intro e;subst e;exact h.1 rfl
  simp only[cI,this,cond_false]
  exact vy x l h.2
theorem rN(d:Nat)(s:SSt)(hd:d<1000000){y:Nat}(h:y / 64=d):(s.free d).obj y=none:=by
 unfold SSt.free
 have hb:Nat.blt d 1000000=true:=ble_eq_true_of_le hd
 rw[hb,Bool.true_and]
 cases hc:s.objs.any fun p=>p.1 / 64==d with
 |true=>exact Gw d s h
 |false=>subst h;exact vy y s.objs hc
end
end Go.Vx
namespace Go.Vx
open Go.RowKit (Below)
def strip(cs:List E)(v:SV):SV:=bif v.conds.all fun c=>cs.any (E.eqb c) then v.core else v
def SSt.strip(cs:List E)(s:SSt):SSt:=⟨s.tmps.map (Vx.strip cs),s.objs⟩
def wrap:List E->SV->SV
 |[],v=>v
 |c::cs,v=>.whn c (wrap cs v)
def Fv:List E->E->E
 |[],e=>e
 |c::cs,e=>.op .ite [c,Fv cs e,.bool true]
def iy(s:SSt)(ops:Array Oper)(o:Oper):Option (List E):=match o.guard with
 |none=>some []
 |some (j,want)=>match(ops[j]?).bind (·.dst) with
  |some t=>match(s.tmp t).core with
   | .one (.dat .bool c)=>some ((s.tmp t).conds++[bif want then c else .op .not [c]])
   |_=>none
  |none=>none
def fOp(T:TypeId->TI)(CT:Nat->Option Sig)(key:Nat)(s:SSt)(o:Oper):Option Res:=match o.op with
 | .call c=>match c.callee with
   | .value (.func f)=>vZ T CT key s f c.argTypes.toList c.args.toList
   |_=>opF T key s o
 |_=>opF T key s o
section
variable {Φ:Fns} {env:List D} {C:Cx} {g:Gh} {s:SSt} {a:Act} {w:World} {o:Oper} {key:Nat}
def Told(P:Program)(Φ:Fns)(CT:Nat->Option Sig):Prop:=
 ∀f sg,CT f=some sg->(sg.xs=none->Ji P f sg.bs sg.so sg.nb sg.args sg.ax (Φ f))∧(∀l,sg.xs=some l->Hy P f l sg.ax (Φ f))∧∃fn,P.funcs[f]? =some fn∧fn.body≠none∧fn.name≠ "runtime.NumGoroutine"
theorem kz(R:Rel C g (s.den Φ env) a w){CT:Nat->Option Sig}(hCT:Told C.P Φ CT)(hkey:s.obj key=none){r:Res}(h:fOp C.T CT key s o=some r)(hr:holds Φ env r.cs):
 Does C a w o (r.v.den Φ env) ((s.bg r.upd).den Φ env):=by
 unfold fOp at h
 split at h
 · rename_i c ho
   split at h
   · rename_i f hc
     unfold vZ at h
     split at h
     · rename_i sg hsg
       split at h
       · rename_i hx
         obtain⟨q1,_,q3⟩:=hCT f sg hsg
         have q1:=q1 hx
         unfold Ji at q1
         split at h
         · rename_i q hq
           rw[hq] at q1
           exact Cq R q1 q3 ho hc h hr
         · rename_i hq
           rw[hq] at q1
           split at h
           · rename_i hb
             rw[hb] at q1
             split at h
             · rename_i hnb
               rw[hnb] at q1
               exact Dl R (fun sg' hsg'=>by
                rw[hsg] at hsg'
                simp only[Option.some.injEq] at hsg'
                subst hsg'
                exact⟨q1,q3⟩) ho hc h hr
             · rename_i q hnb
               rw[hnb] at q1
               exact Dj R q1 q3 ho hc h hr
           · rename_i l hb
             rw[hb] at q1
             exact Cp R q1 q3 ho hc h hr
       · rename_i l hx
         obtain⟨_,q2,q3⟩:=hCT f sg hsg
         exact DG R (q2 l hx) q3 ho hc h hr
     · cases h
   · exact(D9 R hkey h hr).does
 · exact(D9 R hkey h hr).does
theorem Rel.zg{σ σ':St}(R:Rel C g σ a w)(ho:σ'.objs=σ.objs)(hl:σ'.tmps.length=σ.tmps.length)(ht:∀t v,bB (sur C g σ w) (σ.tmp t) v->bB (sur C g σ w) (σ'.tmp t) v):Rel C g σ' a w:=by
 have hob:∀x,σ'.obj x=σ.obj x:=fun x=>by unfold St.obj;rw[ho]
 have hs:=wF (C:=C) (g:=g) (w:=w) hob
 exact⟨R.defers,R.size,by rw[hl];exact R.len,fun t=>by rw[hs];exact ht t _ (R.tmps t),fun x=>by rw[hs];exact R.objs x,R.own,R.apart,R.alw,R.fr,by rw[hs];exact R.pin⟩
theorem xA{cs:List E}(hcs:holds Φ env cs)(v:SV){S:Sur}{x:Value}:bB S (v.den Φ env) x↔bB S ((strip cs v).den Φ env) x:=by
 unfold strip
 cases hc:v.conds.all fun c=>cs.any (E.eqb c) with
 |false=>rfl
 |true=>
  have hall:∀b∈(v.den Φ env).conds,b=true:=fun b hb=>by
   rw[SV.l5,mem_map] at hb
   obtain⟨c,hm,rfl⟩:=hb
   have:=all_eq_true.1 hc c hm
   obtain⟨c',hm',he⟩:=any_eq_true.1 this
   rw[E.aY he]
   exact hcs c' hm'
  show _↔bB S (v.core.den Φ env) x
  rw[SV.np]
  exact⟨fun h=>h.core hall,fun h=>bB.HN h hall⟩
theorem ou(cs:List E)(s:SSt)(t:Nat):(s.strip cs).tmp t=strip cs (s.tmp t):=by
 unfold SSt.tmp SSt.strip
 simp only[getD_eq_getElem?_getD,getElem?_map]
 cases s.tmps[t]? <;>rfl
theorem Rel.strip(R:Rel C g (s.den Φ env) a w){cs:List E}(hcs:holds Φ env cs):Rel C g ((s.strip cs).den Φ env) a w:=
 R.zg rfl (by simp[SSt.den,SSt.strip]) fun t v h=>by
  rw[SSt.fx] at h⊢
  rw[ou]
  exact(xA hcs _).1 h
theorem Rel.zk{cs:List E}(R:Rel C g ((s.strip cs).den Φ env) a w)(hcs:holds Φ env cs):Rel C g (s.den Φ env) a w:=
 R.zg rfl (by simp[SSt.den,SSt.strip]) fun t v h=>by
  rw[SSt.fx] at h⊢
  rw[ou] at h
  exact(xA hcs _).2 h
theorem vf(cs:List E)(e:E)(h:((Fv cs e).den Φ env).ZZ=true)(hcs:holds Φ env cs):(e.den Φ env).ZZ=true:=by
 induction cs with
 |nil=>exact h
 |cons c cs ih=>
  have hc:=hcs c (by simp)
  refine ih ?_ fun x hx=>hcs x (by simp[hx])
  simpa[Fv,E.den,E.bC,opD,hc] using h
theorem n0{S:Sur}{v:SV}{x:Value}:∀{cs:List E},(holds Φ env cs->bB S (v.den Φ env) x)->(¬holds Φ env cs->x=undef)->bB S ((wrap cs v).den Φ env) x
 |[],h,_=>h fun _ hc=>by simp at hc
 |c::cs,h,h'=>by
  refine⟨fun hc=>n0 (cs:=cs) (fun hs=>h fun e he=> ?_) (fun hs=>h' fun ha=>hs fun e he=>ha e (by simp[he])),fun hc=>h' fun ha=> ?_⟩
  · rcases mem_cons.1 he with rfl|he
    · exact hc
    · exact hs e he
  · have:=ha c (by simp)
    rw[hc] at this
    cases this
theorem pr{S:Sur}{v:SV}{cs:List E}(h:¬holds Φ env cs):bB S ((wrap cs v).den Φ env) undef:=n0 (fun hs=>absurd hs h) fun _=>rfl
theorem w9{S:Sur}:∀{v:SV}{x:Value},bB S (v.den Φ env) x->¬holds Φ env v.conds->x=undef
 | .whn c v,x,h,hn=>by
   by_cases hc:(c.den Φ env).ZZ=true
   · exact w9 (v:=v) (h.1 hc) fun hs=>hn fun e he=>by
      simp only[SV.conds,mem_cons] at he
      rcases he with rfl|he
      · exact hc
      · exact hs e he
   · exact h.2 (by simpa using hc)
 | .one _,_,_,hn=>absurd (fun _ hc=>by simp[SV.conds] at hc) hn
 | .agg _,_,_,hn=>absurd (fun _ hc=>by simp[SV.conds] at hc) hn
 | .ptr _ _ _,_,_,hn=>absurd (fun _ hc=>by simp[SV.conds] at hc) hn
 | .pim _ _ _,_,_,hn=>absurd (fun _ hc=>by simp[SV.conds] at hc) hn
 | .tup _,_,_,hn=>absurd (fun _ hc=>by simp[SV.conds] at hc) hn
 | .lod _ _ _,_,_,hn=>absurd (fun _ hc=>by simp[SV.conds] at hc) hn
 | .dead,_,_,hn=>absurd (fun _ hc=>by simp[SV.conds] at hc) hn
theorem fh(R:Rel C g (s.den Φ env) a w){ops:Array Oper}{cs:List E}(h:iy s ops o=some cs):Region.wanted o (yielded ops a.tmps)=true↔holds Φ env cs:=by
 unfold iy at h
 unfold Region.wanted
 split at h
 · rename_i hg
   simp only[Option.some.injEq] at h
   subst h
   rw[hg]
   exact⟨fun _ _ hc=>by simp at hc,fun _=>rfl⟩
 · rename_i j want hg
   rw[hg]
   split at h
   · rename_i t ht
     split at h
     · rename_i c hcore
       simp only[Option.some.injEq] at h
       subst h
       have hr:=R.tmps t
       rw[SSt.fx] at hr
       have hget:∀b:Bool,a.tmps.getD t undef= .bool b->a.tmps[t]? =some (.bool b):=fun b hb=>by
        rw[Array.getD_eq_getD_getElem?] at hb
        cases ha:a.tmps[t]? with
        |none=>rw[ha] at hb;simp[undef] at hb
        |some x=>rw[ha] at hb;exact congrArg some hb
       simp only[yielded,ht,Option.bind_some,beq_iff_eq]
       by_cases hall:holds Φ env (s.tmp t).conds
       · have hv:a.tmps.getD t undef= .bool (c.den Φ env).ZZ:=by
          have:=hr.core (fun b hb=>by
           rw[SV.l5,mem_map] at hb
           obtain⟨e,he,rfl⟩:=hb
           exact hall e he)
          rw[<-SV.np,hcore] at this
          exact this.1
         rw[hget _ hv]
         simp only[Option.some.injEq]
         constructor
         · intro hb e he
           rcases mem_append.1 he with he|he
           · exact hall e he
           · simp only[mem_singleton] at he
             subst he
             cases want with
             |true=>exact hb
             |false=>simp only[cond_false,E.den,E.bC,opD,D.ZZ,getD_cons_zero];simp only[D.ZZ] at hb;rw[hb];rfl
         · intro hh
           have:=hh _ (mem_append.2 (.inr (mem_singleton.2 rfl)))
           cases want with
           |true=>exact this
           |false=>simpa[E.den,E.bC,opD,D.ZZ] using this
       · have hu:=w9 hr hall
         constructor
         · intro hb
           exfalso
           rw[Array.getD_eq_getD_getElem?] at hu
           cases ha:a.tmps[t]? with
           |none=>rw[ha] at hb;simp at hb
           |some x=>
            rw[ha] at hu hb
            simp only[Option.getD_some] at hu
            rw[hu] at hb
            simp[undef] at hb
         · intro hh
           exact absurd (fun e he=>hh e (mem_append.2 (.inl he))) hall
     · cases h
   · cases h
end
end Go.Vx
namespace Go.Vx
open Go.RowKit (Below)
def tQ:List E->E
 |[]=>.bool true
 |[c]=>c
 |c::cs=>.op .ite [c,tQ cs,.bool false]
def mu(b:E):List SC->List SC->Option (List SC)
 |[],[]=>some []
 | .dat k e'::cs,.dat k' e::ds=>match mu b cs ds with
   |some us=>bif K.eqb k k' then some (.dat k (.op .ite [b,e',e])::us) else none
   |none=>none
 |_,_=>none
def sH(cs:List E)(s:SSt):List (Nat×SOb)->Option (List (Nat×SOb))
 |[]=>some []
 |(z,.arr e ks dp xs)::l=>match s.obj z,sH cs (s.aU z (.arr e ks dp (.op .ite [tQ cs,xs,.nl]))) l with
  |none,some l'=>some ((z,.arr e ks dp (.op .ite [tQ cs,xs,.nl]))::l')
  |_,_=>none
 |(z,.box T us)::l=>match s.obj z with
  |some (.box T' ds)=>match mu (tQ cs) us ds with
   |some vs=>match sH cs (s.aU z (.box T vs)) l with
    |some l'=>bif T==T' then some ((z,.box T vs)::l') else none
    |none=>none
   |none=>none
  |_=>none
 |_=>none
def wa(T:TypeId->TI)(CT:Nat->Option Sig)(ops:Array Oper)(s:SSt)(o:Oper):Option (List E×SSt):=
 match o.dst with
 |some d=>bif Nat.blt d s.tmps.length&&Nat.blt d 1000000 then match iy (s.free d) ops o with
  |some []=>match fOp T CT (d*64) (s.free d) o with
   |some r=>some (r.cs,((s.free d).bg r.upd).ew d r.v)
   |none=>none
  |some (c::cs)=>match fOp T CT (d*64) ((s.free d).strip (c::cs)) o with
   |some r=>bif r.upd.isEmpty then some (r.cs.map (Fv (c::cs)),(s.free d).ew d (wrap (c::cs) r.v)) else match sH (c::cs) (s.free d) r.upd with
    |some u=>some (r.cs.map (Fv (c::cs)),((s.free d).bg u).ew d (wrap (c::cs) r.v))
    |none=>none
   |none=>none
  |none=>none
  else none
 |none=>match o.guard with
  |none=>match fOp T CT 6400000 (s.free 100000) o with
   |some r=>some (r.cs,(s.free 100000).bg r.upd)
   |none=>none
  |some _=>none
def tX(T:TypeId->TI)(CT:Nat->Option Sig)(ops:Array Oper):List Nat->SSt->Option (List E×SSt)
 |[],s=>some ([],s)
 |i::l,s=>match ops[i]? with
  |some o=>match wa T CT ops s o with
   |some (cs,s1)=>match tX T CT ops l s1 with
    |some (cs',s2)=>some (cs++cs',s2)
    |none=>none
   |none=>none
  |none=>none
section
variable {Φ:Fns} {env:List D} {C:Cx} {g:Gh} {s:SSt} {a:Act} {w:World} {o:Oper}
theorem Hl(d:Nat)(s:SSt):(s.free d).tmps.length=s.tmps.length:=by
 unfold SSt.free
 cases Nat.blt d 1000000&&s.objs.any fun p=>p.1 / 64==d<;>simp[SSt.kill]
theorem Rel.iM(R:Rel C g (s.den Φ env) a w):s.tmps.length=C.n:=by
 have:=R.len
 simpa[SSt.den] using this
theorem md:∀(cs:List E),((tQ cs).den Φ env).ZZ=true↔holds Φ env cs
 |[]=>⟨fun _ e he=>by simp at he,fun _=>rfl⟩
 |[c]=>⟨fun h e he=>by rw[mem_singleton.1 he];exact h,fun h=>h c (by simp)⟩
 |c::d::cs=>by
  have ih:=md (d::cs)
  show((if((c.den Φ env)).ZZ=true then(tQ (d::cs)).den Φ env else D.bool false)).ZZ=true↔_
  by_cases hc:(c.den Φ env).ZZ=true
  · rw[if_pos hc,ih]
    exact⟨fun h e he=>by rcases mem_cons.1 he with rfl|he;exact hc;exact h e he,fun h e he=>h e (mem_cons_of_mem _ he)⟩
  · rw[if_neg hc]
    exact⟨fun h=>by simp[D.ZZ] at h,fun h=>absurd (h c (by simp)) hc⟩
theorem uy(b x y:E):(E.op .ite [b,x,y]).den Φ env=if(b.den Φ env).ZZ=true then x.den Φ env else y.den Φ env:=rfl
theorem qI:∀{l l':List (Nat×SOb)}{s s':SSt},(∀x,(s.den Φ env).obj x=(s'.den Φ env).obj x)->l.map (fun p=>(p.1,p.2.den Φ env))=l'.map (fun p=>(p.1,p.2.den Φ env))->∀x,((s.bg l).den Φ env).obj x=((s'.bg l').den Φ env).obj x
 |[],[],_,_,h,_=>h
 |[],_::_,_,_,_,e=>by simp at e
 |_::_,[],_,_,_,e=>by simp at e
 |(z,o)::l,(z',o')::l',s,s',h,e=>by
  simp only[map_cons,List.cons.injEq,Prod.mk.injEq] at e
  obtain⟨⟨rfl,ho⟩,e⟩:=e
  refine qI (s:=s.aU z o) (s':=s'.aU z o') (fun x=> ?_) e
  rw[SSt.bK,SSt.bK,St.ap,St.ap,ho,h]
theorem pP{b:E}:∀{cs ds us:List SC},mu b cs ds=some us->((b.den Φ env).ZZ=true->us.map (SC.den Φ env)=cs.map (SC.den Φ env))∧((b.den Φ env).ZZ≠true->us.map (SC.den Φ env)=ds.map (SC.den Φ env))
 |[],[],us,h=>by simp only[mu,Option.some.injEq] at h;subst h;exact⟨fun _=>rfl,fun _=>rfl⟩
 |c::cs,d::ds,us,h=>by
  cases c with
  |dat k e'=>
   cases d with
   |dat k' e=>
    simp only[mu] at h
    split at h
    · rename_i us' hu
      obtain⟨hk,hx⟩:=ak h
      clear h
      replace hk:=K.aY hk
      subst hk
      obtain rfl:=Option.some.inj hx
      obtain⟨h1,h2⟩:=pP hu
      refine⟨fun hb=> ?_,fun hb=> ?_⟩
      · simp only[map_cons,h1 hb]
        congr 1
        show AC.dat k ((E.op .ite [b,e',e]).den Φ env)=AC.dat k (e'.den Φ env)
        rw[uy,if_pos hb]
      · simp only[map_cons,h2 hb]
        congr 1
        show AC.dat k ((E.op .ite [b,e',e]).den Φ env)=AC.dat k (e.den Φ env)
        rw[uy,if_neg hb]
    · cases h
   |_=>simp[mu] at h
  |_=>simp[mu] at h
 |[],_::_,_,h=>by simp[mu] at h
 |_::_,[],_,h=>by simp[mu] at h
theorem wq{cs:List E}(hc:holds Φ env cs):∀{l u:List (Nat×SOb)}{s:SSt},sH cs s l=some u->u.map (fun p=>(p.1,p.2.den Φ env))=l.map (fun p=>(p.1,p.2.den Φ env))
 |[],u,s,h=>by simp only[sH,Option.some.injEq] at h;subst h;rfl
 |(z,o)::l,u,s,h=>by
  cases o with
  |arr e ks dp xs=>
   simp only[sH] at h
   split at h
   · rename_i l' hz hl
     simp only[Option.some.injEq] at h
     subst h
     simp only[map_cons,wq hc hl]
     congr 2
     show Ob.arr e ks dp ((E.op .ite [tQ cs,xs,.nl]).den Φ env).ae=Ob.arr e ks dp (xs.den Φ env).ae
     rw[uy,if_pos ((md cs).2 hc)]
   · cases h
  |box T us=>
   simp only[sH] at h
   split at h
   · split at h
     · rename_i vs hv
       split at h
       · rename_i l' hl
         obtain⟨_,h⟩:=ak h
         simp only[Option.some.injEq] at h
         subst h
         simp only[map_cons,wq hc hl]
         congr 2
         show Ob.box T (vs.map (SC.den Φ env))=Ob.box T (us.map (SC.den Φ env))
         rw[(pP hv).1 ((md cs).2 hc)]
       · cases h
     · cases h
   · cases h
  |_=>simp[sH] at h
theorem Rel.EJ{σ σ':St}(R:Rel C g σ a w)(hob:∀x,σ'.obj x=σ.obj x) (hl:σ'.tmps.length=σ.tmps.length) (ht:∀t v,bB (sur C g σ w) (σ.tmp t) v->bB (sur C g σ w) (σ'.tmp t) v):Rel C g σ' a w:=by
 have hs:=wF (C:=C) (g:=g) (w:=w) hob
 exact⟨R.defers,R.size,by rw[hl];exact R.len,fun t=>by rw[hs];exact ht t _ (R.tmps t),fun x=>by rw[hs];exact R.objs x,R.own,R.apart,R.alw,R.fr,by rw[hs];exact R.pin⟩
theorem uI(cs:List E):∀(l:List (Nat×SOb))(s:SSt),(s.strip cs).bg l=(s.bg l).strip cs
 |[],_=>rfl
 |(z,o)::l,s=>uI cs l (s.aU z o)
theorem Rel.La{σ:St}(R:Rel C g σ a w){x:Nat}(hx:σ.obj x=none)(e:TypeId)(ks:List K)(dp:Bool):Rel C (g.upd x (.slice none 0 0) []) (σ.aU x (.arr e ks dp [])) a w:=by
 refine R.grow (Below.refl _ _) hx (fun b hb=>by simp[bq] at hb) (by simp) (fun b hb=>by simp at hb) ?_
 unfold bv
 simp only[sur,St.ap,if_pos,Gh.upd,bh]
 exact⟨[],[],World.ownsRow_nil _ _ _ _,by simp[al],rfl,rfl,rfl,fun i row vs f h=>by simp at h⟩
theorem sF{cs:List E}(hc:¬holds Φ env cs):∀{l u:List (Nat×SOb)}{g:Gh}{s:SSt},sH cs s l=some u->Rel C g (s.den Φ env) a w->∃g',Rel C g' ((s.bg u).den Φ env) a w
 |[],u,g,s,h,R=>by simp only[sH,Option.some.injEq] at h;subst h;exact⟨g,R⟩
 |(z,o)::l,u,g,s,h,R=>by
  cases o with
  |arr e ks dp xs=>
   simp only[sH] at h
   split at h
   · rename_i l' hz hl
     simp only[Option.some.injEq] at h
     subst h
     have R1:=R.La (x:=z) (by rw[SSt.eL,hz];rfl) e ks dp
     have e1:(s.den Φ env).aU z (.arr e ks dp [])=(s.aU z (.arr e ks dp (.op .ite [tQ cs,xs,.nl]))).den Φ env:=by
      rw[SSt.bK]
      congr 1
      show _=Ob.arr e ks dp ((E.op .ite [tQ cs,xs,.nl]).den Φ env).ae
      rw[uy,if_neg fun h=>hc ((md cs).1 h)]
      rfl
     rw[e1] at R1
     show ∃g',Rel C g' (((s.aU z (.arr e ks dp (.op .ite [tQ cs,xs,.nl]))).bg l').den Φ env) a w
     exact sF hc hl R1
   · cases h
  |box T us=>
   simp only[sH] at h
   split at h
   · rename_i T' ds hz
     split at h
     · rename_i vs hv
       split at h
       · rename_i l' hl
         obtain⟨hT,hx⟩:=ak h
         clear h
         replace hT:=beq_iff_eq.1 hT
         subst hT
         obtain rfl:=Option.some.inj hx
         have hob:∀x,((s.aU z (.box T vs)).den Φ env).obj x=(s.den Φ env).obj x:=fun x=>by
          rw[SSt.bK,St.ap]
          split
          · rename_i e
            subst e
            rw[aT hz]
            show some (Ob.box T (vs.map (SC.den Φ env)))=some (Ob.box T (ds.map (SC.den Φ env)))
            rw[(pP hv).2 fun h=>hc ((md cs).1 h)]
          · rfl
         have R1:Rel C g ((s.aU z (.box T vs)).den Φ env) a w:=R.EJ hob rfl fun t v h=>h
         show ∃g',Rel C g' (((s.aU z (.box T vs)).bg l').den Φ env) a w
         exact sF hc hl R1
       · cases h
     · cases h
   · cases h
  |_=>simp[sH] at h
theorem lr(R:Rel C g (s.den Φ env) a w){CT:Nat->Option Sig}(hCT:Told C.P Φ CT){ops:Array Oper}{cs:List E}{s':SSt}(h:wa C.T CT ops s o=some (cs,s'))(hc:holds Φ env cs)
 (next:Act->World->Prop) (Q:Exit->Act->World->Prop) (hn:∀a' w' g',Rel C g' (s'.den Φ env) a' w'->next a' w'):
 if Region.wanted o (yielded ops a.tmps)=true then o.wp C.P a w next Q else next (a.put o.dst undef) w:=by
 unfold wa at h
 split at h
 · rename_i d hd
   obtain⟨h1,h2⟩:=ak h
   clear h
   simp only[and_eq_true] at h1
   have hdn:d<C.n:=by rw[<-R.iM];exact le_of_ble_eq_true h1.1
   obtain⟨g1,R1⟩:=R.free d
   have hkey:(s.free d).obj (d*64)=none:=rN d s (le_of_ble_eq_true h1.2) (by omega)
   split at h2
   · rename_i hg
     have hw:=(fh R1 hg).2 (fun _ hc=>by simp at hc)
     rw[if_pos hw]
     split at h2
     · rename_i r hr
       simp only[Option.some.injEq,Prod.mk.injEq] at h2
       obtain⟨rfl,rfl⟩:=h2
       refine kz R1 hCT hkey hr hc next Q fun v w' g' hv R'=>hn _ _ g' ?_
       rw[SSt.eD,hd]
       exact R'.put hdn hv
     · cases h2
   · rename_i c cs0 hg
     split at h2
     · rename_i r hr
       cases h3:r.upd.isEmpty with
       |false=>
        rw[h3] at h2
        simp only[cond_false] at h2
        split at h2
        · rename_i u hu
          simp only[Option.some.injEq,Prod.mk.injEq] at h2
          obtain⟨rfl,rfl⟩:=h2
          have hwi:=fh R1 hg
          by_cases hall:holds Φ env (c::cs0)
          · rw[if_pos (hwi.2 hall)]
            have hkey':((s.free d).strip (c::cs0)).obj (d*64)=none:=hkey
            refine kz (R1.strip hall) hCT hkey' hr (fun e he=>vf _ _ (hc _ (mem_map.2 ⟨e,he,rfl⟩)) hall) next Q fun v w' g' hv R'=>hn _ _ g' ?_
            rw[uI] at hv R'
            have R2:=Rel.zk (cs:=c::cs0) R' hall
            have hob:∀x,(((s.free d).bg u).den Φ env).obj x=(((s.free d).bg r.upd).den Φ env).obj x:=qI (fun _=>rfl) (wq hall hu)
            have hs:=wF (C:=C) (g:=g') (w:=w') hob
            have R3:Rel C g' (((s.free d).bg u).den Φ env) _ w':=R2.EJ hob (by simp[SSt.den,SSt.fD]) fun t x hx=>by
             rw[SSt.fx] at hx⊢
             have:((s.free d).bg u).tmp t=((s.free d).bg r.upd).tmp t:=by unfold SSt.tmp;rw[SSt.fD,SSt.fD]
             rw[this]
             exact hx
            rw[SSt.eD,hd]
            exact R3.put hdn (n0 (fun _=>by rw[hs];exact hv) fun hno=>absurd hall hno)
          · rw[if_neg fun hq=>hall (hwi.1 hq)]
            obtain⟨g2,R2⟩:=sF hall hu R1
            refine hn _ _ g2 ?_
            rw[SSt.eD,hd]
            exact R2.put hdn (pr hall)
        · cases h2
       |true=>
       rw[h3] at h2
       simp only[cond_true,Option.some.injEq,Prod.mk.injEq] at h2
       obtain⟨rfl,rfl⟩:=h2
       have hupd:r.upd=[]:=by simpa using h3
       have hwi:=fh R1 hg
       by_cases hall:holds Φ env (c::cs0)
       · rw[if_pos (hwi.2 hall)]
         have hkey':((s.free d).strip (c::cs0)).obj (d*64)=none:=hkey
         refine kz (R1.strip hall) hCT hkey' hr (fun e he=>vf _ _ (hc _ (mem_map.2 ⟨e,he,rfl⟩)) hall) next Q fun v w' g' hv R'=>hn _ _ g' ?_
         rw[hupd] at hv R'
         have R2:=Rel.zk (s:=s.free d) (cs:=c::cs0) R' hall
         rw[SSt.eD,hd]
         exact R2.put hdn (n0 (fun _=>hv) fun hno=>absurd hall hno)
       · rw[if_neg fun hq=>hall (hwi.1 hq)]
         refine hn _ _ g1 ?_
         rw[SSt.eD,hd]
         exact R1.put hdn (pr hall)
     · cases h2
   · cases h2
 · rename_i hd
   split at h
   · rename_i hg
     have hw:Region.wanted o (yielded ops a.tmps)=true:=by unfold Region.wanted;rw[hg]
     rw[if_pos hw]
     obtain⟨g1,R1⟩:=R.free 100000
     have hkey:(s.free 100000).obj 6400000=none:=rN 100000 s (by decide) (by decide)
     split at h
     · rename_i r hr
       simp only[Option.some.injEq,Prod.mk.injEq] at h
       obtain⟨rfl,rfl⟩:=h
       refine kz R1 hCT hkey hr hc next Q fun v w' g' hv R'=>hn _ _ g' ?_
       rw[hd]
       exact R'
     · cases h
   · cases h
theorem wj{CT:Nat->Option Sig}(hCT:Told C.P Φ CT){ops:Array Oper}{Q:Exit->Act->World->Prop}:∀(l:List Nat){g:Gh}{s:SSt}{a:Act}{w:World}{cs:List E}{s':SSt},Rel C g (s.den Φ env) a w->
 tX C.T CT ops l s=some (cs,s')->holds Φ env cs->(∀a' w' g',Rel C g' (s'.den Φ env) a' w'->Q .normal a' w')->wpOps C.P ops Q l a w
 |[],g,s,a,w,cs,s',R,h,hc,hQ=>by
  simp only[tX,Option.some.injEq,Prod.mk.injEq] at h
  obtain⟨rfl,rfl⟩:=h
  exact hQ _ _ g R
 |i::l,g,s,a,w,cs,s',R,h,hc,hQ=>by
  simp only[tX] at h
  split at h
  · rename_i o ho
    split at h
    · rename_i cs1 s1 h1
      split at h
      · rename_i cs2 s2 h2
        simp only[Option.some.injEq,Prod.mk.injEq] at h
        obtain⟨rfl,rfl⟩:=h
        have:=lr R hCT h1 (fun e he=>hc e (mem_append.2 (.inl he))) (wpOps C.P ops Q l) Q (fun a' w' g' R'=>wj hCT l R' h2 (fun e he=>hc e (mem_append.2 (.inr he))) hQ)
        simp only[wpOps,ho]
        split at this
        · rename_i hw;rw[if_pos hw];exact .inl this
        · rename_i hw;rw[if_neg hw];exact this
      · cases h
    · cases h
  · cases h
theorem zf{CT:Nat->Option Sig}(hCT:Told C.P Φ CT){ops:Array Oper}{id:Nat}{Q:Exit->Act->World->Prop}{cs:List E}{s':SSt}(R:Rel C g (s.den Φ env) a w)
 (h:tX C.T CT ops (List.range ops.size) s=some (cs,s')) (hc:holds Φ env cs) (hQ:∀a' w' g',Rel C g' (s'.den Φ env) a' w'->Q .normal a' w'):(Code.region id ops false).wp C.P Q a w:=
 wp_region (wj hCT _ R h hc hQ)
def Cn(T:TypeId->TI)(CT:Nat->Option Sig)(ops:Array Oper)(s:SSt)(o:Oper):Option (List E×List E×SSt×SSt):=
 match o.dst with
 |some d=>bif Nat.blt d s.tmps.length&&Nat.blt d 1000000 then match iy (s.free d) ops o with
  |some (c::cs)=>match fOp T CT (d*64) ((s.free d).strip (c::cs)) o with
   |some r=>some (c::cs,r.cs,(((s.free d).strip (c::cs)).bg r.upd).ew d r.v,(s.free d).ew d .dead)
   |none=>none
  |_=>none
  else none
 |none=>none
theorem zC(R:Rel C g (s.den Φ env) a w){CT:Nat->Option Sig}(hCT:Told C.P Φ CT){ops:Array Oper}{gs cs:List E}{s1 s2:SSt}(h:Cn C.T CT ops s o=some (gs,cs,s1,s2))(hc:holds Φ env gs->holds Φ env cs)
 (next:Act->World->Prop) (Q:Exit->Act->World->Prop) (hn:holds Φ env gs->∀a' w' g',Rel C g' (s1.den Φ env) a' w'->next a' w') (hn':¬holds Φ env gs->∀a' w' g',Rel C g' (s2.den Φ env) a' w'->next a' w'):
 if Region.wanted o (yielded ops a.tmps)=true then o.wp C.P a w next Q else next (a.put o.dst undef) w:=by
 unfold Cn at h
 split at h
 · rename_i d hd
   obtain⟨h1,h2⟩:=ak h
   clear h
   simp only[and_eq_true] at h1
   have hdn:d<C.n:=by rw[<-R.iM];exact le_of_ble_eq_true h1.1
   obtain⟨g1,R1⟩:=R.free d
   have hkey:(s.free d).obj (d*64)=none:=rN d s (le_of_ble_eq_true h1.2) (by omega)
   split at h2
   · rename_i c0 cs0 hg
     split at h2
     · rename_i r hr
       simp only[Option.some.injEq,Prod.mk.injEq] at h2
       obtain⟨rfl,rfl,rfl,rfl⟩:=h2
       have hwi:=fh R1 hg
       by_cases hall:holds Φ env (c0::cs0)
       · rw[if_pos (hwi.2 hall)]
         have hkey':((s.free d).strip (c0::cs0)).obj (d*64)=none:=hkey
         refine kz (R1.strip hall) hCT hkey' hr (hc hall) next Q fun v w' g' hv R'=>hn hall _ _ g' ?_
         rw[SSt.eD,hd]
         exact R'.put hdn hv
       · rw[if_neg fun hq=>hall (hwi.1 hq)]
         refine hn' hall _ _ g1 ?_
         rw[SSt.eD,hd]
         exact R1.put hdn trivial
     · cases h2
   · cases h2
 · cases h
def se(N:List (List E))(cs:List E):Bool:=N.any fun ns=>ns.all fun c=>cs.any (E.eqb c)
theorem rX{N:List (List E)}(hN:∀ns∈N,¬holds Φ env ns) {cs:List E} (h:se N cs=true):¬holds Φ env cs:=fun hc=>by
 obtain⟨ns,hm,h1⟩:=any_eq_true.1 h
 refine hN ns hm fun c hcm=> ?_
 obtain⟨c',hm',he⟩:=any_eq_true.1 (all_eq_true.1 h1 c hcm)
 rw[E.aY he]
 exact hc c' hm'
def G7(N:List (List E))(ops:Array Oper)(s:SSt)(o:Oper):Option SSt:=match o.dst with
 |some d=>bif Nat.blt d s.tmps.length&&Nat.blt d 1000000 then match iy (s.free d) ops o with
  |some cs=>bif se N cs then some ((s.free d).ew d .dead) else none
  |none=>none
  else none
 |none=>none
theorem By(R:Rel C g (s.den Φ env) a w){N:List (List E)}(hN:∀ns∈N,¬holds Φ env ns) {ops:Array Oper} {s1:SSt} (h:G7 N ops s o=some s1)
 (next:Act->World->Prop) (Q:Exit->Act->World->Prop) (hn:∀a' w' g',Rel C g' (s1.den Φ env) a' w'->next a' w'):
 if Region.wanted o (yielded ops a.tmps)=true then o.wp C.P a w next Q else next (a.put o.dst undef) w:=by
 unfold G7 at h
 split at h
 · rename_i d hd
   obtain⟨h1,h2⟩:=ak h
   clear h
   simp only[and_eq_true] at h1
   have hdn:d<C.n:=by rw[<-R.iM];exact le_of_ble_eq_true h1.1
   obtain⟨g1,R1⟩:=R.free d
   split at h2
   · rename_i cs hg
     obtain⟨h3,h4⟩:=ak h2
     simp only[Option.some.injEq] at h4
     subst h4
     have hwi:=fh R1 hg
     rw[if_neg fun hq=>rX hN h3 (hwi.1 hq)]
     refine hn _ _ g1 ?_
     rw[SSt.eD,hd]
     exact R1.put hdn trivial
   · cases h2
 · cases h
def Hs(T:TypeId->TI)(N:List (List E))(ops:Array Oper)(s:SSt)(o:Oper):Option SSt:=match o.dst,o.op with
 |some d,.pick c x y=>bif Nat.blt d s.tmps.length&&Nat.blt d 1000000 then match iy (s.free d) ops o,(sev T 0 (s.free d) c).dn with
  |some [],.one (.dat .bool e)=>bif se N [.op .not [e]] then some ((s.free d).ew d (sev T o.type (s.free d) x)) else bif se N [e] then some ((s.free d).ew d (sev T o.type (s.free d) y)) else none
  |_,_=>none
  else none
 |_,_=>none
theorem Bd(R:Rel C g (s.den Φ env) a w){N:List (List E)}(hN:∀ns∈N,¬holds Φ env ns) {ops:Array Oper} {s1:SSt} (h:Hs C.T N ops s o=some s1)
 (next:Act->World->Prop) (Q:Exit->Act->World->Prop) (hn:∀a' w' g',Rel C g' (s1.den Φ env) a' w'->next a' w'):
 if Region.wanted o (yielded ops a.tmps)=true then o.wp C.P a w next Q else next (a.put o.dst undef) w:=by
 unfold Hs at h
 split at h
 · rename_i d c x y hd ho
   obtain⟨h1,h2⟩:=ak h
   clear h
   simp only[and_eq_true] at h1
   have hdn:d<C.n:=by rw[<-R.iM];exact le_of_ble_eq_true h1.1
   obtain⟨g1,R1⟩:=R.free d
   split at h2
   · rename_i e hg he
     have hw:=(fh R1 hg).2 (fun _ hc=>by simp at hc)
     rw[if_pos hw]
     have D:=(F8 R1 ho (bQ he)).does
     cases hb:(e.den Φ env).ZZ with
     |true=>
      rw[hb,if_pos rfl] at D
      have hs1:s1=(s.free d).ew d (sev C.T o.type (s.free d) x):=by
       cases h3:se N [.op .not [e]] with
       |true=>rw[h3] at h2;simpa using h2.symm
       |false=>
        rw[h3] at h2
        obtain⟨h4,_⟩:=ak h2
        exact absurd (fun c hc=>by rw[mem_singleton.1 hc];exact hb) (rX (Φ:=Φ) (env:=env) hN h4)
      refine D next Q fun v w' g' hv R'=>hn _ _ g' ?_
      rw[hs1,SSt.eD,gj,hd]
      exact R'.put hdn hv
     |false=>
      rw[hb,if_neg Bool.false_ne_true] at D
      have hs1:s1=(s.free d).ew d (sev C.T o.type (s.free d) y):=by
       cases h3:se N [.op .not [e]] with
       |true=>
        refine absurd (fun c hc=> ?_) (rX (Φ:=Φ) (env:=env) hN h3)
        rw[mem_singleton.1 hc]
        show(Go.Vx.D.bool (!((e.den Φ env).ZZ))).ZZ=true
        rw[hb];rfl
       |false=>
        rw[h3] at h2
        obtain⟨_,h5⟩:=ak h2
        simpa using h5.symm
      refine D next Q fun v w' g' hv R'=>hn _ _ g' ?_
      rw[hs1,SSt.eD,gj,hd]
      exact R'.put hdn hv
   · cases h2
 · cases h
end
end Go.Vx
namespace Go.Vx
open Go.RowKit (Below)
def Alike(τ s:SSt)(x:Operand):Prop:=∀t,x= .tmp t->τ.tmp t=s.tmp t
section
variable {T:TypeId->TI} {CT:Nat->Option Sig} {τ s:SSt} {key:Nat}
theorem Alike.sev{x:Operand}(h:Alike τ s x)(ty:TypeId):sev T ty τ x=sev T ty s x:=by
 cases x with
 |tmp t=>exact h t rfl
 |_=>rfl
theorem Gi(ho:∀y,τ.obj y=s.obj y) {t:TypeId} {x:Operand} (h:Alike τ s x):xv T τ t x=xv T s t x:=by
 unfold xv;simp only[h.sev,ho]
theorem wv(ho:∀y,τ.obj y=s.obj y) {t:TypeId} {x:Operand} {f:Nat} (h:Alike τ s x):jf T τ t x f=jf T s t x f:=by
 unfold jf;simp only[h.sev,ho]
theorem uZ(ho:∀y,τ.obj y=s.obj y) {t:TypeId} {x y:Operand} (h:Alike τ s x) (h':Alike τ s y):ja T τ t x y=ja T s t x y:=by
 unfold ja;simp only[h.sev,h'.sev,ho]
theorem HY{op:BinOp}{t u:TypeId}{x y:Operand}(h:Alike τ s x)(h':Alike τ s y):F6 T τ op t x y u=F6 T s op t x y u:=by
 unfold F6;simp only[h.sev,h'.sev]
theorem KM{op:BinOp}{t u:TypeId}{x y:Operand}(h:Alike τ s x)(h':Alike τ s y):fEq T τ op t x y u=fEq T s op t x y u:=by
 unfold fEq;simp only[h.sev,h'.sev]
theorem KJ{op:UnOp}{t:TypeId}{x:Operand}(h:Alike τ s x):fUn T τ op t x=fUn T s op t x:=by
 unfold fUn;simp only[h.sev]
theorem Fn{st t:TypeId}{x:Operand}(h:Alike τ s x):xg T τ st t x=xg T s st t x:=by
 unfold xg;simp only[h.sev]
theorem HL(ho:∀y,τ.obj y=s.obj y) {t:TypeId} {ks:List K} {x:Operand} (h:Alike τ s x):CX T τ t ks x=CX T s t ks x:=by
 unfold CX;simp only[h.sev,ho]
theorem Dy(ho:∀y,τ.obj y=s.obj y) {st t:TypeId} {x:Operand} (h:Alike τ s x):sB T τ st t x=sB T s st t x:=by
 unfold sB;simp only[HL ho h]
theorem CG{t:TypeId}{x y:Operand}(h:Alike τ s x)(h':Alike τ s y):sm T τ t x y=sm T s t x y:=by
 unfold sm;simp only[h.sev,h'.sev]
theorem FS{ty:TypeId}{c x y:Operand}(h0:Alike τ s c)(h:Alike τ s x)(h':Alike τ s y):yl T τ ty c x y=yl T s ty c x y:=by
 unfold yl;simp only[h0.sev,h.sev,h'.sev]
theorem JE(ho:∀y,τ.obj y=s.obj y) {t:TypeId} {x:Operand} (h:Alike τ s x):Fi T τ t x=Fi T s t x:=by
 unfold Fi;simp only[h.sev,ho]
theorem Ay{d:E}{x:Option Operand}(h:∀y,x=some y->Alike τ s y):tV T τ d x=tV T s d x:=by
 cases x with
 |none=>rfl
 |some y=>simp only[tV,(h y rfl).sev]
theorem DV(ho:∀y,τ.obj y=s.obj y) {t:TypeId} {x:Operand} {lo hi:Option Operand} (h:Alike τ s x) (hl:∀y,lo=some y->Alike τ s y) (hh:∀y,hi=some y->Alike τ s y):rQ T τ t x lo hi=rQ T s t x lo hi:=by
 unfold rQ;simp only[h.sev,ho,Ay hl,Ay hh]
theorem yG{x:Operand}{i:Nat}(h:Alike τ s x):l9 T τ x i=l9 T s x i:=by
 unfold l9;simp only[h.sev]
theorem C4{t:TypeId}{x:Operand}{f:Nat}(h:Alike τ s x):rP T τ t x f=rP T s t x f:=by
 unfold rP;simp only[h.sev]
theorem wI(ho:∀y,τ.obj y=s.obj y) {x:Operand} (h:Alike τ s x):kh T τ x=kh T s x:=by
 unfold kh;simp only[h.sev,ho]
theorem mg(ho:∀y,τ.obj y=s.obj y) (k:K) (c:SC):jP τ k c=jP s k c:=by
 cases c<;>simp only[jP,ho]
theorem uR(ho:∀y,τ.obj y=s.obj y):∀(ks:List K)(cs:List SC),eQ τ ks cs=eQ s ks cs
 |[],[]=>rfl
 |[],_::_=>rfl
 |_::_,[]=>rfl
 |k::ks,c::cs=>by simp only[eQ,mg ho,uR ho ks cs]
theorem wo(ho:∀y,τ.obj y=s.obj y) {ty:TypeId} {x:Operand} (h:Alike τ s x) (sh:ASh):rb T τ ty x sh=rb T s ty x sh:=by
 cases sh<;>simp only[rb,h.sev,mg ho,uR ho]
theorem sP(ho:∀y,τ.obj y=s.obj y):∀(hs:List ASh)(ts:List TypeId)(xs:List Operand),(∀x∈xs,Alike τ s x)->lN T τ hs ts xs=lN T s hs ts xs
 |[],[],[],_=>rfl
 |h::hs,t::ts,x::xs,hx=>by
  simp only[lN,wo ho (hx x (by simp)),sP ho hs ts xs fun y hy=>hx y (by simp[hy])]
 |[],[],_::_,_=>rfl
 |[],_::_,_,_=>rfl
 |_::_,[],_,_=>rfl
 |_::_,_::_,[],_=>rfl
theorem xY(ho:∀y,τ.obj y=s.obj y) {f:Nat} {ts:List TypeId} {xs:List Operand} (h:∀x∈xs,Alike τ s x):tq T CT key τ f ts xs=tq T CT key s f ts xs:=by
 unfold tq
 simp only[sP ho _ _ _ h,ho]
theorem xH(ho:∀y,τ.obj y=s.obj y) (c:RC) (x:SC):oO τ c x=oO s c x:=by
 cases c with
 |im k=>simp only[oO,mg ho]
 |own t ks dp=>
  cases x with
  |ref z p=>cases p<;>simp only[oO,ho]
  |_=>rfl
theorem v2(ho:∀y,τ.obj y=s.obj y):∀(cs:List RC)(xs:List SC),jJ τ cs xs=jJ s cs xs
 |[],[]=>rfl
 |[],_::_=>rfl
 |_::_,[]=>rfl
 |c::cs,x::xs=>by simp only[jJ,xH ho,v2 ho cs xs]
theorem GN(ho:∀y,τ.obj y=s.obj y) {ty:TypeId} {x:Operand} (h:Alike τ s x) (sh:XSh):xarg T τ ty x sh=xarg T s ty x sh:=by
 cases sh<;>simp only[xarg,h.sev,wo ho h,xH ho,v2 ho]
theorem sN(ho:∀y,τ.obj y=s.obj y):∀(hs:List XSh)(ts:List TypeId)(xs:List Operand),(∀x∈xs,Alike τ s x)->jN T τ hs ts xs=jN T s hs ts xs
 |[],[],[],_=>rfl
 |h::hs,t::ts,x::xs,hx=>by
  simp only[jN,GN ho (hx x (by simp)),sN ho hs ts xs fun y hy=>hx y (by simp[hy])]
 |[],[],_::_,_=>rfl
 |[],_::_,_,_=>rfl
 |_::_,[],_,_=>rfl
 |_::_,_::_,[],_=>rfl
theorem DS(ho:∀y,τ.obj y=s.obj y) {args:List XSh} {ax:List RSh} {f:Nat} {ts:List TypeId} {xs:List Operand} (h:∀x∈xs,Alike τ s x):sQ T args ax τ f ts xs=sQ T args ax s f ts xs:=by
 unfold sQ
 rw[sN ho _ _ _ h]
 cases jN T s args ts xs with
 |some q=>rfl
 |none=>
  rcases args with _|⟨a,args⟩
  · rfl
  · rcases ts with _|⟨ty,ts⟩
    · cases a with
      |one c=>cases c<;>rfl
      |_=>rfl
    · rcases xs with _|⟨x,xs⟩
      · cases a with
        |one c=>cases c<;>rfl
        |_=>rfl
      · have h1:=sN (T:=T) ho args ts xs fun y hy=>h y (by simp[hy])
        have h2:=(h x (by simp)).sev (T:=T) ty
        cases a with
        |one c=>
         cases c with
         |own t ks dp=>simp only[h1,h2,ho]
         |_=>rfl
        |_=>rfl
theorem oC(ho:∀y,τ.obj y=s.obj y) (c:SC):lY τ c=lY s c:=by
 cases c<;>simp only[lY,ho]
theorem GB(ho:∀y,τ.obj y=s.obj y) (v:SV):BG τ v=BG s v:=by
 cases v<;>simp only[BG,oC ho]
 exact congrArg (fun f=>List.flatMap f _) (funext fun c=>oC ho c)
theorem yf(ho:∀y,τ.obj y=s.obj y) (c:BC) (x:SC):eI τ c x=eI s c x:=by
 cases c with
 |keep k=>simp only[eI,mg ho,oC ho]
 |im k=>simp only[eI,mg ho,oC ho]
 |own t ks=>
  cases x with
  |ref z p=>cases p<;>simp only[eI,ho]
  |_=>rfl
 |ex t ks pin=>
  cases x with
  |ref z p=>cases p<;>simp only[eI,ho]
  |_=>rfl
theorem vk(ho:∀y,τ.obj y=s.obj y):∀(cs:List BC)(xs:List SC),dL τ cs xs=dL s cs xs
 |[],[]=>rfl
 |[],_::_=>rfl
 |_::_,[]=>rfl
 |c::cs,x::xs=>by simp only[dL,yf ho,vk ho cs xs]
theorem Ik(ho:∀y,τ.obj y=s.obj y) {ty:TypeId} {x:Operand} (h:Alike τ s x) (sh:BSh):Ad T τ ty x sh=Ad T s ty x sh:=by
 cases sh<;>simp only[Ad,h.sev,wo ho h,GB ho,yf ho,vk ho,ho]
theorem oE(ho:∀y,τ.obj y=s.obj y):∀(hs:List BSh)(ts:List TypeId)(xs:List Operand),(∀x∈xs,Alike τ s x)->jD T τ hs ts xs=jD T s hs ts xs
 |[],[],[],_=>rfl
 |h::hs,t::ts,x::xs,hx=>by
  simp only[jD,Ik ho (hx x (by simp)),oE ho hs ts xs fun y hy=>hx y (by simp[hy])]
 |[],[],_::_,_=>rfl
 |[],_::_,_,_=>rfl
 |_::_,[],_,_=>rfl
 |_::_,_::_,[],_=>rfl
theorem tx(ho:∀y,τ.obj y=s.obj y) {args:List BSh} {ax:List RSh} {f:Nat} {ts:List TypeId} {xs:List Operand} (h:∀x∈xs,Alike τ s x):kZ T args ax key τ f ts xs=kZ T args ax key s f ts xs:=by
 unfold kZ
 simp only[oE ho _ _ _ h,ho]
theorem Ae{τ s:SSt}(ho:∀y,τ.obj y=s.obj y) (x:Nat) (q:SOb):∀y,(τ.aU x q).obj y=(s.aU x q).obj y:=fun y=>by
 have hd:∀l:List (Nat×SOb),cI y (jO x l)=if y=x then none else cI y l:=fun l=>by
  induction l with
  |nil=>simp[jO,cI]
  |cons p l ih=>
   obtain⟨z,o⟩:=p
   by_cases hz:x=z
   · subst hz
     simp only[jO,beq_self_eq_true,cond_true,ih,cI]
     by_cases hy:y=x
     · simp[hy]
     · have:(y==x)=false:=by simpa using hy
       simp[hy,this]
   · have hz':(x==z)=false:=by simpa using hz
     simp only[jO,hz',cond_false,cI,ih]
     by_cases hy:y=z
     · subst hy
       have:¬y=x:=fun e=>hz e.symm
       simp[this]
     · have:(y==z)=false:=by simpa using hy
       simp[this]
 show cI y ((x,q)::jO x τ.objs)=cI y ((x,q)::jO x s.objs)
 simp only[cI,hd]
 cases hyx:y==x with
 |true=>rfl
 |false=>
  have:¬y=x:=by simpa using hyx
  simp only[cond_false,if_neg this]
  exact ho y
theorem oB:∀(zs:List Nat){τ s:SSt},(∀y,τ.obj y=s.obj y)->mT τ zs=mT s zs
 |[],_,_,_=>rfl
 |z::zs,τ,s,ho=>by
  simp only[mT,ho z]
  split
  · rw[oB zs (Ae ho _ _)]
  · exact oB zs ho
  · rfl
theorem uX:∀(l:List (Nat×SOb)){τ s:SSt},(∀y,τ.obj y=s.obj y)->∀y,(τ.bg l).obj y=(s.bg l).obj y
 |[],_,_,ho=>ho
 |(x,o)::l,τ,s,ho=>uX l (Ae ho x o)
theorem SSt.qh(l:List (Nat×SOb))(s:SSt)(t:Nat):(s.bg l).tmp t=s.tmp t:=by unfold SSt.tmp;rw[SSt.fD]
theorem CO(ho:∀y,τ.obj y=s.obj y) {args:List BSh} {ax:List RSh} {f:Nat} {ts:List TypeId} {xs:List Operand} (h:∀x∈xs,Alike τ s x):rY T args ax key τ f ts xs=rY T args ax key s f ts xs:=by
 unfold rY
 rw[tx ho h,oE ho _ _ _ h]
 cases kZ T args ax key s f ts xs with
 |some r=>rfl
 |none=>
  cases jD T s args ts xs with
  |none=>rfl
  |some t=>
   simp only
   rw[oB _ ho]
   cases mT s t.ls with
   |none=>rfl
   |some l=>
    simp only
    rw[tx (uX l ho) fun x hx t e=>by rw[SSt.qh,SSt.qh];exact h x hx t e]
theorem CD(ho:∀y,τ.obj y=s.obj y) {args:List ASh} {f:Nat} {ts:List TypeId} {xs:List Operand} (h:∀x∈xs,Alike τ s x):sJ T CT args key τ f ts xs=sJ T CT args key s f ts xs:=by
 unfold sJ
 rw[xY ho h,oE ho _ _ _ h]
 cases tq T CT key s f ts xs with
 |some r=>rfl
 |none=>
  cases jD T s (args.map BSh.im) ts xs with
  |none=>rfl
  |some t=>
   simp only
   rw[oB _ ho]
   cases mT s t.ls with
   |none=>rfl
   |some l=>
    simp only
    rw[xY (uX l ho) fun x hx t e=>by rw[SSt.qh,SSt.qh];exact h x hx t e]
theorem Db(ho:∀y,τ.obj y=s.obj y) {t:TypeId} {ks:List K} {f:Nat} {ts:List TypeId} {xs:List Operand} (h:∀x∈xs,Alike τ s x):r9 T t ks τ f ts xs=r9 T t ks s f ts xs:=by
 unfold r9
 split
 · rename_i ty x
   simp only[(h x (by simp)).sev,ho]
 · rfl
theorem DF(ho:∀y,τ.obj y=s.obj y) {args:List ASh} {bt:TypeId} {ks:List K} {f:Nat} {ts:List TypeId} {xs:List Operand} (h:∀x∈xs,Alike τ s x):rS T args bt ks key τ f ts xs=rS T args bt ks key s f ts xs:=by
 unfold rS
 simp only[sP ho _ _ _ h,ho]
theorem Dk(ho:∀y,τ.obj y=s.obj y) {f:Nat} {ts:List TypeId} {xs:List Operand} (h:∀x∈xs,Alike τ s x):vZ T CT key τ f ts xs=vZ T CT key s f ts xs:=by
 unfold vZ
 cases CT f with
 |none=>rfl
 |some sg=>
  simp only
  cases sg.xs with
  |none=>
   cases sg.so with
   |some q=>exact Db ho h
   |none=>
    cases sg.bs with
    |none=>
     cases sg.nb with
     |none=>exact CD ho h
     |some q=>exact DF ho h
    |some l=>exact CO ho h
  |some l=>exact DS ho h
theorem Cy{t:TypeId}{parts:List (Nat×Operand)}(h:∀p∈parts,Alike τ s p.2):rR T τ t parts=rR T s t parts:=by
 unfold rR
 have e:(parts.map fun p=>(p.1,sev T (((T t).gI.getD p.1 (0,0)).2) τ p.2))=parts.map fun p=>(p.1,sev T (((T t).gI.getD p.1 (0,0)).2) s p.2):=
  List.map_congr_left fun p hp=>by rw[(h p hp).sev]
 rw[e]
def jo(o:Oper):Bool:=match o.op with
 | .move _| .assign _| .load .. | .fieldAddr .. | .indexAddr .. | .binOp .. | .unOp .. | .convert .. | .index .. | .pick .. | .extract .. | .field .. | .nilCheck _| .build .. =>true
 | .slice _ _ _ _ none=>true
 | .call c=>match c.callee with
   | .value (.func _)=>true
   | .builtin .len=>true
   |_=>false
 |_=>false
theorem Ex(ho:∀y,τ.obj y=s.obj y) {o:Oper} (hq:jo o=true) (h:∀x∈o.op.operands.toList,Alike τ s x):fOp T CT key τ o=fOp T CT key s o:=by
 obtain⟨dst,op,type,pos,after,guard⟩:=o
 cases op with
 |move x=>simp only[fOp,opF,(h x (by simp[Op.operands])).sev]
 |assign x=>simp only[fOp,opF,(h x (by simp[Op.operands])).sev]
 |load t x=>exact Gi ho (h x (by simp[Op.operands]))
 |fieldAddr t x f=>exact wv ho (h x (by simp[Op.operands]))
 |indexAddr t x y=>exact uZ ho (h x (by simp[Op.operands])) (h y (by simp[Op.operands]))
 |binOp op t x y u=>simp only[fOp,opF,HY (op:=op) (t:=t) (u:=u) (h x (by simp[Op.operands])) (h y (by simp[Op.operands])),KM (op:=op) (t:=t) (u:=u) (h x (by simp[Op.operands])) (h y (by simp[Op.operands]))]
 |unOp op t x=>exact KJ (h x (by simp[Op.operands]))
 |convert st t x=>simp only[fOp,opF,Fn (st:=st) (t:=t) (h x (by simp[Op.operands])),Dy (st:=st) (t:=t) ho (h x (by simp[Op.operands]))]
 |index t x y=>exact CG (h x (by simp[Op.operands])) (h y (by simp[Op.operands]))
 |pick c x y=>exact FS (h c (by simp[Op.operands])) (h x (by simp[Op.operands])) (h y (by simp[Op.operands]))
 |extract x i=>exact yG (h x (by simp[Op.operands]))
 |field t x f=>exact C4 (h x (by simp[Op.operands]))
 |build t parts=>exact Cy fun p hp=>h p.2 (by simp only[Op.operands,Array.toList_map,mem_map];exact⟨p,hp,rfl⟩)
 |nilCheck x=>exact wI ho (h x (by simp[Op.operands]))
 |slice t x lo hi m=>
  cases m with
  |none=>exact DV ho (h x (by simp[Op.operands])) (fun y hy=>h y (by simp[Op.operands,hy])) (fun y hy=>h y (by simp[Op.operands,hy]))
  |some m=>simp[jo] at hq
 |call c=>
  obtain⟨callee,args,argTypes⟩:=c
  cases callee with
  |value f=>
   cases f with
   |func f=>exact Dk ho fun x hx=>h x (by simp[Op.operands,Call.operands,mem_toList_iff.1 hx])
   |_=>simp[jo] at hq
  |builtin b=>
   cases b with
   |len=>
    simp only[fOp,opF]
    split
    · rename_i x t _ hx _
      exact JE ho (h x (by simp[Op.operands,Call.operands,<-mem_toList_iff,hx]))
    · rename_i hb _ _;cases hb
    · rename_i hb _ _;cases hb
    · rename_i hb _ _;cases hb
    · rfl
   |_=>simp[jo] at hq
  |invoke _ _=>simp[jo] at hq
 |_=>simp[jo] at hq
end
end Go.Vx
namespace Go.Vx
open Go.RowKit (Below)
def lg(T:TypeId->TI)(CT:Nat->Option Sig)(ops:Array Oper)(s:SSt)(o:Oper):Option (Nat×List E×SV):=
 match o.dst,iy s ops o with
 |some d,some cs=>bif jo o&&Nat.blt d s.tmps.length then match fOp T CT (d*64) (s.strip cs) o with
  |some r=>bif r.upd.isEmpty then some (d,r.cs.map (Fv cs),wrap cs r.v) else none
  |none=>none
  else none
 |_,_=>none
section
variable {Φ:Fns} {env:List D} {C:Cx} {g:Gh} {s τ:SSt} {a:Act} {w:World} {o:Oper}
theorem tu(R:Rel C g (s.den Φ env) a w){CT:Nat->Option Sig}(hCT:Told C.P Φ CT){ops:Array Oper}{d:Nat}{cs:List E}{v:SV}(h:lg C.T CT ops s o=some (d,cs,v))(hkey:s.obj (d*64)=none)
 (hc:holds Φ env cs) (next:Act->World->Prop) (Q:Exit->Act->World->Prop) (hn:∀a' w' g',Rel C g' ((s.ew d v).den Φ env) a' w'->next a' w'):
 if Region.wanted o (yielded ops a.tmps)=true then o.wp C.P a w next Q else next (a.put o.dst undef) w:=by
 unfold lg at h
 split at h
 · rename_i d' cs0 hd hg
   obtain⟨h1,h2⟩:=ak h
   clear h
   simp only[and_eq_true] at h1
   split at h2
   · rename_i r hr
     obtain⟨h3,h4⟩:=ak h2
     clear h2
     simp only[Option.some.injEq,Prod.mk.injEq] at h4
     obtain⟨rfl,rfl,rfl⟩:=h4
     have hdn:d'<C.n:=by rw[<-R.iM];exact le_of_ble_eq_true h1.2
     have hupd:r.upd=[]:=by simpa using h3
     have hwi:=fh R hg
     by_cases hall:holds Φ env cs0
     · rw[if_pos (hwi.2 hall)]
       have hkey':(s.strip cs0).obj (d'*64)=none:=hkey
       refine kz (R.strip hall) hCT hkey' hr (fun e he=>vf _ _ (hc _ (mem_map.2 ⟨e,he,rfl⟩)) hall) next Q fun x w' g' hv R'=>hn _ _ g' ?_
       rw[hupd] at hv R'
       have R2:=Rel.zk (s:=s) (cs:=cs0) R' hall
       rw[SSt.eD,hd]
       exact R2.put hdn (n0 (fun _=>hv) fun hno=>absurd hall hno)
     · rw[if_neg fun hq=>hall (hwi.1 hq)]
       refine hn _ _ g ?_
       rw[SSt.eD,hd]
       exact R.put hdn (pr hall)
   · cases h2
 · cases h
theorem xE{T:TypeId->TI}{CT:Nat->Option Sig}{ops:Array Oper}(ho:∀y,τ.obj y=s.obj y) (hl:τ.tmps.length=s.tmps.length) (h:∀t∈o.looksAt ops,τ.tmp t=s.tmp t):lg T CT ops τ o=lg T CT ops s o:=by
 have hg:iy τ ops o=iy s ops o:=by
  unfold iy
  cases hgu:o.guard with
  |none=>rfl
  |some q=>
   obtain⟨j,want⟩:=q
   simp only
   cases hj:(ops[j]?).bind (·.dst) with
   |none=>rfl
   |some t=>
    have:=h t (by simp[Oper.looksAt,hgu,hj])
    simp only[this]
 have hx:∀cs,∀x∈o.op.operands.toList,Alike (τ.strip cs) (s.strip cs) x:=fun cs x hx t ht=>by
  subst ht
  rw[ou,ou,h t]
  unfold Oper.looksAt
  refine mem_append.2 (.inl (List.mem_filterMap.2 ⟨.tmp t,hx,rfl⟩))
 unfold lg
 rw[hg,hl]
 cases o.dst with
 |none=>rfl
 |some d=>
  cases iy s ops o with
  |none=>rfl
  |some cs=>
   simp only
   cases hq:jo o with
   |false=>rfl
   |true=>
    rw[Ex (τ:=τ.strip cs) (s:=s.strip cs) (fun y=>ho y) hq (hx cs)]
end
end Go.Vx
namespace Go.Vx
open Go.RowKit (Below)
abbrev Plan:=List (Nat×List E×SV)
def yS(T:TypeId->TI)(CT:Nat->Option Sig)(ops:Array Oper):List Nat->SSt->Option (Plan×SSt)
 |[],s=>some ([],s)
 |i::l,s=>match ops[i]? with
  |some o=>match lg T CT ops s o with
   |some (d,cs,v)=>match yS T CT ops l (s.ew d v) with
    |some (p,s')=>some ((d,cs,v)::p,s')
    |none=>none
   |none=>none
  |none=>none
def dU:List Nat->SSt->SSt
 |[],s=>s
 |d::ds,s=>dU ds (s.free d)
def binding(ops:Array Oper)(i j:Nat):Bool:=match ops[i]? with
 |some o=>o.after.toList.any fun e=>Region.binds .any e&&e.on==j
 |none=>false
def nR(ops:Array Oper)(i t:Nat):Bool:=match ops[i]? with
 |some o=>(o.looksAt ops).any fun u=>u==t
 |none=>false
def zw(ops:Array Oper)(p:Plan)(n:Nat):Bool:=
 (List.range n).all fun i=>
   (match ops[i]? with
     |some o=>o.after.toList.all fun e=> !Region.binds .any e||Nat.blt e.on i
     |none=>false)&&
   (List.range n).all fun j=>match p[i]?,p[j]? with
     |some pi,some pj=>(i==j|| !(pi.1==pj.1))&&(!nR ops i pj.1||bif Nat.blt j i then binding ops i j else i==j||binding ops j i)
     |_,_=>false
def sn(ops:Array Oper):List Nat:=ops.toList.filterMap (·.dst)
def Ov(T:TypeId->TI)(CT:Nat->Option Sig)(ops:Array Oper)(s:SSt):Option (List E×SSt):=
 match yS T CT ops (List.range ops.size) (dU (sn ops) s) with
 |some (p,s')=>bif zw ops p ops.size&&p.all fun q=>Nat.blt q.1 s.tmps.length&&match(dU (sn ops) s).obj (q.1*64) with|none=>true|some _=>false then some (p.flatMap fun q=>q.2.1,s') else none
 |none=>none
section
variable {Φ:Fns} {env:List D} {C:Cx} {g:Gh} {s τ:SSt} {a:Act} {w:World} {p:Plan}
structure Has (s:SSt) (p:Plan) (L:Nat->Prop) (τ:SSt):Prop where
 objs:τ.objs=s.objs
 len:τ.tmps.length=s.tmps.length
 new:∀j q,p[j]? =some q->L j->τ.tmp q.1=q.2.2
 old:∀t,(∀j q,p[j]? =some q->L j->q.1≠t)->τ.tmp t=s.tmp t
theorem n5{s:SSt}{t u:Nat}{v:SV}(h:t<s.tmps.length):(s.ew t v).tmp u=if u=t then v else s.tmp u:=by
 unfold SSt.tmp SSt.ew
 simp only[getD_eq_getElem?_getD,List.getElem?_set]
 by_cases e:t=u
 · subst e;simp[h]
 · simp[e,show ¬u=t from fun h=>e h.symm]
def Apart(p:Plan):Prop:=∀(i j:Nat)(q r:Nat×List E×SV),p[i]? =some q->p[j]? =some r->q.1=r.1->i=j
theorem Has.step{L L':Nat->Prop}(h:Has s p L τ)(hp:Apart p){i:Nat}{q:Nat×List E×SV}(hi:p[i]? =some q)(hd:q.1<s.tmps.length)(hL:∀j,L' j↔L j∨j=i):Has s p L' (τ.ew q.1 q.2.2):=by
 have hl:q.1<τ.tmps.length:=by rw[h.len];exact hd
 refine⟨h.objs,by rw[show(τ.ew q.1 q.2.2).tmps=τ.tmps.set q.1 q.2.2 from rfl,List.length_set];exact h.len,fun j r hj hLj=> ?_,fun t ht=> ?_⟩
 · rw[n5 hl]
   by_cases e:r.1=q.1
   · have:=hp j i r q hj hi e
     subst this
     rw[hi] at hj
     simp only[Option.some.injEq] at hj
     subst hj
     rw[if_pos rfl]
   · rw[if_neg e]
     rcases(hL j).1 hLj with h1|h1
     · exact h.new j r hj h1
     · subst h1
       rw[hi] at hj
       simp only[Option.some.injEq] at hj
       subst hj
       exact absurd rfl e
 · rw[n5 hl,if_neg fun e=>ht i q hi ((hL i).2 (.inr rfl)) e.symm]
   exact h.old t fun j r hj hLj=>ht j r hj ((hL j).2 (.inl hLj))
theorem Bm{T:TypeId->TI}{CT:Nat->Option Sig}{ops:Array Oper}{s:SSt}{p:Plan}(hp:Apart p)(hd:∀q∈p,q.1<s.tmps.length):∀(m k:Nat){pre suf:Plan}{τ τ':SSt},p=pre++suf->pre.length=k->Has s p (· <k) τ->yS T CT ops (range' k m) τ=some (suf,τ')->
 Has s p (· <k+m) τ'∧∀i q,k<=i->i<k+m->p[i]? =some q->∃o τi,ops[i]? =some o∧Has s p (· <i) τi∧lg T CT ops τi o=some q
 |0,k,pre,suf,τ,τ',he,hk,h,hq=>by
  simp only[range'_zero,yS,Option.some.injEq,Prod.mk.injEq] at hq
  obtain⟨rfl,rfl⟩:=hq
  exact⟨h,fun i q h1 h2=>by omega⟩
 |m+1,k,pre,suf,τ,τ',he,hk,h,hq=>by
  simp only[range'_succ,yS] at hq
  split at hq
  · rename_i o ho
    split at hq
    · rename_i d cs v h1
      split at hq
      · rename_i suf' τ1 h2
        simp only[Option.some.injEq,Prod.mk.injEq] at hq
        obtain⟨rfl,rfl⟩:=hq
        have hi:p[k]? =some (d,cs,v):=by rw[he,getElem?_append_right (by omega),hk];simp
        have hs:=h.step hp hi (hd _ (mem_of_getElem? hi)) (L':=(· <k+1)) (fun j=>by omega)
        obtain⟨a1,a2⟩:=Bm hp hd m (k+1) (pre:=pre++[(d,cs,v)]) (by rw[he];simp) (by simp[hk]) hs h2
        refine⟨by rw[show k+(m+1)=k+1+m by omega];exact a1,fun i q q1 q2 q3=> ?_⟩
        by_cases e:i=k
        · subst e
          rw[hi] at q3
          simp only[Option.some.injEq] at q3
          subst q3
          exact⟨o,τ,ho,h,h1⟩
        · exact a2 i q (by omega) (by omega) q3
      · cases hq
    · cases hq
  · cases hq
theorem th{T:TypeId->TI}{CT:Nat->Option Sig}{ops:Array Oper}:∀(l:List Nat){s s':SSt}{p:Plan},yS T CT ops l s=some (p,s')->p.length=l.length
 |[],s,s',p,h=>by simp only[yS,Option.some.injEq,Prod.mk.injEq] at h;obtain⟨rfl,rfl⟩:=h;rfl
 |i::l,s,s',p,h=>by
  simp only[yS] at h
  split at h
  · split at h
    · split at h
      · rename_i h2
        simp only[Option.some.injEq,Prod.mk.injEq] at h
        obtain⟨rfl,rfl⟩:=h
        simp[th l h2]
      · cases h
    · cases h
  · cases h
theorem Rel.dU:∀(ds:List Nat){g:Gh}{s:SSt},Rel C g (s.den Φ env) a w->∃g',Rel C g' ((dU ds s).den Φ env) a w
 |[],g,s,R=>⟨g,R⟩
 |d::ds,g,s,R=>by
  obtain⟨g1,R1⟩:=R.free d
  exact Rel.dU ds R1
theorem tn:∀(ds:List Nat)(s:SSt),(Vx.dU ds s).tmps.length=s.tmps.length
 |[],s=>rfl
 |d::ds,s=>by rw[Vx.dU,tn ds,Hl]
structure Inv (Φ:Fns) (env:List D) (C:Cx) (s:SSt) (ops:Array Oper) (p:Plan) (fuel:Nat) (listed:Array Bool) (a:Act) (w:World):Prop where
 size:listed.size=ops.size
 fuel:listed.toList.count false<=fuel
 closed:∀i j,listed.getD i false=true->binding ops i j=true->listed.getD j false=true
 rel:∃g τ,Rel C g (τ.den Φ env) a w∧Has s p (fun i=>listed.getD i false=true) τ
theorem dV{ops:Array Oper}{listed:Array Bool}{i j:Nat}(hr:i∈Region.ready .any ops listed)(hb:binding ops i j=true):listed.getD j false=true:=by
 obtain⟨_,o,ho,hall⟩:=mem_ready.1 hr
 unfold binding at hb
 rw[ho] at hb
 simp only[any_eq_true,and_eq_true,beq_iff_eq] at hb
 obtain⟨e,he,h1,rfl⟩:=hb
 exact hall e (mem_toList_iff.1 he) h1
theorem FI{CT:Nat->Option Sig}(hCT:Told C.P Φ CT){ops:Array Oper}{Q:Exit->Act->World->Prop}{s s':SSt}{p:Plan}(hq:yS C.T CT ops (List.range ops.size) s=some (p,s'))(hok:zw ops p ops.size=true)
 (hd:∀q∈p,q.1<s.tmps.length) (hkey:∀q∈p,s.obj (q.1*64)=none) (hc:∀q∈p,holds Φ env q.2.1) (hQ:∀a' w' g',Rel C g' (s'.den Φ env) a' w'->Q .normal a' w'):
 ∀(fuel:Nat)(listed:Array Bool)(a:Act)(w:World),Inv Φ env C s ops p fuel listed a w->wpAny C.P .any ops Q fuel listed a w:=by
 have hlen:=th _ hq
 rw[List.length_range] at hlen
 simp only[zw,all_eq_true,mem_range,and_eq_true] at hok
 have hget:∀i,i<ops.size->∃q,p[i]? =some q:=fun i hi=>⟨p[i],List.getElem?_eq_getElem (by omega)⟩
 have hlt:∀i q,p[i]? =some q->i<ops.size:=fun i q h=>by rw[<-hlen];exact(List.getElem?_eq_some_iff.1 h).1
 have pair:∀i j q r,p[i]? =some q->p[j]? =some r->((i==j|| !(q.1==r.1))&&(!nR ops i r.1||bif Nat.blt j i then binding ops i j else i==j||binding ops j i))=true:=fun i j q r h1 h2=>by
  have:=(hok i (hlt i q h1)).2 j (hlt j r h2)
  rw[h1,h2] at this
  exact this
 have hap:Apart p:=fun i j q r h1 h2 he=>by
  have:=pair i j q r h1 h2
  simp only[and_eq_true,or_eq_true,beq_iff_eq,not_eq_true',beq_eq_false_iff_ne] at this
  exact this.1.resolve_right fun h=>h he
 have h0:Has s p (fun i=>i<0) s:=⟨rfl,rfl,fun j q _ h=>by omega,fun _ _=>rfl⟩
 rw[List.range_eq_range'] at hq
 obtain⟨hfin,hsteps⟩:=Bm hap hd ops.size 0 (pre:=[]) (by simp) rfl h0 hq
 simp only[zero_add] at hfin hsteps
 have fin:∀listed a w g τ,(∀i,i<ops.size->listed.getD i false=true)->Rel C g (SSt.den Φ env τ) a w->Has s p (fun i=>(listed:Array Bool).getD i false=true) τ->Q .normal a w:=fun listed a w g τ hall R H=>by
  have hts:∀t,τ.tmp t=s'.tmp t:=fun t=>by
   by_cases h:∃(j:Nat) (q:Nat×List E×SV),p[j]? =some q∧q.1=t
   · obtain⟨j,q,hj,rfl⟩:=h
     rw[H.new j q hj (hall j (hlt j q hj)),hfin.new j q hj (hlt j q hj)]
   · rw[H.old t fun j q hj _ he=>h ⟨j,q,hj,he⟩,hfin.old t fun j q hj _ he=>h ⟨j,q,hj,he⟩]
  refine hQ a w g (R.zg ?_ ?_ fun t v hv=> ?_)
  · simp only[SSt.den,H.objs,hfin.objs]
  · simp only[SSt.den,length_map,H.len,hfin.len]
  · rw[SSt.fx] at hv⊢
    rw[<-hts]
    exact hv
 have notin:∀(listed:Array Bool),listed.size=ops.size->(∀i,i<ops.size->listed.getD i true≠false)->∀i,i<ops.size->listed.getD i false=true:=fun listed hs h i hi=>by
  have:=h i hi
  rw[<-hs] at hi
  simp[hi] at this⊢
  exact this
 intro fuel
 induction fuel with
 |zero=>
  intro listed a w I
  have hno:∀i,i<ops.size->listed.getD i true≠false:=fun i hi he=>by
   have h1:=I.fuel
   have h2:count false listed.toList=0:=by omega
   rw[<-I.size] at hi
   simp[hi] at he
   exact(count_eq_zero.1 h2) (by rw[<-he];exact mem_toList_iff.2 (Array.getElem_mem hi))
  refine⟨?_,?_⟩
  · refine List.eq_nil_iff_forall_not_mem.2 fun i hi=> ?_
    obtain⟨h1,o,ho,_⟩:=mem_ready.1 hi
    exact hno i (Array.getElem?_eq_some_iff.1 ho).1 h1
  · obtain⟨g,τ,R,H⟩:=I.rel
    exact fin listed a w g τ (notin listed I.size hno) R H
 |succ fuel ih=>
  intro listed a w I
  obtain⟨g,τ,R,H⟩:=I.rel
  refine⟨fun hnil=> ?_,fun i hi=> ?_⟩
  · -- nothing is ready:all is listed
    have key:∀i,i<ops.size->listed.getD i true≠false:=fun i=>by
     induction i using Nat.strongRecOn with
     |_ i ihi=>
      intro hi he
      have hm:i∈Region.ready .any ops listed:=by
       refine mem_ready.2 ⟨he,ops[i],by simp[hi],fun e hem hb=> ?_⟩
       have h1:=(hok i hi).1
       have:ops[i]? =some ops[i]:=by simp[hi]
       rw[this] at h1
       simp only[all_eq_true] at h1
       have h2:=h1 e (mem_toList_iff.2 hem)
       rw[hb] at h2
       have h3:e.on<i:=by simpa using h2
       have h4:=ihi e.on h3 (by omega)
       have h5:e.on<listed.size:=by rw[I.size];omega
       simp[h5] at h4⊢
       exact h4
      rw[hnil] at hm
      cases hm
    exact fin listed a w g τ (notin listed I.size key) R H
  · obtain⟨hun,o,ho,hall⟩:=mem_ready.1 hi
    have hilt:i<ops.size:=(Array.getElem?_eq_some_iff.1 ho).1
    obtain⟨q,hpi⟩:=hget i hilt
    obtain⟨o',τi,ho',Hi,hstep⟩:=hsteps i q (by omega) hilt hpi
    rw[ho] at ho'
    simp only[Option.some.injEq] at ho'
    subst ho'
    have hls:i<listed.size:=by rw[I.size];exact hilt
    have hif:¬listed.getD i false=true:=by simp[hls] at hun⊢;exact hun
    have hsame:∀t∈o.looksAt ops,τ.tmp t=τi.tmp t:=fun t ht=>by
     by_cases hex:∃(j:Nat) (r:Nat×List E×SV),p[j]? =some r∧r.1=t
     · obtain⟨j,r,hj,rfl⟩:=hex
       have hlk:nR ops i r.1=true:=by
        unfold nR
        rw[ho]
        exact any_eq_true.2 ⟨r.1,ht,by simp⟩
       have hp2:=pair i j q r hpi hj
       simp only[hlk,Bool.not_true,Bool.false_or,and_eq_true] at hp2
       have hp2:=hp2.2
       have none':¬listed.getD j false=true->¬j<i->τ.tmp r.1=τi.tmp r.1:=fun n1 n2=>by
        rw[H.old r.1 fun k q' hk hL he=>n1 (by rw[<-hap k j q' r hk hj he];exact hL),Hi.old r.1 fun k q' hk hL he=>n2 (by rw[<-hap k j q' r hk hj he];exact hL)]
       cases hji:Nat.blt j i with
       |true=>
        rw[hji] at hp2
        have h1:=dV hi hp2
        rw[H.new j r hj h1,Hi.new j r hj (le_of_ble_eq_true hji)]
       |false=>
        rw[hji] at hp2
        have hnlt:¬j<i:=fun h=>by
         have:Nat.blt j i=true:=ble_eq_true_of_le h
         rw[this] at hji;cases hji
        simp only[cond_false,or_eq_true,beq_iff_eq] at hp2
        rcases hp2 with h1|h1
        · subst h1;exact none' hif hnlt
        · exact none' (fun hl=>hif (I.closed j i hl h1)) hnlt
     · rw[H.old t fun k q' hk _ he=>hex ⟨k,q',hk,he⟩,Hi.old t fun k q' hk _ he=>hex ⟨k,q',hk,he⟩]
    have hloc:lg C.T CT ops τ o=some q:=by
     rw[xE (fun y=>by unfold SSt.obj;rw[H.objs,Hi.objs]) (by rw[H.len,Hi.len]) hsame,hstep]
    have hmq:q∈p:=mem_of_getElem? hpi
    obtain⟨d,cs,v⟩:=q
    have hk:s.obj (d*64)=none:=by have:=hkey _ hmq;simpa only using this
    have hobj:τ.obj (d*64)=s.obj (d*64):=by unfold SSt.obj;rw[H.objs]
    have:=tu R hCT hloc (hobj.trans hk) (hc (d,cs,v) hmq) (wpAny C.P .any ops Q fuel (listed.setIfInBounds i true)) Q fun a' w' g' R'=>ih _ a' w' ?_
    · unfold wpOp
      simp only[ho]
      split at this
      · rename_i hw;rw[if_pos hw];exact .inl this
      · rename_i hw;rw[if_neg hw];exact this
    · have hset:∀j,(listed.setIfInBounds i true).getD j false=true↔listed.getD j false=true∨j=i:=fun j=>by
       by_cases e:i=j
       · subst e;simp[hls]
       · rw[getD_set_ne false e]
         exact⟨.inl,fun h=>h.resolve_right fun h=>e h.symm⟩
      refine⟨by simp[I.size],?_,fun j k hj hb=> ?_,g',_,R',H.step hap hpi (hd _ hmq) hset⟩
      · refine Nat.lt_succ_iff.1 (Nat.lt_of_lt_of_le ?_ I.fuel)
        have hb:listed.toList[i]'(by simpa using hls)=false:=by simpa[hls] using hun
        have hpos:0<listed.toList.count false:=count_pos_iff.2 (by rw[<-hb];exact List.getElem_mem _)
        rw[toList_setIfInBounds,count_set (by simpa using hls),hb]
        show _ - 1+0<_
        omega
      · rcases(hset j).1 hj with h1|h1
        · exact(hset k).2 (.inl (I.closed j k h1 hb))
        · subst h1
          exact(hset k).2 (.inl (dV hi hb))
theorem DQ{CT:Nat->Option Sig}(hCT:Told C.P Φ CT)(hm:C.P.follows .mixedOrders=true){ops:Array Oper}{id:Nat}{Q:Exit->Act->World->Prop}{cs:List E}{s':SSt}(R:Rel C g (s.den Φ env) a w)
 (h:Ov C.T CT ops s=some (cs,s')) (hc:holds Φ env cs) (hQ:∀a' w' g',Rel C g' (s'.den Φ env) a' w'->Q .normal a' w'):(Code.region id ops true).wp C.P Q a w:=by
 unfold Ov at h
 split at h
 · rename_i p s1 hq
   obtain⟨h1,h2⟩:=ak h
   clear h
   simp only[Option.some.injEq,Prod.mk.injEq] at h2
   obtain⟨rfl,rfl⟩:=h2
   simp only[and_eq_true,all_eq_true] at h1
   obtain⟨g1,R1⟩:=R.dU (sn ops)
   have RR:Rel C g1 ((dU (sn ops) s).den Φ env) a { w with drawn:=w.drawn+1 }:=Rel.same (w:=w) R1 rfl rfl rfl rfl
   have HH:Has (dU (sn ops) s) p (fun i=>(Array.replicate ops.size false).getD i false=true) (dU (sn ops) s):=
    ⟨rfl,rfl,fun j q _ hL=>by by_cases hlt:j<ops.size<;>simp[hlt] at hL,fun _ _=>rfl⟩
   have I:Inv Φ env C (dU (sn ops) s) ops p ops.size (Array.replicate ops.size false) a { w with drawn:=w.drawn+1 }:=by
    refine⟨by simp,by simp,fun i j hi=> ?_,⟨g1,_,RR,HH⟩⟩
    by_cases hlt:i<ops.size<;>simp[hlt] at hi
   refine wp_region_any hm (FI hCT hq h1.1 (fun q hm=> ?_) (fun q hm=> ?_) (fun q hm e he=>hc e (mem_flatMap.2 ⟨q,hm,he⟩)) hQ _ _ _ _ I)
   · rw[tn];exact le_of_ble_eq_true (h1.2 q hm).1
   · have:=(h1.2 q hm).2
     split at this
     · rename_i hn;exact hn
     · cases this
 · cases h
end
end Go.Vx
namespace Go.Vx
open Go.RowKit (Below)
mutual
def E.sub(n:Nat)(es:List E):E->E
 | .var i=>bif Nat.blt i n then .var i else es.getD (i - n) (.int 0)
 | .int i=>.int i
 | .bool b=>.bool b
 | .str s=>.str s
 | .nl=>.nl
 | .op o fs=>.op o (E.subs n es fs)
def E.subs(n:Nat)(es:List E):List E->List E
 |[]=>[]
 |f::fs=>E.sub n es f::E.subs n es fs
end
def SC.sub(n:Nat)(es:List E):SC->SC
 | .dat k e=>.dat k (e.sub n es)
 | .nil t ks=>.nil t ks
 | .ref x p=>.ref x (p.map fun q=>(q.1.sub n es,q.2.sub n es))
 | .dead=>.dead
mutual
def SV.sub(n:Nat)(es:List E):SV->SV
 | .one c=>.one (c.sub n es)
 | .agg cs=>.agg (cs.map (SC.sub n es))
 | .ptr x i j=>.ptr x (i.sub n es) j
 | .pim ks e off=>.pim ks (e.sub n es) off
 | .tup vs=>.tup (SV.subs n es vs)
 | .whn c v=>.whn (c.sub n es) (v.sub n es)
 | .lod x i j=>.lod x (i.sub n es) j
 | .dead=>.dead
def SV.subs(n:Nat)(es:List E):List SV->List SV
 |[]=>[]
 |v::vs=>v.sub n es::SV.subs n es vs
end
def SOb.sub(n:Nat)(es:List E):SOb->SOb
 | .box T cs=>.box T (cs.map (SC.sub n es))
 | .arr e ks dp xs=>.arr e ks dp (xs.sub n es)
 | .sealed e ks xs=>.sealed e ks (xs.sub n es)
 | .gone=>.gone
 | .arx e ks xs=>.arx e ks (xs.sub n es)
def SSt.sub(n:Nat)(es:List E)(s:SSt):SSt:=⟨s.tmps.map (SV.sub n es),s.objs.map fun p=>(p.1,p.2.sub n es)⟩
section
variable {Φ:Fns} {env:List D} {n:Nat} {es:List E}
def mU(Φ:Fns)(env:List D)(n:Nat)(es:List E):List D:=env.take n++es.map (E.den Φ env)
theorem JP(hn:n<=env.length)(i:Nat):((E.var i).sub n es).den Φ env=(E.var i).den Φ (mU Φ env n es):=by
 simp only[E.sub,E.den,mU]
 have hl:(env.take n).length=n:=by simp;omega
 cases h:Nat.blt i n with
 |true=>
  have hi:i<n:=le_of_ble_eq_true h
  simp only[cond_true,E.den,getD_eq_getElem?_getD]
  rw[List.getElem?_append_left (by omega),List.getElem?_take_of_lt hi]
 |false=>
  have hi:n<=i:=by
   rcases Nat.lt_or_ge i n with h'|h'
   · have:Nat.blt i n=true:=ble_eq_true_of_le h'
     rw[this] at h;cases h
   · exact h'
  simp only[cond_false,getD_eq_getElem?_getD]
  rw[getElem?_append_right (by omega),hl,getElem?_map]
  cases es[i - n]? <;>rfl
mutual
theorem E.di(hn:n<=env.length):∀e:E,(e.sub n es).den Φ env=e.den Φ (mU Φ env n es)
 | .var i=>JP hn i
 | .int _=>rfl
 | .bool _=>rfl
 | .str _=>rfl
 | .nl=>rfl
 | .op o fs=>by simp only[E.sub,E.den,E.jq hn fs]
theorem E.jq(hn:n<=env.length):∀fs:List E,E.bC Φ env (E.subs n es fs)=E.bC Φ (mU Φ env n es) fs
 |[]=>rfl
 |f::fs=>by simp only[E.subs,E.bC,E.di hn f,E.jq hn fs]
end
theorem SC.di(hn:n<=env.length)(c:SC):(c.sub n es).den Φ env=c.den Φ (mU Φ env n es):=by
 cases c with
 |dat k e=>simp only[SC.sub,SC.den,E.di hn]
 |ref x p=>
  cases p with
  |none=>rfl
  |some q=>obtain⟨a,b⟩:=q;simp only[SC.sub,SC.den,jK,map_some,E.di hn]
 |_=>rfl
theorem SC.jq(hn:n<=env.length)(cs:List SC):(cs.map (SC.sub n es)).map (SC.den Φ env)=cs.map (SC.den Φ (mU Φ env n es)):=by
 simp[Function.comp_def,SC.di hn]
mutual
theorem SV.di(hn:n<=env.length):∀v:SV,(v.sub n es).den Φ env=v.den Φ (mU Φ env n es)
 | .one c=>by simp only[SV.sub,SV.den,SC.di hn]
 | .agg cs=>by simp only[SV.sub,SV.den,SC.jq hn]
 | .ptr x i j=>by simp only[SV.sub,SV.den,E.di hn]
 | .pim ks e off=>by simp only[SV.sub,SV.den,E.di hn]
 | .tup vs=>by simp only[SV.sub,SV.den,SV.jq hn vs]
 | .whn c v=>by simp only[SV.sub,SV.den,E.di hn,SV.di hn v]
 | .lod x i j=>by simp only[SV.sub,SV.den,E.di hn]
 | .dead=>rfl
theorem SV.jq(hn:n<=env.length):∀vs:List SV,SV.bC Φ env (SV.subs n es vs)=SV.bC Φ (mU Φ env n es) vs
 |[]=>rfl
 |v::vs=>by simp only[SV.subs,SV.bC,SV.di hn v,SV.jq hn vs]
end
theorem SOb.di(hn:n<=env.length)(o:SOb):(o.sub n es).den Φ env=o.den Φ (mU Φ env n es):=by
 cases o with
 |box T cs=>simp only[SOb.sub,SOb.den,SC.jq hn]
 |arr e ks dp xs=>simp only[SOb.sub,SOb.den,E.di hn]
 |«sealed» e ks xs=>simp only[SOb.sub,SOb.den,E.di hn]
 |gone=>rfl
 |arx e ks xs=>simp only[SOb.sub,SOb.den,E.di hn]
theorem SSt.di(hn:n<=env.length)(s:SSt):(s.sub n es).den Φ env=s.den Φ (mU Φ env n es):=by
 simp only[SSt.den,SSt.sub,List.map_map,Function.comp_def,SV.di hn,SOb.di hn]
end
def eqP:Option (E×E)->Option (E×E)->Bool
 |none,none=>true
 |some p,some q=>E.eqb p.1 q.1&&E.eqb p.2 q.2
 |_,_=>false
def SC.eqb:SC->SC->Bool
 | .dat k e,.dat k' e'=>K.eqb k k'&&E.eqb e e'
 | .nil t ks,.nil t' ks'=>t==t'&&K.ct ks ks'
 | .ref z p,.ref z' p'=>z==z'&&eqP p p'
 | .dead,.dead=>true
 |_,_=>false
def SC.ct:List SC->List SC->Bool
 |[],[]=>true
 |c::cs,d::ds=>c.eqb d&&SC.ct cs ds
 |_,_=>false
def SC.le(a:SC):SC->Bool
 | .dead=>true
 | .dat k e=>match a with
   | .nil t ks=>K.eqb (.sl t ks) k&&E.eqb .nl e
   |a=>a.eqb (.dat k e)
 |b=>a.eqb b
def SC.les:List SC->List SC->Bool
 |[],[]=>true
 |c::cs,d::ds=>c.le d&&SC.les cs ds
 |_,_=>false
mutual
def SV.le:SV->SV->Bool
 |_,.dead=>true
 | .one c,.one d=>c.le d
 | .agg cs,.agg ds=>SC.les cs ds
 | .ptr z i j,.ptr z' i' j'=>z==z'&&E.eqb i i'&&j==j'
 | .pim ks e o,.pim ks' e' o'=>K.ct ks ks'&&E.eqb e e'&&o==o'
 | .tup us,.tup vs=>SV.F9 us vs
 | .whn c u,.whn c' v=>E.eqb c c'&&u.le v
 | .lod z i j,.lod z' i' j'=>z==z'&&E.eqb i i'&&j==j'
 |_,_=>false
def SV.F9:List SV->List SV->Bool
 |[],[]=>true
 |u::us,v::vs=>u.le v&&SV.F9 us vs
 |_,_=>false
end
def SOb.eqb:SOb->SOb->Bool
 | .box T cs,.box T' cs'=>T==T'&&SC.ct cs cs'
 | .arr t ks dp e,.arr t' ks' dp' e'=>t==t'&&K.ct ks ks'&&dp==dp'&&E.eqb e e'
 | .sealed t ks e,.sealed t' ks' e'=>t==t'&&K.ct ks ks'&&E.eqb e e'
 | .gone,.gone=>true
 | .arx t ks e,.arx t' ks' e'=>t==t'&&K.ct ks ks'&&E.eqb e e'
 |_,_=>false
def oeq:Option SOb->Option SOb->Bool
 |none,none=>true
 |some a,some b=>a.eqb b
 |_,_=>false
def Gp:List SV->List SV->Bool
 |[],[]=>true
 |a::as,b::bs=>a.le b&&Gp as bs
 |_,_=>false
def SSt.le(s s':SSt):Bool:=Gp s.tmps s'.tmps&&(s.objs.all fun p=>oeq (s.obj p.1) (s'.obj p.1))&&s'.objs.all fun p=>oeq (s.obj p.1) (s'.obj p.1)
theorem Nh{p q:Option (E×E)}(h:eqP p q=true):p=q:=by
 cases p with
 |none=>cases q<;>simp_all [eqP]
 |some p=>
  cases q with
  |none=>simp[eqP] at h
  |some q=>
   simp only[eqP,and_eq_true] at h
   obtain⟨a,b⟩:=p
   obtain⟨c,d⟩:=q
   rw[show a=c from E.aY h.1,show b=d from E.aY h.2]
theorem SC.aY{a b:SC}(h:a.eqb b=true):a=b:=by
 cases a<;>cases b<;>simp only[SC.eqb,false_eq_true,and_eq_true,beq_iff_eq] at h
 · rw[K.aY h.1,E.aY h.2]
 · rw[h.1,K.bp h.2]
 · rw[h.1,Nh h.2]
 · rfl
theorem SC.bp:∀{a b:List SC},SC.ct a b=true->a=b
 |[],b,h=>by cases b<;>simp_all [SC.ct]
 |c::cs,b,h=>by
  cases b with
  |nil=>simp[SC.ct] at h
  |cons d ds=>
   simp only[SC.ct,and_eq_true] at h
   rw[SC.aY h.1,SC.bp h.2]
theorem SOb.aY{a b:SOb}(h:a.eqb b=true):a=b:=by
 cases a<;>cases b<;>simp only[SOb.eqb,false_eq_true,and_eq_true,beq_iff_eq] at h
 · rw[h.1,SC.bp h.2]
 · rw[h.1.1.1,K.bp h.1.1.2,h.1.2,E.aY h.2]
 · rw[h.1.1,K.bp h.1.2,E.aY h.2]
 · rfl
 · rw[h.1.1,K.bp h.1.2,E.aY h.2]
theorem I1{a b:Option SOb}(h:oeq a b=true):a=b:=by
 cases a<;>cases b<;>simp only[oeq,false_eq_true] at h
 · rfl
 · rw[SOb.aY h]
section
variable {Φ:Fns} {env:List D} {C:Cx} {g:Gh} {s s':SSt} {a:Act} {w:World}
theorem Rel.Eq{σ σ':St}(R:Rel C g σ a w)(hob:∀x,σ'.obj x=σ.obj x) (hl:σ'.tmps.length=σ.tmps.length) (ht:∀t v,bB (sur C g σ w) (σ.tmp t) v->bB (sur C g σ w) (σ'.tmp t) v):Rel C g σ' a w:=by
 have hs:=wF (C:=C) (g:=g) (w:=w) hob
 exact⟨R.defers,R.size,by rw[hl];exact R.len,fun t=>by rw[hs];exact ht t _ (R.tmps t),fun x=>by rw[hs];exact R.objs x,R.own,R.apart,R.alw,R.fr,by rw[hs];exact R.pin⟩
theorem SC.sS{S:Sur}{c d:SC}(h:c.le d=true){v:Value}(hv:iN S (c.den Φ env) v):iN S (d.den Φ env) v:=by
 cases d with
 |dead=>trivial
 |dat k e=>
  cases c with
  |nil t ks=>
   simp only[SC.le,and_eq_true] at h
   have h1:=K.aY h.1
   have h2:=E.aY h.2
   subst h1
   subst h2
   exact hv.dn
  |_=>simp only[SC.le] at h;rw[<-SC.aY h];exact hv
 |_=>rw[<-SC.aY h];exact hv
theorem SC.E0{S:Sur}:∀{cs ds:List SC},SC.les cs ds=true->∀{vs:List Value},aE S (cs.map (SC.den Φ env)) vs->aE S (ds.map (SC.den Φ env)) vs
 |[],ds,h,vs,hv=>by cases ds<;>simp_all [SC.les]
 |c::cs,ds,h,vs,hv=>by
  cases ds with
  |nil=>simp[SC.les] at h
  |cons d ds=>
   simp only[SC.les,and_eq_true] at h
   obtain⟨v,vs',e,o,h1,h2⟩:=hv
   exact⟨v,vs',e,o,SC.sS h.1 h1,SC.E0 h.2 h2⟩
mutual
theorem SV.sS{S:Sur}:∀{u u':SV},u.le u'=true->∀{v:Value},bB S (u.den Φ env) v->bB S (u'.den Φ env) v
 |u,.dead,_,_,_=>trivial
 | .one c,.one d,h,v,hv=>by simp only[SV.le] at h;exact⟨SC.sS h hv.1,hv.2⟩
 | .agg cs,.agg ds,h,v,hv=>by
   simp only[SV.le] at h
   obtain⟨vs,e,hv⟩:=hv
   exact⟨vs,e,SC.E0 h hv⟩
 | .ptr z i j,.ptr z' i' j',h,v,hv=>by
   simp only[SV.le,and_eq_true,beq_iff_eq] at h
   rw[<-h.1.1,<-E.aY h.1.2,<-h.2];exact hv
 | .pim ks e o,.pim ks' e' o',h,v,hv=>by
   simp only[SV.le,and_eq_true,beq_iff_eq] at h
   rw[<-K.bp h.1.1,<-E.aY h.1.2,<-h.2];exact hv
 | .tup us,.tup us',h,v,hv=>by
   simp only[SV.le] at h
   obtain⟨vs,e,hv⟩:=hv
   exact⟨vs,e,SV.AB h hv⟩
 | .whn c u,.whn c' u',h,v,hv=>by
   simp only[SV.le,and_eq_true] at h
   rw[<-E.aY h.1]
   exact⟨fun hc=>SV.sS h.2 (hv.1 hc),hv.2⟩
 | .lod z i j,.lod z' i' j',h,v,hv=>by
   simp only[SV.le,and_eq_true,beq_iff_eq] at h
   rw[<-h.1.1,<-E.aY h.1.2,<-h.2];exact hv
 | .one _,.agg _,h,_,_| .one _,.ptr ..,h,_,_| .one _,.pim ..,h,_,_| .one _,.tup _,h,_,_| .one _,.whn ..,h,_,_| .one _,.lod ..,h,_,_=>by simp[SV.le] at h
 | .agg _,.one _,h,_,_| .agg _,.ptr ..,h,_,_| .agg _,.pim ..,h,_,_| .agg _,.tup _,h,_,_| .agg _,.whn ..,h,_,_| .agg _,.lod ..,h,_,_=>by simp[SV.le] at h
 | .ptr ..,.one _,h,_,_| .ptr ..,.agg _,h,_,_| .ptr ..,.pim ..,h,_,_| .ptr ..,.tup _,h,_,_| .ptr ..,.whn ..,h,_,_| .ptr ..,.lod ..,h,_,_=>by simp[SV.le] at h
 | .pim ..,.one _,h,_,_| .pim ..,.agg _,h,_,_| .pim ..,.ptr ..,h,_,_| .pim ..,.tup _,h,_,_| .pim ..,.whn ..,h,_,_| .pim ..,.lod ..,h,_,_=>by simp[SV.le] at h
 | .tup _,.one _,h,_,_| .tup _,.agg _,h,_,_| .tup _,.ptr ..,h,_,_| .tup _,.pim ..,h,_,_| .tup _,.whn ..,h,_,_| .tup _,.lod ..,h,_,_=>by simp[SV.le] at h
 | .whn ..,.one _,h,_,_| .whn ..,.agg _,h,_,_| .whn ..,.ptr ..,h,_,_| .whn ..,.pim ..,h,_,_| .whn ..,.tup _,h,_,_| .whn ..,.lod ..,h,_,_=>by simp[SV.le] at h
 | .lod ..,.one _,h,_,_| .lod ..,.agg _,h,_,_| .lod ..,.ptr ..,h,_,_| .lod ..,.pim ..,h,_,_| .lod ..,.tup _,h,_,_| .lod ..,.whn ..,h,_,_=>by simp[SV.le] at h
 | .dead,.one _,h,_,_| .dead,.agg _,h,_,_| .dead,.ptr ..,h,_,_| .dead,.pim ..,h,_,_| .dead,.tup _,h,_,_| .dead,.whn ..,h,_,_| .dead,.lod ..,h,_,_=>by simp[SV.le] at h
theorem SV.AB{S:Sur}:∀{us us':List SV},SV.F9 us us'=true->∀{vs:List Value},f9 S (SV.bC Φ env us) vs->f9 S (SV.bC Φ env us') vs
 |[],[],_,_,hv=>hv
 |u::us,u'::us',h,vs,hv=>by
  simp only[SV.F9,and_eq_true] at h
  obtain⟨v,vs',e,h1,h2⟩:=hv
  exact⟨v,vs',e,SV.sS h.1 h1,SV.AB h.2 h2⟩
 |[],_::_,h,_,_=>by simp[SV.F9] at h
 |_::_,[],h,_,_=>by simp[SV.F9] at h
end
theorem Bc:∀{as bs:List SV},Gp as bs=true->as.length=bs.length∧∀t:Nat,(as.getD t .dead).le (bs.getD t .dead)=true
 |[],[],_=>⟨rfl,fun t=>by simp[SV.le]⟩
 |[],_::_,h=>by simp[Gp] at h
 |_::_,[],h=>by simp[Gp] at h
 |a::as,b::bs,h=>by
  simp only[Gp,and_eq_true] at h
  have ih:=Bc h.2
  refine⟨by simp[ih.1],fun t=> ?_⟩
  cases t with
  |zero=>exact h.1
  |succ t=>simpa using ih.2 t
theorem ju{x:Nat}:∀{l:List (Nat×SOb)},(∀p∈l,p.1≠x)->cI x l=none
 |[],_=>rfl
 |(y,o)::l,h=>by
  have h1:(x==y)=false:=by
   have:=h (y,o) (by simp)
   simp only[beq_eq_false_iff_ne,ne_eq]
   exact fun e=>this e.symm
  simp only[cI,h1,cond_false]
  exact ju fun p hp=>h p (by simp[hp])
theorem Rel.le(R:Rel C g (s.den Φ env) a w)(h:s.le s'=true):Rel C g (s'.den Φ env) a w:=by
 simp only[SSt.le,and_eq_true,all_eq_true] at h
 obtain⟨⟨h1,h2⟩,h3⟩:=h
 have hob:∀x,s.obj x=s'.obj x:=fun x=>by
  by_cases e1:∃p,p∈s.objs∧p.1=x
  · obtain⟨p,hp,rfl⟩:=e1;exact I1 (h2 p hp)
  · by_cases e2:∃p,p∈s'.objs∧p.1=x
    · obtain⟨p,hp,rfl⟩:=e2;exact I1 (h3 p hp)
    · rw[SSt.obj,SSt.obj,ju fun p hp he=>e1 ⟨p,hp,he⟩,ju fun p hp he=>e2 ⟨p,hp,he⟩]
 obtain⟨hl,ht⟩:=Bc h1
 refine R.Eq (fun x=>by rw[SSt.eL,SSt.eL,hob]) (by simp[SSt.den,hl]) fun t v hv=> ?_
 rw[SSt.fx] at hv⊢
 exact SV.sS (ht t) hv
def uD(s:SSt)(t key:Nat):SSt:=match s.tmp t,s.obj key with
 | .one (.nil e ks),none=>(s.aU key (.arr e ks true .nl)).ew t (.one (.ref key none))
 |_,_=>s
theorem Rel.EM{σ:St}(R:Rel C g σ a w){x:Nat}(hx:σ.obj x=none)(e:TypeId)(ks:List K)(dp:Bool):Rel C (g.upd x (.slice none 0 0) []) (σ.aU x (.arr e ks dp [])) a w:=by
 refine R.grow (Below.refl _ _) hx (fun b hb=>by simp[bq] at hb) (by simp) (fun b hb=>by simp at hb) ?_
 unfold bv
 simp only[sur,St.ap,if_pos,Gh.upd,bh]
 exact⟨[],[],World.ownsRow_nil _ _ _ _,by simp[al],rfl,rfl,rfl,fun i row vs f h=>by simp at h⟩
theorem Rel.uD(R:Rel C g (s.den Φ env) a w)(t key:Nat):∃g',Rel C g' ((uD s t key).den Φ env) a w:=by
 unfold Vx.uD
 split
 · rename_i e ks ht hk
   have R1:=R.EM (x:=key) (by rw[SSt.eL,hk];rfl) e ks true
   have e1:(s.den Φ env).aU key (.arr e ks true [])=(s.aU key (.arr e ks true .nl)).den Φ env:=by rw[SSt.bK];rfl
   rw[e1] at R1
   have htl:t<(s.aU key (.arr e ks true .nl)).tmps.length:=by
    rcases Nat.lt_or_ge t s.tmps.length with h|h
    · exact h
    · simp[SSt.tmp,getD_eq_getElem?_getD,List.getElem?_eq_none h] at ht
   refine⟨_,R1.Eq (fun x=> ?_) (by simp[SSt.den,SSt.ew]) fun u v hv=> ?_⟩
   · rw[SSt.eD];rfl
   · rw[SSt.fx] at hv⊢
     rw[n5 htl]
     by_cases hu:u=t
     · subst hu
       rw[if_pos rfl]
       have hv:bB _ ((s.tmp u).den Φ env) v:=hv
       rw[ht] at hv
       refine⟨?_,hv.2⟩
       have hv1:v= .slice none 0 0:=hv.1
       show aB _ key none v
       unfold aB
       rw[<-e1]
       simp only[sur,St.ap,if_true,Gh.upd,bh]
       exact⟨trivial,hv1⟩
     · rw[if_neg hu];exact hv
 · exact⟨g,R⟩
def nU(s:SSt):List (Nat×Nat)->SSt
 |[]=>s
 |(t,key)::l=>nU (uD s t key) l
theorem Rel.nU:∀(l:List (Nat×Nat)){g:Gh}{s:SSt},Rel C g (s.den Φ env) a w->∃g',Rel C g' ((nU s l).den Φ env) a w
 |[],g,s,R=>⟨g,R⟩
 |(t,key)::l,g,s,R=>by
  obtain⟨g1,R1⟩:=R.uD t key
  exact Rel.nU l R1
theorem Rel.Sv{σ:St}(R:Rel C g σ a w){z:Nat}{T:TypeId}{cs cs':List AC}(hz:σ.obj z=some (.box T cs))(h:∀vs,aE (sur C g σ w) cs vs->aE (sur C g σ w) cs' vs):Rel C g (σ.aU z (.box T cs')) a w:=by
 have hlive:∀x,Ob.live ((σ.aU z (.box T cs')).obj x)=Ob.live (σ.obj x):=fun x=>by
  rw[St.ap]
  split
  · rename_i e;subst e;rw[hz];rfl
  · rfl
 have hisX:∀x,Ob.isX ((σ.aU z (.box T cs')).obj x)=Ob.isX (σ.obj x):=fun x=>by
  rw[St.ap]
  split
  · rename_i e;subst e;rw[hz];rfl
  · rfl
 have hme:∀b o,Me C.M (σ.aU z (.box T cs')).obj g.hd g.fp b o->Me C.M σ.obj g.hd g.fp b o:=fun b o hm=>by
  rcases hm with hm|⟨x,hl,hb⟩|⟨x,hl,hb⟩
  · exact .inl hm
  · exact .inr (.inl ⟨x,by rw[<-hlive x];exact hl,hb⟩)
  · exact .inr (.inr ⟨x,by rw[<-hisX x];exact hl,hb⟩)
 have hk:Keeps w (Me C.M σ.obj g.hd g.fp) w (Me C.M (σ.aU z (.box T cs')).obj g.hd g.fp):=fun b o v hc hn=>⟨hc,fun hm=>hn (hme b o hm)⟩
 have hs:Shift (sur C g σ w) (sur C g (σ.aU z (.box T cs')) w):=by
  refine⟨hk,fun x p v hr=> ?_,fun x i j v hp=> ?_,qM rfl (fun z _=>rfl) fun _ _ _ _ _ _ h _=>h,p8 rfl fun z _=>rfl⟩
  · unfold aB at hr⊢
    simp only[sur,St.ap] at hr⊢
    by_cases hx:x=z
    · subst hx
      rw[hz] at hr
      exact hr.elim
    · rw[if_neg hx]
      cases he:σ.obj x with
      |none=>rw[he] at hr;exact hr
      |some q=>
       rw[he] at hr
       cases q with
       |«sealed» e ks xs=>exact⟨hr.1,hr.2.keeps hk⟩
       |_=>exact hr
  · unfold aV at hp⊢
    simp only[sur,St.ap] at hp⊢
    by_cases hx:x=z
    · subst hx
      rw[if_pos rfl]
      rw[hz] at hp
      exact hp
    · rw[if_neg hx];exact hp
 refine R.move rfl hs (fun x=> ?_) R.own R.apart R.alw R.fr
 by_cases hx:x=z
 · subst hx
   have ho:=R.objs x
   unfold bv at ho⊢
   simp only[sur,hz] at ho
   simp only[sur,St.ap,if_true]
   obtain⟨b,vs,h1,h2,h3,h4⟩:=ho
   exact⟨b,vs,h1,h2,h3,aE.shift hs (h vs h4)⟩
 · refine(R.objs x).shift hs ?_ rfl rfl fun b _=>rfl
   simp[sur,St.ap,hx]
theorem aE.Jj{S:Sur}{e:TypeId}{ks:List K}{key:Nat}(hr:∀v,v= .slice none 0 0->aB S key none v):∀{cs:List AC}{vs:List Value}{j:Nat},cs[j]? =some (.nil e ks)->aE S cs vs->aE S (cs.set j (.ref key none)) vs
 |[],_,_,h,_=>by simp at h
 |c::cs,_,0,h,⟨v,vs',e1,o,r,r'⟩=>by
  simp only[List.getElem?_cons_zero,Option.some.injEq] at h
  subst h
  exact⟨v,vs',e1,o,hr v r,r'⟩
 |c::cs,_,j+1,h,⟨v,vs',e1,o,r,r'⟩=>⟨v,vs',e1,o,r,aE.Jj hr (by simpa using h) r'⟩
def qt(s:SSt)(z j key:Nat):SSt:=match s.obj z,s.obj key with
 |some (.box T cs),none=>match cs[j]? with
  |some (.nil e ks)=>(s.aU key (.arr e ks true .nl)).aU z (.box T (cs.set j (.ref key none)))
  |_=>s
 |_,_=>s
theorem Rel.qt(R:Rel C g (s.den Φ env) a w)(z j key:Nat):∃g',Rel C g' ((qt s z j key).den Φ env) a w:=by
 unfold Vx.qt
 split
 · rename_i T cs hz hk
   split
   · rename_i e ks hj
     have R1:=R.EM (x:=key) (by rw[SSt.eL,hk];rfl) e ks true
     have e1:(s.den Φ env).aU key (.arr e ks true [])=(s.aU key (.arr e ks true .nl)).den Φ env:=by rw[SSt.bK];rfl
     rw[e1] at R1
     have hne:z≠key:=fun h=>by rw[h,hk] at hz;cases hz
     have hz1:((s.aU key (.arr e ks true .nl)).den Φ env).obj z=some (.box T (cs.map (SC.den Φ env))):=by
      rw[<-e1,St.ap,if_neg hne]
      exact aT (Φ:=Φ) (env:=env) hz
     have R2:=R1.Sv hz1 (cs':=(cs.set j (.ref key none)).map (SC.den Φ env)) fun vs h=>by
      rw[List.map_set]
      refine aE.Jj (e:=e) (ks:=ks) (fun v hv=> ?_) (by rw[getElem?_map,hj];rfl) h
      unfold aB
      rw[<-e1]
      simp only[sur,St.ap,if_true,Gh.upd,bh]
      exact⟨trivial,hv⟩
     exact⟨_,by rw[SSt.bK];exact R2⟩
   · exact⟨g,R⟩
 · exact⟨g,R⟩
def lk(s:SSt):List (Nat×Nat×Nat)->SSt
 |[]=>s
 |(z,j,key)::l=>lk (qt s z j key) l
theorem Rel.lk:∀(l:List (Nat×Nat×Nat)){g:Gh}{s:SSt},Rel C g (s.den Φ env) a w->∃g',Rel C g' ((lk s l).den Φ env) a w
 |[],g,s,R=>⟨g,R⟩
 |(z,j,key)::l,g,s,R=>by
  obtain⟨g1,R1⟩:=R.qt z j key
  exact Rel.lk l R1
theorem Rel.OE{σ:St}(R:Rel C g σ a w){y:Nat}{e:TypeId}{ks:List K}{xs:List (List D)}(hy:σ.obj y=some (.arr e ks true xs)):
 Rel C (g.upd y (g.hd y) (g.hd y).ownBlock.toList) (σ.aU y (.arr e ks false xs)) a w:=by
 have hhd:∀z,(g.upd y (g.hd y) (g.hd y).ownBlock.toList).hd z=g.hd z:=fun z=>by
  by_cases h:z=y
  · subst h;simp[Gh.upd,bh]
  · simp[Gh.upd,aW _ _ h]
 have hfp:∀z b,b∈(g.upd y (g.hd y) (g.hd y).ownBlock.toList).fp z->b∈g.fp z:=fun z b hb=>by
  by_cases h:z=y
  · subst h
    obtain⟨_,_,_,_,_,_,h5,_⟩:=R.pJ hy
    simp only[Gh.upd,bh] at hb
    rw[h5];simp only[mem_append];exact .inl hb
  · simpa[Gh.upd,aW _ _ h] using hb
 have hlive:∀z,Ob.live ((σ.aU y (.arr e ks false xs)).obj z)=Ob.live (σ.obj z):=fun z=>by
  rw[St.ap]
  split
  · rename_i h;subst h;rw[hy];rfl
  · rfl
 have hme:∀b o,Me C.M (σ.aU y (.arr e ks false xs)).obj (g.upd y (g.hd y) (g.hd y).ownBlock.toList).hd (g.upd y (g.hd y) (g.hd y).ownBlock.toList).fp b o->Me C.M σ.obj g.hd g.fp b o:=fun b o hm=>by
  rcases hm with hm|⟨z,hl,hb⟩|⟨z,hl,hb⟩
  · exact .inl hm
  · exact .inr (.inl ⟨z,by rw[<-hlive z];exact hl,by rw[<-hhd z];exact hb⟩)
  · exact .inr (.inr ⟨z,by
     rw[St.ap] at hl
     split at hl
     · simp[Ob.isX] at hl
     · exact hl,hfp z b hb⟩)
 have hk:Keeps w (Me C.M σ.obj g.hd g.fp) w (Me C.M (σ.aU y (.arr e ks false xs)).obj (g.upd y (g.hd y) (g.hd y).ownBlock.toList).hd (g.upd y (g.hd y) (g.hd y).ownBlock.toList).fp):=fun b o v hc hn=>⟨hc,fun hm=>hn (hme b o hm)⟩
 have hs:Shift (sur C g σ w) (sur C (g.upd y (g.hd y) (g.hd y).ownBlock.toList) (σ.aU y (.arr e ks false xs)) w):=by
  refine⟨hk,fun x p v hr=> ?_,fun x i j v hp=> ?_,qM rfl (fun z _=>hhd z) fun _ _ _ _ _ _ h _=>h,p8 rfl fun z _=>hhd z⟩
  · unfold aB at hr⊢
    simp only[sur,hhd,St.ap] at hr⊢
    by_cases hx:x=y
    · subst hx
      rw[if_pos rfl]
      rw[hy] at hr
      exact hr
    · rw[if_neg hx]
      cases he:σ.obj x with
      |none=>rw[he] at hr;exact hr
      |some q=>
       rw[he] at hr
       cases q with
       |«sealed» e ks xs=>exact⟨hr.1,hr.2.keeps hk⟩
       |_=>exact hr
  · unfold aV at hp⊢
    simp only[sur,hhd,St.ap] at hp⊢
    by_cases hx:x=y
    · subst hx
      rw[if_pos rfl]
      rw[hy] at hp
      exact hp
    · rw[if_neg hx];exact hp
 refine R.move rfl hs (fun z=> ?_) (fun z=> ?_) (fun z z' hne b hb hb'=>R.apart z z' hne b (hfp z b hb) (hfp z' b hb')) (fun z b hb=>R.alw z b (hfp z b hb)) R.fr
 · by_cases hz:z=y
   · subst hz
     obtain⟨vss,fps,h1,h2,h3,h4,h5,hlen,h6⟩:=R.pJ hy
     unfold bv
     simp only[sur,St.ap,if_true,hhd]
     refine⟨vss,List.replicate xs.length [],h1,h2,h3,by simp,by simp[Gh.upd,bh],fun i row vs f e1 e2 e3=> ?_⟩
     have hi:=(List.getElem?_eq_some_iff.1 e2).1
     have hf:fps[i]? =some fps[i]:=List.getElem?_eq_getElem (by omega)
     simp only[false_eq_true,if_false]
     exact⟨(h6 i row vs _ e1 e2 hf).1.keeps hk,(List.mem_replicate.1 (mem_of_getElem? e3)).2⟩
   · refine(R.objs z).shift hs ?_ (hhd z) ?_ fun b _=>rfl
     · simp[sur,St.ap,hz]
     · simp[Gh.upd,aW _ _ hz]
 · by_cases hz:z=y
   · subst hz
     obtain⟨_,_,_,_,_,_,h5,_⟩:=R.pJ hy
     have:=R.own z
     rw[h5] at this
     simpa[Gh.upd,bh] using(nodup_append.1 this).1
   · simpa[Gh.upd,aW _ _ hz] using R.own z
def lT(s:SSt)(y:Nat):SSt:=match s.obj y with
 |some (.arr e ks true xs)=>s.aU y (.arr e ks false xs)
 |_=>s
theorem Rel.lT(R:Rel C g (s.den Φ env) a w)(y:Nat):∃g',Rel C g' ((lT s y).den Φ env) a w:=by
 unfold Vx.lT
 split
 · rename_i e ks xs hy
   have:=R.OE (aT (Φ:=Φ) (env:=env) hy)
   have e1:(s.aU y (.arr e ks false xs)).den Φ env=(s.den Φ env).aU y (.arr e ks false (xs.den Φ env).ae):=by rw[SSt.bK];rfl
   exact⟨g.upd y (g.hd y) (g.hd y).ownBlock.toList,by rw[e1];exact this⟩
 · exact⟨g,R⟩
def j9(s:SSt):List Nat->SSt
 |[]=>s
 |y::l=>j9 (lT s y) l
theorem Rel.j9:∀(l:List Nat){g:Gh}{s:SSt},Rel C g (s.den Φ env) a w->∃g',Rel C g' ((j9 s l).den Φ env) a w
 |[],g,s,R=>⟨g,R⟩
 |y::l,g,s,R=>by
  obtain⟨g1,R1⟩:=R.lT y
  exact Rel.j9 l R1
def sZ(x:Nat):List (Nat×Nat)->Option Nat
 |[]=>none
 |(y,z)::l=>bif x==y then some z else sZ x l
def pa(x:Nat):List (Nat×Nat)->Option Nat
 |[]=>none
 |(y,z)::l=>bif x==z then some y else pa x l
def qZ(s:SSt)(m:Nat->Option Nat):List (Nat×Nat)->Option (List (Nat×SOb))
 |[]=>some []
 |(x,y)::l=>match s.obj x,qZ s m l with
  |some o,some r=>some ((y,o.cr m)::r)
  |_,_=>none
def isN(x:Option Nat)(n:Nat):Bool:=match x with
 |some m=>m==n
 |none=>false
def SSt.ren(ps:List (Nat×Nat))(s:SSt):Option SSt:=
 bif (ps.all fun p=>isN (sZ p.1 ps) p.2&&isN (pa p.2 ps) p.1)&&s.objs.all fun p=>Nat.blt p.1 1000000000||isN (pa p.1 ps) p.1 then match qZ s (fun x=>sZ x ps) ps with
  |some r=>some ⟨s.tmps.map (SV.cr fun x=>sZ x ps),r⟩
  |none=>none
 else none
theorem xh{x y:Nat}:∀{l:List (Nat×Nat)},sZ x l=some y->(x,y)∈l
 |[],h=>by simp[sZ] at h
 |(u,v)::l,h=>by
  simp only[sZ] at h
  cases hx:x==u with
  |true=>
   rw[hx] at h
   simp only[cond_true,Option.some.injEq] at h
   have:x=u:=by simpa using hx
   subst this;subst h;simp
  |false=>rw[hx] at h;exact mem_cons_of_mem _ (xh h)
theorem xb{x y:Nat}:∀{l:List (Nat×Nat)},pa y l=some x->(x,y)∈l
 |[],h=>by simp[pa] at h
 |(u,v)::l,h=>by
  simp only[pa] at h
  cases hx:y==v with
  |true=>
   rw[hx] at h
   simp only[cond_true,Option.some.injEq] at h
   have:y=v:=by simpa using hx
   subst this;subst h;simp
  |false=>rw[hx] at h;exact mem_cons_of_mem _ (xb h)
theorem vh{x:Option Nat}{n:Nat}(h:isN x n=true):x=some n:=by
 cases x<;>simp_all [isN]
theorem rg{m:Nat->Option Nat}:∀{l:List (Nat×Nat)}{r:List (Nat×SOb)},qZ s m l=some r->∀y,cI y r=match pa y l with|some x=>(s.obj x).map (SOb.cr m)|none=>none
 |[],r,h,y=>by simp only[qZ,Option.some.injEq] at h;subst h;rfl
 |(x,z)::l,r,h,y=>by
  simp only[qZ] at h
  split at h
  · rename_i o r' h1 h2
    simp only[Option.some.injEq] at h
    subst h
    simp only[cI,pa]
    cases hy:y==z with
    |true=>simp only[cond_true,h1,map_some]
    |false=>simp only[cond_false];exact rg h2 y
  · cases h
theorem Rel.reN(R:Rel C g (s.den Φ env) a w){ps:List (Nat×Nat)}(h:s.ren ps=some s'):∃g',Rel C g' (s'.den Φ env) a w:=by
 unfold SSt.ren at h
 obtain⟨h1,h2⟩:=ak h
 clear h
 simp only[all_eq_true,and_eq_true,or_eq_true] at h1
 obtain⟨h1,hbig⟩:=h1
 split at h2
 · rename_i r hr
   simp only[Option.some.injEq] at h2
   subst h2
   refine⟨_,R.ren (m:=fun x=>sZ x ps) (n:=fun y=>pa y ps) ⟨fun x y e=> ?_,fun x y e=> ?_,fun y=> ?_⟩ (fun p hp=> ?_) (fun p hp=> ?_) ?_⟩
   · exact vh (h1 _ (xh e)).2
   · exact vh (h1 _ (xb e)).1
   · rw[SSt.eL,SSt.obj,rg hr]
     cases pa y ps with
     |none=>rfl
     |some x=>
      simp only[SSt.eL]
      cases s.obj x with
      |none=>rfl
      |some o=>simp[SOb.gL]
   · obtain⟨o,ho,_⟩:=R.pin.1 p hp
     simp only[sur,SSt.eL] at ho
     have hm:∃q∈s.objs,q.1=p.1:=by
      by_cases hq:∃q∈s.objs,q.1=p.1
      · exact hq
      · rw[SSt.obj,ju fun q hm he=>hq ⟨q,hm,he⟩] at ho
        cases ho
     obtain⟨q,hm,he⟩:=hm
     have hb:=hbig q hm
     have:=C.u5 p hp
     rw[he] at hb
     rcases hb with hb|hb
     · have:=le_of_ble_eq_true hb;omega
     · exact vh hb
   · obtain⟨o,ho⟩:∃o,(sur C g (s.den Φ env) w).obj p.1=some o:=by
      have:=R.pin.2 p hp
      unfold aV at this
      cases hq:(sur C g (s.den Φ env) w).obj p.1 with
      |none=>rw[hq] at this;exact this.elim
      |some o=>exact⟨o,rfl⟩
     simp only[sur,SSt.eL] at ho
     have hm:∃q∈s.objs,q.1=p.1:=by
      by_cases hq:∃q∈s.objs,q.1=p.1
      · exact hq
      · rw[SSt.obj,ju fun q hm he=>hq ⟨q,hm,he⟩] at ho
        cases ho
     obtain⟨q,hm,he⟩:=hm
     have hb:=hbig q hm
     have:=C.qR p hp
     rw[he] at hb
     rcases hb with hb|hb
     · have:=le_of_ble_eq_true hb;omega
     · exact vh hb
   · simp[SSt.den,Function.comp_def,SV.gL]
 · cases h2
def si:Nat->List SV->List SV->List (Nat×Nat)
 |t,.one (.ref _ none)::ps,.one (.nil _ _)::vs=>(t,64000000+t)::si (t+1) ps vs
 |t,_::ps,_::vs=>si (t+1) ps vs
 |_,_,_=>[]
def LE:SC->SC->List (Nat×Nat)
 | .ref k _,.ref k' _=>[(k',k)]
 |_,_=>[]
def Dm:List SC->List SC->List (Nat×Nat)
 |c::cs,d::ds=>LE c d++Dm cs ds
 |_,_=>[]
def TA:SV->SV->List (Nat×Nat)
 | .one c,.one d=>LE c d
 | .agg cs,.agg ds=>Dm cs ds
 | .ptr k _ _,.ptr k' _ _=>[(k',k)]
 | .lod k _ _,.lod k' _ _=>[(k',k)]
 |_,_=>[]
def Ic:List SV->List SV->List (Nat×Nat)
 |v::vs,u::us=>TA v u++Ic vs us
 |_,_=>[]
def dedup:List (Nat×Nat)->List (Nat×Nat)
 |[]=>[]
 |p::l=>bif l.any fun q=>q.1==p.1&&q.2==p.2 then dedup l else p::dedup l
def LV(H s:SSt)(l:List (Nat×Nat)):List (Nat×Nat):=l.flatMap fun p=>match H.obj p.2,s.obj p.1 with
 |some (.box _ cs),some (.box _ ds)=>Dm cs ds
 |_,_=>[]
def Ef(H s:SSt):List (Nat×Nat):=
 let l:=(s.objs.filterMap fun p=>bif Nat.blt p.1 1000000000 then none else some (p.1,p.1))++Ic H.tmps s.tmps
 let l2:=dedup (l++LV H s l)
 dedup (l2++LV H s l2)
def LQ(v:Nat):SC->SC->Option E
 | .dat _ (.var i),.dat _ e=>bif i==v then some e else none
 | .dat _ (.var i),.nil _ _=>bif i==v then some .nl else none
 |_,_=>none
def orE:Option E->Option E->Option E
 |some e,_=>some e
 |none,x=>x
def CS(v:Nat):List SC->List SC->Option E
 |c::cs,d::ds=>orE (LQ v c d) (CS v cs ds)
 |_,_=>none
def Vl(v:Nat):SV->SV->Option E
 | .one c,.one d=>LQ v c d
 | .agg cs,.agg ds=>CS v cs ds
 |_,_=>none
def Hj(v:Nat):List SV->List SV->Option E
 |c::cs,d::ds=>orE (Vl v c d) (Hj v cs ds)
 |_,_=>none
def SQ(v:Nat):SOb->Option SOb->Option E
 | .arr _ _ _ (.var i),some (.arr _ _ _ e)=>bif i==v then some e else none
 | .sealed _ _ (.var i),some (.sealed _ _ e)=>bif i==v then some e else none
 | .arx _ _ (.var i),some (.arx _ _ e)=>bif i==v then some e else none
 | .box _ cs,some (.box _ ds)=>CS v cs ds
 |_,_=>none
def IZ(v:Nat)(s:SSt):List (Nat×SOb)->Option E
 |[]=>none
 |(k,o)::l=>orE (SQ v o (s.obj k)) (IZ v s l)
def grab(v:Nat)(H s:SSt):E:=(orE (Hj v H.tmps s.tmps) (IZ v s H.objs)).getD (.int 0)
def Hp(H s:SSt)(l:List (Nat×Nat)):List Nat:=l.flatMap fun p=>match H.obj p.2,s.obj p.1 with
 |some (.arr _ _ false _),some (.arr _ _ true _)=>[p.1]
 |_,_=>[]
def CK(z:Nat):Nat->List SC->List SC->List (Nat×Nat×Nat)
 |j,.ref key none::ps,.nil _ _::cs=>(z,j,key)::CK z (j+1) ps cs
 |j,_::ps,_::cs=>CK z (j+1) ps cs
 |_,_,_=>[]
def E6(H s:SSt):List (Nat×Nat×Nat):=H.objs.flatMap fun p=>match p.2,s.obj p.1 with
 | .box _ cs,some (.box _ ds)=>CK p.1 0 cs ds
 |_,_=>[]
def fit(n m:Nat)(H s:SSt):Option (List E):=
 let s1:=lk (nU s (si 0 H.tmps s.tmps)) (E6 H s)
 let ps:=Ef H s1
 match(j9 s1 (Hp H s1 ps)).ren ps with
 |some s2=>
  let es:=(List.range m).map fun i=>grab (n+i) H s2
  bif s2.le (H.sub n es) then some es else none
 |none=>none
theorem xW(R:Rel C g (s.den Φ env) a w){n m:Nat}{H:SSt}{es:List E}(hn:n<=env.length)(h:fit n m H s=some es):
 es.length=m∧∃g',Rel C g' (H.den Φ (mU Φ env n es)) a w:=by
 unfold fit at h
 simp only at h
 split at h
 · rename_i s2 h2
   obtain⟨h3,h4⟩:=ak h
   clear h
   simp only[Option.some.injEq] at h4
   subst h4
   obtain⟨g0,R0⟩:=R.nU (si 0 H.tmps s.tmps)
   obtain⟨g1,R1⟩:=R0.lk (E6 H s)
   obtain⟨g3,R3⟩:=R1.j9 (Hp H (lk (nU s (si 0 H.tmps s.tmps)) (E6 H s)) (Ef H (lk (nU s (si 0 H.tmps s.tmps)) (E6 H s))))
   obtain⟨g2,R2⟩:=R3.reN h2
   refine⟨by simp,g2,?_⟩
   have:=R2.le h3
   rwa[SSt.di hn] at this
 · cases h
end
end Go.Vx
namespace Go.Vx
open Go.RowKit (Below)
def FB(tmps:Array Value):ResultVar->Sem Value
 | .tmp t=>pure (tmps.getD t undef)
 | .cell x t=>do loadVar t (<-asAddr (tmps.getD x undef))
theorem wk(fn:Func)(tmps:Array Value):results fn tmps=(do
 let vs<-fn.results.mapM (FB tmps)
 pure (if h:vs.size=1 then vs[0] else .tuple vs)):=rfl
def Lc(T:TypeId->TI)(s:SSt):ResultVar->Option SV
 | .tmp t=>some (s.tmp t)
 | .cell x t=>bif (T t).ok then match s.tmp x with
   | .ptr y _ j=>match s.obj y with
     |some (.box _ cs)=>bif Nat.ble (j+(T t).ks.length) cs.length then some (Fq (T t).agg ((cs.drop j).take (T t).ks.length)) else none
     |_=>none
   |_=>none
   else none
def w7(T:TypeId->TI)(s:SSt):List ResultVar->Option (List SV)
 |[]=>some []
 |r::rs=>match Lc T s r,w7 T s rs with
  |some v,some vs=>some (v::vs)
  |_,_=>none
def rk(s:SSt):RC->SC->Option (E×List Nat×List Nat)
 | .im k,.dat k' e=>bif K.eqb k' k then some (e,[],[]) else none
 | .im k,.nil t ks=>bif K.eqb (.sl t ks) k then some (.nl,[],[]) else none
 | .im k,.ref z p=>match s.obj z with
   |some (.arr t ks _ xs)=>bif K.eqb (.sl t ks) k then some (rp xs p,[],[z]) else none
   |some (.sealed t ks xs)=>bif K.eqb (.sl t ks) k then some (rp xs p,[],[]) else none
   |_=>none
 | .own t ks _,.nil t' ks'=>bif t==t'&&K.ct ks ks' then some (.nl,[],[]) else none
 | .own t ks dp,.ref z none=>match s.obj z with
   |some (.arr t' ks' dp' xs)=>bif (t==t'&&K.ct ks ks')&&(dp'||(!dp||eO ks)) then some (xs,[z],[]) else none
   |_=>none
 |_,_=>none
def pb(s:SSt):List RC->List SC->Option (List E×List Nat×List Nat)
 |[],[]=>some ([],[],[])
 |r::rs,c::cs=>match rk s r c,pb s rs cs with
  |some (e,o,q),some (es,os,qs)=>some (e::es,o++os,q++qs)
  |_,_=>none
 |_,_=>none
def kq:List RSh->List SV->Option (List SC)
 |[],[]=>some []
 | .one _::rs,.one c::vs=>(kq rs vs).map (c:: ·)
 | .agg ks::rs,.agg cs::vs=>bif ks.length==cs.length then(kq rs vs).map (cs++ ·) else none
 |_,_=>none
def fin(T:TypeId->TI)(rv:List ResultVar)(ax:List RSh)(s:SSt):Option (List E):=
 match w7 T s rv with
 |some vs=>match kq ax vs with
  |some cs=>match pb s (ax.flatMap RSh.cells) cs with
   |some (es,os,qs)=>bif iA (os++qs) then some es else none
   |none=>none
  |none=>none
 |none=>none
section
variable {Φ:Fns} {env:List D} {C:Cx} {g:Gh} {s:SSt} {a:Act} {w:World}
theorem JF(R:Rel C g (s.den Φ env) a w){r:ResultVar}{u:SV}(h:Lc C.T s r=some u):∃v,(FB a.tmps r).run C.P w= .ok v w∧bB (sur C g (s.den Φ env) w) (u.den Φ env) v:=by
 cases r with
 |tmp t=>
  simp only[Lc,Option.some.injEq] at h
  subst h
  have:=R.tmps t
  rw[SSt.fx] at this
  exact⟨_,rfl,this⟩
 |cell x t=>
  simp only[Lc] at h
  obtain⟨ht,h2⟩:=ak h
  clear h
  split at h2
  · rename_i y i j hx
    split at h2
    · rename_i T cs hy
      obtain⟨hn,h3⟩:=ak h2
      clear h2
      simp only[Option.some.injEq] at h3
      subst h3
      have hn:=le_of_ble_eq_true hn
      have h':=R.tmps x
      rw[SSt.fx,hx] at h'
      have h':aV (sur C g (s.den Φ env) w) y _ j (a.tmps.getD x undef):=h'
      have hy':=aT (Φ:=Φ) (env:=env) hy
      unfold aV at h'
      simp only[sur,hy',SOb.den] at h'
      obtain⟨b,hb,e⟩:=h'
      have ho':=R.objs y
      unfold bv at ho'
      simp only[sur,hy',SOb.den] at ho'
      obtain⟨b',vs,hb',_,hh,hcs⟩:=ho'
      rw[hb] at hb'
      simp only[Value.pointer.injEq,Option.some.injEq,Addr.mk.injEq,and_true] at hb'
      subst hb'
      have hrow:Row w b 0 vs:=Row.sK fun q v hv=>by
       rw[zero_add,cell_of_row w b q _ _ _ hh]
       simpa using hv
      have hr2:=(hrow.drop j).take (C.T t).ks.length
      rw[zero_add] at hr2
      have hl:((vs.drop j).take (C.T t).ks.length).length=(C.T t).ks.length:=by
       rw[List.length_take,List.length_drop,hcs.length,length_map];omega
      refine⟨mkV (C.T t).agg ((vs.drop j).take (C.T t).ks.length),?_,?_⟩
      · simp only[FB]
        rw[e]
        simp only[asAddr,Sem.run_bind,Sem.run_pure]
        exact re (C.tok t ht) hr2 hl
      · rw[nk,List.map_take,List.map_drop]
        exact qp (aE.take _ (aE.drop _ hcs))
    · cases h2
  · cases h2
theorem sc(R:Rel C g (s.den Φ env) a w):∀{rv:List ResultVar}{us:List SV},w7 C.T s rv=some us->∃vs,(rv.mapM (FB a.tmps)).run C.P w= .ok vs w∧f9 (sur C g (s.den Φ env) w) (us.map (SV.den Φ env)) vs
 |[],us,h=>by simp only[w7,Option.some.injEq] at h;subst h;exact⟨[],by simp,rfl⟩
 |r::rs,us,h=>by
  simp only[w7] at h
  split at h
  · rename_i v vs h1 h2
    simp only[Option.some.injEq] at h
    subst h
    obtain⟨x,q1,q2⟩:=JF R h1
    obtain⟨xs,q3,q4⟩:=sc R h2
    exact⟨x::xs,by simp[List.mapM_cons,q1,q3],⟨x,xs,rfl,q2,q4⟩⟩
  · cases h
theorem qj{S:Sur}:∀{ax:List RSh}{us:List SV}{cs:List SC}{vs:List Value},f9 S (us.map (SV.den Φ env)) vs->kq ax us=some cs->
 ∃xs,aE S (cs.map (SC.den Φ env)) xs∧vs=ky ax xs∧xs.length=(ax.flatMap RSh.cells).length
 |[],[],cs,vs,h,hf=>by
  simp only[kq,Option.some.injEq] at hf
  subst hf
  exact⟨[],rfl,h,rfl⟩
 | .one r::rs,.one c::us,cs,vs,h,hf=>by
   simp only[kq,map_eq_some_iff] at hf
   obtain⟨cs',h1,rfl⟩:=hf
   obtain⟨v,vs',rfl,hv,h'⟩:=h
   obtain⟨xs,q1,q2,q3⟩:=qj h' h1
   exact⟨v::xs,⟨v,xs,rfl,hv.2,hv.1,q1⟩,by simp[ky,RSh.mk,RSh.cells,q2],by simp[RSh.cells,q3]⟩
 | .agg ks::rs,.agg c::us,cs,vs,h,hf=>by
   simp only[kq] at hf
   obtain⟨hl,hf⟩:=ak hf
   simp only[map_eq_some_iff] at hf
   obtain⟨cs',h1,rfl⟩:=hf
   obtain⟨v,vs',rfl,hv,h'⟩:=h
   obtain⟨ys,rfl,hy⟩:=hv
   obtain⟨xs,q1,q2,q3⟩:=qj h' h1
   have hyl:ys.length=ks.length:=by rw[hy.length];simp only[length_map];exact(beq_iff_eq.1 hl).symm
   refine⟨ys++xs,?_,?_,?_⟩
   · rw[List.map_append];exact hy.append q1
   · simp[ky,RSh.mk,RSh.cells,q2,hyl]
   · simp[RSh.cells,q3,hyl]
 |[],_::_,_,_,_,hf=>by simp[kq] at hf
 | .one _::_,[],_,_,_,hf=>by simp[kq] at hf
 | .agg _::_,[],_,_,_,hf=>by simp[kq] at hf
 | .one _::_,.agg _::_,_,_,_,hf=>by simp[kq] at hf
 | .one _::_,.ptr .. ::_,_,_,_,hf=>by simp[kq] at hf
 | .one _::_,.pim .. ::_,_,_,_,hf=>by simp[kq] at hf
 | .one _::_,.tup .. ::_,_,_,_,hf=>by simp[kq] at hf
 | .one _::_,.whn .. ::_,_,_,_,hf=>by simp[kq] at hf
 | .one _::_,.dead::_,_,_,_,hf=>by simp[kq] at hf
 | .agg _::_,.one _::_,_,_,_,hf=>by simp[kq] at hf
 | .agg _::_,.ptr .. ::_,_,_,_,hf=>by simp[kq] at hf
 | .agg _::_,.pim .. ::_,_,_,_,hf=>by simp[kq] at hf
 | .agg _::_,.tup .. ::_,_,_,_,hf=>by simp[kq] at hf
 | .agg _::_,.whn .. ::_,_,_,_,hf=>by simp[kq] at hf
 | .agg _::_,.dead::_,_,_,_,hf=>by simp[kq] at hf
theorem tL(R:Rel C g (s.den Φ env) a w):∀{rs:List RC}{cs:List SC}{vs:List Value}{es:List E}{os qs:List Nat},aE (sur C g (s.den Φ env) w) (cs.map (SC.den Φ env)) vs->pb s rs cs=some (es,os,qs)->
 ∀b∈bD rs vs,∃z∈os,Ob.live ((s.den Φ env).obj z)=true∧bq (g.hd z)=some b∧b∈g.fp z
 |[],cs,vs,es,os,qs,h,hf=>by intro b hb;simp[bD] at hb
 |r::rs,[],vs,es,os,qs,h,hf=>by simp[pb] at hf
 |r::rs,c::cs,vs,es,os,qs,h,hf=>by
  obtain⟨v,vs',rfl,ho,hc,h'⟩:=h
  simp only[pb] at hf
  split at hf
  · rename_i e o q es' os' qs' h1 h2
    simp only[Option.some.injEq,Prod.mk.injEq] at hf
    obtain⟨rfl,rfl,rfl⟩:=hf
    intro b hb
    simp only[bD,mem_append] at hb
    rcases hb with hb|hb
    · cases r with
      |im k=>simp[RC.head] at hb
      |own t ks dp=>
       simp only[RC.head,Option.mem_toList] at hb
       cases c with
       |nil t' ks'=>
        have:v= .slice none 0 0:=hc
        subst this
        simp[Value.ownBlock] at hb
       |ref z p=>
        cases p with
        |some p=>simp[rk] at h1
        |none=>
         simp only[rk] at h1
         split at h1
         · rename_i t' ks' dp' xs hz
           obtain⟨_,h3⟩:=ak h1
           simp only[Option.some.injEq,Prod.mk.injEq] at h3
           obtain⟨_,rfl,_⟩:=h3
           have hz':=aT (Φ:=Φ) (env:=env) hz
           have hr:aB (sur C g (s.den Φ env) w) z none v:=hc
           unfold aB at hr
           simp only[sur,hz',SOb.den] at hr
           have hv:=hr.2
           subst hv
           have hob:=R.objs z
           unfold bv at hob
           simp only[sur,hz',SOb.den] at hob
           obtain⟨vss,fps,hown,_,_,_,hfp,_⟩:=hob
           refine⟨z,by simp,by rw[hz'];rfl,?_,by rw[hfp];simp[hb]⟩
           rcases be hown with ⟨e1,_⟩|⟨b',c',e1,_⟩
           · rw[e1] at hb;simp[Value.ownBlock] at hb
           · rw[e1] at hb⊢;simpa[Value.ownBlock,bq] using hb
         · cases h1
       |dat=>simp[rk] at h1
       |dead=>simp[rk] at h1
    · obtain⟨z,hz,hq⟩:=tL R h' h2 b hb
      exact⟨z,by simp[hz],hq⟩
  · cases hf
theorem xQ(R:Rel C g (s.den Φ env) a w){hs:List Nat}{OK:List Nat}(hhs:∀b∈hs,∃z∈OK,Ob.live ((s.den Φ env).obj z)=true∧bq (g.hd z)=some b∧b∈g.fp z):
 ∀{rs:List RC}{cs:List SC}{vs:List Value}{es:List E}{os qs:List Nat},aE (sur C g (s.den Φ env) w) (cs.map (SC.den Φ env)) vs->pb s rs cs=some (es,os,qs)->(∀z∈qs,z ∉ OK)->
 ∃Fs,ch w (MeH C.M hs) rs vs (es.map (E.den Φ env)) Fs∧Fs.flatten.Sublist (os.flatMap g.fp)
 |[],[],vs,es,os,qs,h,hf,_=>by
  simp only[pb,Option.some.injEq,Prod.mk.injEq] at hf
  obtain⟨rfl,rfl,rfl⟩:=hf
  exact⟨[],⟨h,rfl⟩,Sublist.refl _⟩
 |[],_::_,vs,es,os,qs,h,hf,_=>by simp[pb] at hf
 |r::rs,[],vs,es,os,qs,h,hf,_=>by simp[pb] at hf
 |r::rs,c::cs,vs,es,os,qs,h,hf,hq=>by
  obtain⟨v,vs',rfl,ho,hc,h'⟩:=h
  have weak:∀b o,MeH C.M hs b o->Me C.M (s.den Φ env).obj g.hd g.fp b o:=fun b o hm=>by
   rcases hm with hm|hm
   · exact .inl hm
   · obtain⟨z,_,h1,h2,_⟩:=hhs b hm
     exact .inr (.inl ⟨z,h1,h2⟩)
  simp only[pb] at hf
  split at hf
  · rename_i e o q es' os' qs' h1 h2
    simp only[Option.some.injEq,Prod.mk.injEq] at hf
    obtain⟨rfl,rfl,rfl⟩:=hf
    obtain⟨Fs,i1,i2⟩:=xQ R hhs h' h2 fun z hz=>hq z (by simp[hz])
    cases r with
    |im k=>
     have main:bV w (MeH C.M hs) k v (e.den Φ env)∧o=[]:=by
      cases c with
      |dat k' e'=>
       simp only[rk] at h1
       obtain⟨h3,h4⟩:=ak h1
       simp only[Option.some.injEq,Prod.mk.injEq] at h4
       obtain⟨rfl,rfl,rfl⟩:=h4
       rw[<-K.aY h3]
       exact⟨bV.mono weak hc,rfl⟩
      |nil t ks=>
       simp only[rk] at h1
       obtain⟨h3,h4⟩:=ak h1
       simp only[Option.some.injEq,Prod.mk.injEq] at h4
       obtain⟨rfl,rfl,rfl⟩:=h4
       rw[<-K.aY h3]
       exact⟨bV.mono weak (iN.dn hc),rfl⟩
      |ref z p=>
       simp only[rk] at h1
       split at h1
       · rename_i t ks dp xs hz
         obtain⟨h3,h4⟩:=ak h1
         simp only[Option.some.injEq,Prod.mk.injEq] at h4
         obtain⟨rfl,rfl,rfl⟩:=h4
         rw[<-K.aY h3,eV]
         refine⟨R.ue (aT hz) hc _ (fun b o v hcl hn=>⟨hcl,fun hm=>hn (weak b o hm)⟩) (fun b hb p hm=> ?_),rfl⟩
         rcases hm with hm|hm
         · have:=C.oL b p hm
           rcases(R.alw z b hb).1 with h5|h5
           · omega
           · exact this.2 h5
         · obtain⟨z',hz',_,_,hfp⟩:=hhs b hm
           have:z≠z':=fun e=>hq z (by simp) (e▸hz')
           exact R.apart z z' this b hb hfp
       · rename_i t ks xs hz
         obtain⟨h3,h4⟩:=ak h1
         simp only[Option.some.injEq,Prod.mk.injEq] at h4
         obtain⟨rfl,rfl,rfl⟩:=h4
         rw[<-K.aY h3,eV]
         have hr:aB (sur C g (s.den Φ env) w) z (jK Φ env p) v:=hc
         unfold aB at hr
         have ho:(sur C g (s.den Φ env) w).obj z=_:=aT (Φ:=Φ) (env:=env) hz
         rw[ho] at hr
         exact⟨bV.mono weak hr.2,rfl⟩
       · cases h1
      |dead=>simp[rk] at h1
     obtain⟨m1,rfl⟩:=main
     exact⟨Fs,⟨v,vs',rfl,m1,i1⟩,by simpa using i2⟩
    |own t ks dp=>
     have main:∃F,bU w (MeH C.M hs) t ks dp v (e.den Φ env).ae F∧F.Sublist (o.flatMap g.fp):=by
      cases c with
      |nil t' ks'=>
       simp only[rk] at h1
       obtain⟨h3,h4⟩:=ak h1
       simp only[and_eq_true,beq_iff_eq] at h3
       simp only[Option.some.injEq,Prod.mk.injEq] at h4
       obtain⟨rfl,rfl,rfl⟩:=h4
       have hv:v= .slice none 0 0:=hc
       subst hv
       exact⟨[],⟨[],[],World.ownsRow_nil _ _ _ _,by simp[E.den,al],rfl,rfl,rfl,fun i row vs f h=>by simp[E.den] at h⟩,Sublist.refl _⟩
      |ref z p=>
       cases p with
       |some p=>simp[rk] at h1
       |none=>
        simp only[rk] at h1
        split at h1
        · rename_i t' ks' dp' xs hz
          obtain⟨h3,h4⟩:=ak h1
          simp only[Option.some.injEq,Prod.mk.injEq] at h4
          obtain⟨rfl,rfl,rfl⟩:=h4
          simp only[and_eq_true,beq_iff_eq] at h3
          obtain⟨⟨rfl,h5⟩,hdp⟩:=h3
          have h6:=K.bp h5
          subst h6
          have hz':=aT (Φ:=Φ) (env:=env) hz
          have hr:aB (sur C g (s.den Φ env) w) z none v:=hc
          unfold aB at hr
          simp only[sur,hz',SOb.den] at hr
          have hv:=hr.2
          subst hv
          have hob:=R.objs z
          unfold bv at hob
          simp only[sur,hz',SOb.den] at hob
          obtain⟨vss,fps,q1,q2,q3,q4,q5,q6⟩:=hob
          cases dp with
          |true=>
           cases dp' with
           |true=>exact⟨g.fp z,⟨vss,fps,q1,q2,q3,q4,q5,fun i row vs f e1 e2 e3=>q6 i row vs f e1 e2 e3⟩,by simp⟩
           |false=>
            have hpl:eO ks=true:=by simpa using hdp
            refine⟨g.fp z,⟨vss,fps,q1,q2,q3,q4,q5,fun i row vs f e1 e2 e3=> ?_⟩,by simp⟩
            have:=q6 i row vs f e1 e2 e3
            simp only[false_eq_true,if_false,if_true] at this⊢
            rw[this.2]
            exact this.1.plain hpl
          |false=>
          cases dp' with
          |false=>
           refine⟨g.fp z,⟨vss,fps,q1,q2,q3,q4,q5,fun i row vs f e1 e2 e3=> ?_⟩,by simp⟩
           have:=q6 i row vs f e1 e2 e3
           simp only[false_eq_true,if_false] at this⊢
           exact⟨aP.mono weak this.1,this.2⟩
          |true=>
           refine⟨(g.hd z).ownBlock.toList,⟨vss,fps.map fun _=>[],q1,q2,q3,by simpa using q4,by simp,fun i row vs f e1 e2 e3=> ?_⟩,?_⟩
           · rw[getElem?_map,map_eq_some_iff] at e3
             obtain⟨f',e3,rfl⟩:=e3
             have:=q6 i row vs f' e1 e2 e3
             simp only[false_eq_true,if_false,if_true] at this⊢
             refine⟨this.toC fun b hb o hm=> ?_,trivial⟩
             have hbz:b∈fps.flatten:=List.mem_flatten.2 ⟨f',mem_of_getElem? e3,hb⟩
             have hbf:b∈g.fp z:=by rw[q5];exact mem_append.2 (.inr hbz)
             rcases hm with hm|hm
             · have:=C.oL b o hm
               rcases(R.alw z b hbf).1 with h7|h7
               · omega
               · exact this.2 h7
             · obtain⟨z',_,_,hbk,hfp'⟩:=hhs b hm
               by_cases hzz:z=z'
               · subst hzz
                 have hnd:=R.own z
                 rw[q5] at hnd
                 have hob:(g.hd z).ownBlock=some b:=by rw[<-fe q1];exact hbk
                 exact(nodup_append.1 hnd).2.2 b (by rw[hob];simp) b hbz rfl
               · exact R.apart z z' hzz b hbf hfp'
           · simp only[flatMap_cons,List.flatMap_nil,List.append_nil]
             rw[q5];exact List.sublist_append_left _ _
        · cases h1
      |dat=>simp[rk] at h1
      |dead=>simp[rk] at h1
     obtain⟨F,m1,hsub⟩:=main
     exact⟨_::Fs,⟨v,vs',_,Fs,rfl,rfl,m1,i1⟩,by rw[List.flatten_cons,List.flatMap_append];exact hsub.append i2⟩
  · cases hf
theorem xX(R:Rel C g (s.den Φ env) a w):∀{os:List Nat},os.Nodup->(os.flatMap g.fp).Nodup
 |[],_=>nodup_nil
 |z::os,h=>by
  obtain⟨h1,h2⟩:=List.nodup_cons.1 h
  rw[flatMap_cons]
  refine nodup_append.2 ⟨R.own z,xX R h2,fun b hb c hc e=> ?_⟩
  subst e
  obtain⟨y,hy,hb'⟩:=mem_flatMap.1 hc
  exact R.apart z y (fun e=>h1 (e▸hy)) b hb hb'
theorem Fo(R:Rel C g (s.den Φ env) a w){fn:Func}{ax:List RSh}{es:List E}(h:fin C.T fn.results.toList ax s=some es):
 ∃us Fs,(results fn a.tmps).run C.P w= .ok (jt ax us) w∧ch w (MeH C.M (bD (ax.flatMap RSh.cells) us)) (ax.flatMap RSh.cells) us (es.map (E.den Φ env)) Fs∧
  Fs.flatten.Nodup∧∀b,b∈Fs.flatten->(C.w0.heap.size<=b∨b∈C.X)∧b<w.heap.size:=by
 unfold fin at h
 split at h
 · rename_i uv h1
   split at h
   · rename_i cs h2
     split at h
     · rename_i es' os qs h3
       obtain⟨h4,h5⟩:=ak h
       clear h
       simp only[Option.some.injEq] at h5
       subst h5
       obtain⟨vs,r1,r2⟩:=sc R h1
       obtain⟨us,q1,q2,q3⟩:=qj r2 h2
       have hnd:=gU h4
       obtain⟨n1,n2,n3⟩:=nodup_append.1 hnd
       obtain⟨Fs,k1,k2⟩:=xQ R (tL R q1 h3) q1 h3 fun z hz hz'=>n3 z hz' z hz rfl
       refine⟨us,Fs,?_,k1,(xX R n1).sublist k2,fun b hb=> ?_⟩
       · rw[wk,show fn.results=fn.results.toList.toArray by simp]
         simp only[List.mapM_toArray,Sem.run_bind]
         have:((List.toArray <$>List.mapM (FB a.tmps) fn.results.toList:Sem (Array Value))).run C.P w= .ok vs.toArray w:=by simp[r1]
         rw[this]
         simp only[Result.andThen,Sem.run_pure]
         subst q2
         congr 1
         rcases ax with _|⟨r,_|⟨r2,rs⟩⟩
         · rfl
         · have:us.take r.cells.length=us:=List.take_of_length_le (by rw[q3];simp)
           simp[ky,jt,this]
         · simp[ky,jt]
       · obtain⟨z,hz,hb⟩:=mem_flatMap.1 (k2.subset hb)
         exact R.alw z b hb
     · cases h
   · cases h
 · cases h
end
def cand(ops:Array Oper)(L:List Bool):List Nat:=(List.range ops.size).filter fun i=> !(L.getD i true)&&match ops[i]? with
 |some o=>o.after.toList.all fun e=> !Region.binds .any e||L.getD e.on false
 |none=>false
abbrev Lay:=List (List Bool×SSt)
def Lay.find(L:List Bool):Lay->Option SSt
 |[]=>none
 |(K,s)::X=>bif K==L then some s else find L X
def KH(c cs:List E):List E:=cs++c.filter fun e=> !cs.any (E.eqb e)
def w8(T:TypeId->TI)(CT:Nat->Option Sig)(ops:Array Oper)(L:List Bool)(s:SSt):List Nat->List E->Lay->Option (List E×Lay)
 |[],cs,Y=>some (cs,Y)
 |i::l,cs,Y=>match ops[i]? with
  |some o=>match wa T CT ops s o with
   |some (c,s')=>match Y.find (L.set i true) with
    |some s2=>bif s'.le s2 then w8 T CT ops L s l (KH c cs) Y else none
    |none=>w8 T CT ops L s l (KH c cs) ((L.set i true,s')::Y)
   |none=>none
  |none=>none
def H3(T:TypeId->TI)(CT:Nat->Option Sig)(ops:Array Oper):Lay->List E->Lay->Option (List E×Lay)
 |[],cs,Y=>some (cs,Y)
 |(L,s)::X,cs,Y=>match cand ops L with
  |[]=>none
  |i::l=>match w8 T CT ops L s (i::l) cs Y with
   |some (cs',Y')=>H3 T CT ops X cs' Y'
   |none=>none
def Hc(T:TypeId->TI)(CT:Nat->Option Sig)(ops:Array Oper):Nat->Lay->List E->Option (List E×SSt)
 |0,X,cs=>match X with
  |[(L,s)]=>bif (cand ops L).isEmpty then some (cs,s) else none
  |_=>none
 |n+1,X,cs=>match H3 T CT ops X cs [] with
  |some (cs',Y)=>Hc T CT ops n Y cs'
  |none=>none
def TJ(T:TypeId->TI)(CT:Nat->Option Sig)(ops:Array Oper)(s:SSt):Option (List E×SSt):=Hc T CT ops ops.size [(List.replicate ops.size false,s)] []
theorem Lay.zZ{L:List Bool}{s:SSt}:∀{X:Lay},X.find L=some s->(L,s)∈X
 |[],h=>by simp[Lay.find] at h
 |(K,s1)::X,h=>by
  simp only[Lay.find] at h
  cases hk:K==L with
  |true=>
   rw[hk] at h
   simp only[cond_true,Option.some.injEq] at h
   have:K=L:=by simpa using hk
   subst this;subst h
   simp
  |false=>
   rw[hk] at h
   exact mem_cons_of_mem _ (Lay.zZ h)
theorem vK{ops:Array Oper}{listed:Array Bool}{L:List Bool}(hL:listed.toList=L)(i:Nat):i∈Region.ready .any ops listed↔i∈cand ops L:=by
 have hg:∀j b,L.getD j b=listed.getD j b:=fun j b=>by
  subst hL
  simp[getD_eq_getElem?_getD]
 rw[mem_ready]
 unfold cand
 rw[mem_filter,mem_range]
 cases ho:ops[i]? with
 |none=>simp
 |some o=>
  have hlt:i<ops.size:=(Array.getElem?_eq_some_iff.1 ho).1
  simp only[hlt,true_and,hg,Option.some.injEq,exists_eq_left',and_eq_true,not_eq_true',all_eq_true,or_eq_true,mem_toList_iff]
  constructor
  · rintro⟨h1,h2⟩
    refine⟨h1,fun e he=> ?_⟩
    cases hb:Region.binds .any e with
    |false=>exact .inl rfl
    |true=>exact .inr (h2 e he hb)
  · rintro⟨h1,h2⟩
    exact⟨h1,fun e he hb=>(h2 e he).resolve_left (by simp[hb])⟩
section
variable {Φ:Fns} {env:List D} {C:Cx} {g:Gh} {s:SSt} {a:Act} {w:World} {CT:Nat->Option Sig} {ops:Array Oper}
theorem ui{c cs:List E}(h:holds Φ env (KH c cs)):holds Φ env c∧holds Φ env cs:=by
 unfold KH at h
 have h2:holds Φ env cs:=fun e he=>h e (mem_append.2 (.inl he))
 refine⟨fun e he=> ?_,h2⟩
 cases hx:cs.any (E.eqb e) with
 |true=>
  obtain⟨y,hy,hey⟩:=any_eq_true.1 hx
  rw[E.aY hey]
  exact h2 y hy
 |false=>exact h e (mem_append.2 (.inr (mem_filter.2 ⟨he,by simp[hx]⟩)))
theorem vE{T:TypeId->TI}{L:List Bool}:∀{l:List Nat}{cs cs':List E}{Y Y':Lay},w8 T CT ops L s l cs Y=some (cs',Y')->
 (holds Φ env cs'->holds Φ env cs)∧(∀p∈Y,p∈Y')∧∀i∈l,∃o c s' s2,ops[i]? =some o∧wa T CT ops s o=some (c,s')∧(holds Φ env cs'->holds Φ env c)∧(L.set i true,s2)∈Y'∧(s'=s2∨s'.le s2=true)
 |[],cs,cs',Y,Y',h=>by
  simp only[w8,Option.some.injEq,Prod.mk.injEq] at h
  obtain⟨rfl,rfl⟩:=h
  exact⟨id,fun _ h=>h,fun i hi=>by simp at hi⟩
 |i::l,cs,cs',Y,Y',h=>by
  simp only[w8] at h
  split at h
  · rename_i o ho
    split at h
    · rename_i c s' hs
      split at h
      · rename_i s2 h2
        obtain⟨h3,h⟩:=ak h
        obtain⟨k1,k2,k3⟩:=vE (l:=l) h
        refine⟨fun hh=>(ui (k1 hh)).2,k2,fun j hj=> ?_⟩
        rcases mem_cons.1 hj with rfl|hj
        · exact⟨o,c,s',s2,ho,hs,fun hh=>(ui (k1 hh)).1,k2 _ (Lay.zZ h2),.inr h3⟩
        · exact k3 j hj
      · obtain⟨k1,k2,k3⟩:=vE (l:=l) h
        refine⟨fun hh=>(ui (k1 hh)).2,fun p hp=>k2 p (by simp[hp]),fun j hj=> ?_⟩
        rcases mem_cons.1 hj with rfl|hj
        · exact⟨o,c,s',s',ho,hs,fun hh=>(ui (k1 hh)).1,k2 _ (by simp),.inl rfl⟩
        · exact k3 j hj
    · cases h
  · cases h
theorem EN{T:TypeId->TI}:∀{X:Lay}{cs cs':List E}{Y Y':Lay},H3 T CT ops X cs Y=some (cs',Y')->
 (holds Φ env cs'->holds Φ env cs)∧(∀p∈Y,p∈Y')∧∀q∈X,cand ops q.1≠[]∧∀i∈cand ops q.1,∃o c s' s2,ops[i]? =some o∧wa T CT ops q.2 o=some (c,s')∧(holds Φ env cs'->holds Φ env c)∧(q.1.set i true,s2)∈Y'∧(s'=s2∨s'.le s2=true)
 |[],cs,cs',Y,Y',h=>by
  simp only[H3,Option.some.injEq,Prod.mk.injEq] at h
  obtain⟨rfl,rfl⟩:=h
  exact⟨id,fun _ h=>h,fun i hi=>by simp at hi⟩
 |(L,s)::X,cs,cs',Y,Y',h=>by
  simp only[H3] at h
  split at h
  · cases h
  · rename_i i l hc
    split at h
    · rename_i cs1 Y1 h1
      obtain⟨k1,k2,k3⟩:=vE (Φ:=Φ) (env:=env) h1
      obtain⟨m1,m2,m3⟩:=EN (X:=X) h
      refine⟨fun hh=>k1 (m1 hh),fun p hp=>m2 p (k2 p hp),fun q hq=> ?_⟩
      rcases mem_cons.1 hq with rfl|hq
      · refine⟨by simp only[hc];simp,fun j hj=> ?_⟩
        simp only[hc] at hj
        obtain⟨o,c,s',s2,a1,a2,a3,a4,a5⟩:=k3 j hj
        exact⟨o,c,s',s2,a1,a2,fun hh=>a3 (m1 hh),m2 _ a4,a5⟩
      · exact m3 q hq
    · cases h
theorem EX(hCT:Told C.P Φ CT){Q:Exit->Act->World->Prop}{sf:SSt}(hQ:∀a' w' g',Rel C g' (sf.den Φ env) a' w'->Q .normal a' w'):∀{n:Nat}{X:Lay}{cs cs':List E},Hc C.T CT ops n X cs=some (cs',sf)->holds Φ env cs'->
 holds Φ env cs∧∀q∈X,∀(listed:Array Bool)(g:Gh)(a:Act)(w:World),listed.toList=q.1->Rel C g (q.2.den Φ env) a w->wpAny C.P .any ops Q n listed a w
 |0,X,cs,cs',h,hh=>by
  simp only[Hc] at h
  split at h
  · rename_i L s
    obtain⟨h1,h2⟩:=ak h
    simp only[Option.some.injEq,Prod.mk.injEq] at h2
    obtain⟨rfl,rfl⟩:=h2
    refine⟨hh,fun q hq listed g a w hl R=> ?_⟩
    simp only[mem_singleton] at hq
    subst hq
    refine⟨?_,hQ a w g R⟩
    have h1:cand ops L=[]:=by simpa using h1
    refine List.eq_nil_iff_forall_not_mem.2 fun i hi=> ?_
    have:=(vK hl i).1 hi
    simp[h1] at this
  · cases h
 |n+1,X,cs,cs',h,hh=>by
  simp only[Hc] at h
  split at h
  · rename_i cs1 Y h1
    obtain⟨r1,r2⟩:=EX hCT hQ h hh
    obtain⟨k1,_,k3⟩:=EN (Φ:=Φ) (env:=env) h1
    refine⟨k1 r1,fun q hq listed g a w hl R=>⟨fun hnil=> ?_,fun i hi=> ?_⟩⟩
    · obtain⟨hne,_⟩:=k3 q hq
      obtain⟨i,l,hc⟩:=List.exists_cons_of_ne_nil hne
      have:=(vK hl i).2 (by rw[hc];simp)
      rw[hnil] at this
      simp at this
    · obtain⟨o,c,s',s2,ho,hs,hc,hm,he⟩:=(k3 q hq).2 i ((vK hl i).1 hi)
      have:=lr R hCT hs (hc r1) (wpAny C.P .any ops Q n (listed.setIfInBounds i true)) Q fun a' w' g' R'=>by
       refine r2 _ hm _ g' a' w' (by rw[toList_setIfInBounds,hl]) ?_
       rcases he with rfl|he
       · exact R'
       · exact R'.le he
      unfold wpOp
      simp only[ho]
      split at this
      · rename_i hw;rw[if_pos hw];exact .inl this
      · rename_i hw;rw[if_neg hw];exact this
  · cases h
theorem Dv(hCT:Told C.P Φ CT)(hm:C.P.follows .mixedOrders=true){id:Nat}{Q:Exit->Act->World->Prop}{cs:List E}{s':SSt}(R:Rel C g (s.den Φ env) a w)
 (h:TJ C.T CT ops s=some (cs,s')) (hc:holds Φ env cs) (hQ:∀a' w' g',Rel C g' (s'.den Φ env) a' w'->Q .normal a' w'):(Code.region id ops true).wp C.P Q a w:=by
 have RR:Rel C g (s.den Φ env) a { w with drawn:=w.drawn+1 }:=Rel.same (w:=w) R rfl rfl rfl rfl
 exact wp_region_any hm ((EX hCT hQ h hc).2 _ (mem_singleton.2 rfl) _ g a _ (by simp) RR)
end
end Go.Vx
namespace Go.Vx
open Go.RowKit (Below)
mutual
def SV.eqb:SV->SV->Bool
 | .dead,.dead=>true
 | .one c,.one d=>c.eqb d
 | .agg cs,.agg ds=>SC.ct cs ds
 | .ptr z i j,.ptr z' i' j'=>z==z'&&E.eqb i i'&&j==j'
 | .pim ks e o,.pim ks' e' o'=>K.ct ks ks'&&E.eqb e e'&&o==o'
 | .tup us,.tup vs=>SV.ct us vs
 | .whn c u,.whn c' v=>E.eqb c c'&&u.eqb v
 | .lod z i j,.lod z' i' j'=>z==z'&&E.eqb i i'&&j==j'
 |_,_=>false
def SV.ct:List SV->List SV->Bool
 |[],[]=>true
 |u::us,v::vs=>u.eqb v&&SV.ct us vs
 |_,_=>false
end
mutual
theorem SV.aY:∀{u v:SV},u.eqb v=true->u=v
 | .dead,v,h=>by cases v<;>simp_all [SV.eqb]
 | .one c,v,h=>by
   cases v<;>simp only[SV.eqb,false_eq_true] at h
   rw[SC.aY h]
 | .agg cs,v,h=>by
   cases v<;>simp only[SV.eqb,false_eq_true] at h
   rw[SC.bp h]
 | .ptr z i j,v,h=>by
   cases v<;>simp only[SV.eqb,false_eq_true,and_eq_true,beq_iff_eq] at h
   rw[h.1.1,E.aY h.1.2,h.2]
 | .pim ks e o,v,h=>by
   cases v<;>simp only[SV.eqb,false_eq_true,and_eq_true,beq_iff_eq] at h
   rw[K.bp h.1.1,E.aY h.1.2,h.2]
 | .tup us,v,h=>by
   cases v<;>simp only[SV.eqb,false_eq_true] at h
   rw[SV.bp h]
 | .whn c u,v,h=>by
   cases v<;>simp only[SV.eqb,false_eq_true,and_eq_true] at h
   rw[E.aY h.1,SV.aY h.2]
 | .lod z i j,v,h=>by
   cases v<;>simp only[SV.eqb,false_eq_true,and_eq_true,beq_iff_eq] at h
   rw[h.1.1,E.aY h.1.2,h.2]
theorem SV.bp:∀{us vs:List SV},SV.ct us vs=true->us=vs
 |[],vs,h=>by cases vs<;>simp_all [SV.ct]
 |u::us,[],h=>by simp[SV.ct] at h
 |u::us,v::vs,h=>by
  simp only[SV.ct,and_eq_true] at h
  rw[SV.aY h.1,SV.bp h.2]
end
structure eb where
 d:Nat
 cs:List E
 v:SV
 ob:Option (List (Nat×SOb))
def eb.pl(e:eb):Nat×List E×SV:=(e.d,e.cs,e.v)
def ER(T:TypeId->TI)(CT:Nat->Option Sig)(ops:Array Oper)(s:SSt)(o:Oper):Option eb:=
 match lg T CT ops s o with
 |some (d,cs,v)=>some ⟨d,cs,v,none⟩
 |none=>match o.dst,o.guard with
  |some d,none=>bif jo o&&Nat.blt d s.tmps.length then match fOp T CT (d*64) s o with
   |some r=>some ⟨d,r.cs,r.v,some (s.bg r.upd).objs⟩
   |none=>none
   else none
  |_,_=>none
def wL(s:SSt)(e:eb):SSt:=(match e.ob with|some O=>(⟨s.tmps,O⟩:SSt)|none=>s).ew e.d e.v
def mgo(T:TypeId->TI)(CT:Nat->Option Sig)(ops:Array Oper):List Nat->SSt->Option (List eb×SSt)
 |[],s=>some ([],s)
 |i::l,s=>match ops[i]? with
  |some o=>match ER T CT ops s o with
   |some e=>match mgo T CT ops l (wL s e) with
    |some (p,s')=>some (e::p,s')
    |none=>none
   |none=>none
  |none=>none
def cnt(p:List eb)(i:Nat):Nat:=((p.take i).filterMap (·.ob)).length
def f6(s:SSt)(p:List eb)(k:Nat):List (Nat×SOb):=(s.objs::p.filterMap (·.ob)).getD k []
def Ew(ops:Array Oper)(p:List eb)(i k:Nat):Bool:=(List.range p.length).all fun j=>match p[j]? with
 |some e=>match e.ob with
  |some _=>(!binding ops i j||Nat.blt (cnt p j) k)&&(!binding ops j i||Nat.ble k (cnt p j))
  |none=>true
 |none=>true
def Ja(T:TypeId->TI)(CT:Nat->Option Sig)(ops:Array Oper)(s0:SSt)(p:List eb):List Nat->SSt->Bool
 |[],_=>true
 |i::l,s=>(match ops[i]?,p[i]? with
  |some o,some e=>(match e.ob with
   |some _=>(match cI (e.d*64) s.objs with|none=>true|some _=>false)
   |none=>(List.range ((p.filterMap (·.ob)).length+1)).all fun k=> !Ew ops p i k||((match cI (e.d*64) (f6 s0 p k) with|none=>true|some _=>false)&&
     match lg T CT ops ⟨s.tmps,f6 s0 p k⟩ o with
     |some (d,cs,v)=>d==e.d&&(E.ct cs e.cs&&v.eqb e.v)
     |none=>false))&&Ja T CT ops s0 p l (wL s e)
  |_,_=>false)
def NS(ops:Array Oper)(p:List eb)(m:Nat):Bool:=
 (List.range m).all fun i=>
   (match ops[i]? with
     |some o=>o.after.toList.all fun e=> !Region.binds .any e||Nat.blt e.on i
     |none=>false)&&
   (List.range m).all fun j=>match p[i]?,p[j]? with
     |some pi,some pj=>(i==j|| !(pi.d==pj.d))&&((!nR ops i pj.d||bif Nat.blt j i then binding ops i j else i==j||binding ops j i)&&
       (!(pi.ob.isSome&&pj.ob.isSome&&cnt p j+1==cnt p i)||binding ops i j))
     |_,_=>false
def lE(ops:Array Oper)(i:Nat):Bool:=(match ops[i]? with
 |some o=>o.after.toList.all fun e=> !Region.binds .any e||Nat.blt e.on i
 |none=>false)&&(List.range i).all fun j=>binding ops i j
def ix(ops:Array Oper):Nat->Nat
 |0=>0
 |n+1=>bif lE ops n then ix ops n else n+1
def N8(T:TypeId->TI)(CT:Nat->Option Sig)(ops:Array Oper)(s:SSt):Option (List E×SSt):=
 match mgo T CT ops (List.range (ix ops ops.size)) (dU (sn ops) s) with
 |some (p,s1)=>bif NS ops p (ix ops ops.size)&&Ja T CT ops (dU (sn ops) s) p (List.range (ix ops ops.size)) (dU (sn ops) s) then
   match tX T CT ops (range' (ix ops ops.size) (ops.size - ix ops ops.size)) s1 with
   |some (cs,s2)=>some (p.flatMap (·.cs)++cs,s2)
   |none=>none
   else none
 |none=>none
theorem xf(s:SSt)(e:eb):(wL s e).tmps=s.tmps.set e.d e.v:=by
 unfold wL SSt.ew
 cases e.ob<;>rfl
theorem Fy(s:SSt)(e:eb):(wL s e).objs=e.ob.getD s.objs:=by
 unfold wL SSt.ew
 cases e.ob<;>rfl
theorem qH{p:List eb}{i:Nat}{e:eb}(h:p[i]? =some e):cnt p (i+1)=cnt p i+(if e.ob.isSome then 1 else 0):=by
 unfold cnt
 rw[List.take_add_one,h,List.filterMap_append,List.length_append]
 cases ho:e.ob<;>simp[ho]
theorem Il{p:List eb}{i j:Nat}(h:i<=j):cnt p i<=cnt p j:=by
 unfold cnt
 exact((List.take_prefix_take_left h).filterMap _).length_le
theorem Hg{p:List eb}{i j:Nat}{e:eb}(h:p[i]? =some e)(ho:e.ob.isSome=true)(hij:i<j):cnt p i<cnt p j:=by
 have:=qH h
 rw[if_pos ho] at this
 have:=Il (p:=p) (i:=i+1) (j:=j) hij
 omega
theorem uG{s:SSt}{p:List eb}{i:Nat}{e:eb}{X:List (Nat×SOb)}(h:p[i]? =some e)(ho:e.ob=some X):f6 s p (cnt p i+1)=X:=by
 have hlt:=(List.getElem?_eq_some_iff.1 h).1
 have hp:p=p.take i++e::p.drop (i+1):=by
  have h1:=List.take_append_drop i p
  rw[List.drop_eq_getElem_cons hlt,(List.getElem?_eq_some_iff.1 h).2] at h1
  exact h1.symm
 unfold f6 cnt
 simp only[getD_cons_succ]
 have:p.filterMap (·.ob)=(p.take i).filterMap (·.ob)++X::(p.drop (i+1)).filterMap (·.ob):=by
  conv=>lhs;rw[hp]
  rw[List.filterMap_append,List.filterMap_cons_some ho]
 rw[this,getD_eq_getElem?_getD,getElem?_append_right (le_refl _)]
 simp
theorem uM{p:List eb}:∀{i c:Nat},i<=p.length->cnt p i=c+1->∃j e,j<i∧p[j]? =some e∧e.ob.isSome=true∧cnt p j=c
 |0,c,_,h=>by simp[cnt] at h
 |i+1,c,hi,h=>by
  have hg:p[i]? =some p[i]:=List.getElem?_eq_getElem (by omega)
  have h1:=qH hg
  by_cases ho:p[i].ob.isSome=true
  · rw[if_pos ho] at h1
    exact⟨i,p[i],by omega,hg,ho,by omega⟩
  · rw[if_neg ho] at h1
    obtain⟨j,e,h2,h3⟩:=uM (p:=p) (i:=i) (c:=c) (by omega) (by omega)
    exact⟨j,e,by omega,h3⟩
theorem CF{p:List eb}(i:Nat):cnt p i<=(p.filterMap (·.ob)).length:=by
 unfold cnt
 exact((List.take_prefix i p).filterMap _).length_le
theorem uz{T:TypeId->TI}{CT:Nat->Option Sig}{ops:Array Oper}:∀(l:List Nat){s s':SSt}{p:List eb},mgo T CT ops l s=some (p,s')->p.length=l.length
 |[],s,s',p,h=>by simp only[mgo,Option.some.injEq,Prod.mk.injEq] at h;obtain⟨rfl,rfl⟩:=h;rfl
 |i::l,s,s',p,h=>by
  simp only[mgo] at h
  split at h
  · split at h
    · split at h
      · rename_i h2
        simp only[Option.some.injEq,Prod.mk.injEq] at h
        obtain⟨rfl,rfl⟩:=h
        simp[uz l h2]
      · cases h
    · cases h
  · cases h
abbrev SSt.at(s:SSt)(O:List (Nat×SOb)):SSt:=⟨s.tmps,O⟩
theorem Has.at{s τ:SSt}{p:Plan}{L:Nat->Prop}{O O':List (Nat×SOb)}(h:Has (s.at O) p L τ):Has (s.at O') p L (τ.at O'):=⟨rfl,h.len,h.new,h.old⟩
section
variable {Φ:Fns} {env:List D} {C:Cx} {g:Gh} {s τ:SSt} {a:Act} {w:World}
theorem Fa{T:TypeId->TI}{CT:Nat->Option Sig}{ops:Array Oper}{s:SSt}{p:List eb}(hp:Apart (p.map eb.pl))(hd:∀e∈p,e.d<s.tmps.length):∀(m k:Nat){pre suf:List eb}{τ τ':SSt},p=pre++suf->pre.length=k->
 Has (s.at (f6 s p (cnt p k))) (p.map eb.pl) (· <k) τ->mgo T CT ops (range' k m) τ=some (suf,τ')->Ja T CT ops s p (range' k m) τ=true->
 Has (s.at (f6 s p (cnt p (k+m)))) (p.map eb.pl) (· <k+m) τ'∧∀i e,k<=i->i<k+m->p[i]? =some e->∃o τi,ops[i]? =some o∧Has (s.at (f6 s p (cnt p i))) (p.map eb.pl) (· <i) τi∧ER T CT ops τi o=some e∧
  (e.ob.isSome=true->cI (e.d*64) τi.objs=none)∧(e.ob=none->∀c,c<=(p.filterMap (·.ob)).length->Ew ops p i c=true->cI (e.d*64) (f6 s p c)=none∧lg T CT ops (τi.at (f6 s p c)) o=some e.pl)
 |0,k,pre,suf,τ,τ',he,hk,h,hq,hch=>by
  simp only[range'_zero,mgo,Option.some.injEq,Prod.mk.injEq] at hq
  obtain⟨rfl,rfl⟩:=hq
  exact⟨h,fun i q h1 h2=>by omega⟩
 |m+1,k,pre,suf,τ,τ',he,hk,h,hq,hch=>by
  simp only[range'_succ,mgo] at hq
  split at hq
  · rename_i o ho
    split at hq
    · rename_i e h1
      split at hq
      · rename_i suf' τ1 h2
        simp only[Option.some.injEq,Prod.mk.injEq] at hq
        obtain⟨rfl,rfl⟩:=hq
        have hi:p[k]? =some e:=by rw[he,getElem?_append_right (by omega),hk];simp
        have hi':(p.map eb.pl)[k]? =some e.pl:=by rw[getElem?_map,hi];rfl
        simp only[range'_succ,Ja,ho,hi,and_eq_true] at hch
        have hdk:=hd _ (mem_of_getElem? hi)
        have hs:Has (s.at (f6 s p (cnt p (k+1)))) (p.map eb.pl) (· <k+1) (wL τ e):=by
         have h3:Has (s.at (f6 s p (cnt p (k+1)))) (p.map eb.pl) (· <k) (τ.at (f6 s p (cnt p (k+1)))):=h.at
         have h4:=h3.step hp hi' (by exact hdk) (L':=(· <k+1)) (fun j=>by omega)
         have e1:wL τ e=(τ.at (f6 s p (cnt p (k+1)))).ew e.pl.1 e.pl.2.2:=by
          have e2:(wL τ e).objs=f6 s p (cnt p (k+1)):=by
           rw[Fy,qH hi]
           cases hob:e.ob with
           |none=>simp[h.objs]
           |some X=>simp[uG hi hob]
          have e3:=xf τ e
          generalize wL τ e=u at e2 e3
          obtain⟨ut,uo⟩:=u
          simp only at e2 e3
          subst e2;subst e3
          rfl
         rw[e1];exact h4
        obtain⟨a1,a2⟩:=Fa hp hd m (k+1) (pre:=pre++[e]) (by rw[he];simp) (by simp[hk]) hs h2 hch.2
        refine⟨by rw[show k+(m+1)=k+1+m by omega];exact a1,fun i q q1 q2 q3=> ?_⟩
        by_cases ei:i=k
        · subst ei
          rw[hi] at q3
          simp only[Option.some.injEq] at q3
          subst q3
          refine⟨o,τ,ho,h,h1,fun hob=> ?_,fun hob c hc hm=> ?_⟩
          · obtain⟨X,hX⟩:=Option.isSome_iff_exists.1 hob
            have:=hch.1
            rw[hX] at this
            simp only at this
            split at this
            · rename_i hn;exact hn
            · cases this
          · have:=hch.1
            rw[hob] at this
            simp only[all_eq_true,mem_range] at this
            have:=this c (by omega)
            rw[hm] at this
            simp only[Bool.not_true,Bool.false_or,and_eq_true] at this
            obtain⟨t1,t2⟩:=this
            refine⟨by split at t1<;>simp_all,?_⟩
            split at t2
            · rename_i d cs v hq
              simp only[and_eq_true,beq_iff_eq] at t2
              obtain⟨t3,t4,t5⟩:=t2
              show lg T CT ops ⟨τ.tmps,f6 s p c⟩ o=_
              rw[hq,t3,E.bp t4,SV.aY t5]
              rfl
            · cases t2
        · exact a2 i q (by omega) (by omega) q3
      · cases hq
    · cases hq
  · cases hq
theorem rB:∀(l:List (Nat×SOb)){s τ:SSt},τ.objs=s.objs->(τ.bg l).objs=(s.bg l).objs
 |[],_,_,h=>h
 |(z,o)::l,s,τ,h=>rB l (s:=s.aU z o) (τ:=τ.aU z o) (by simp only[SSt.aU,h])
theorem Iw{T:TypeId->TI}{CT:Nat->Option Sig}{ops:Array Oper}{o:Oper}{key:Nat}(ho:τ.objs=s.objs)(hq:jo o=true)(h:∀t∈o.looksAt ops,τ.tmp t=s.tmp t):fOp T CT key τ o=fOp T CT key s o:=
 Ex (fun y=>by unfold SSt.obj;rw[ho]) hq fun x hx t ht=>by
  subst ht
  refine h t ?_
  unfold Oper.looksAt
  exact mem_append.2 (.inl (List.mem_filterMap.2 ⟨.tmp t,hx,rfl⟩))
structure M7 (Φ:Fns) (env:List D) (C:Cx) (s:SSt) (ops:Array Oper) (p:List eb) (fuel:Nat) (listed:Array Bool) (a:Act) (w:World):Prop where
 size:listed.size=ops.size
 fuel:listed.toList.count false<=fuel
 closed:∀i j,listed.getD i false=true->binding ops i j=true->listed.getD j false=true
 tail:∀j,p.length<=j->¬listed.getD j false=true
 rel:∃g τ k,Rel C g (τ.den Φ env) a w∧Has (s.at (f6 s p k)) (p.map eb.pl) (fun i=>listed.getD i false=true) τ∧k<=(p.filterMap (·.ob)).length∧∀(i:Nat)(e:eb),p[i]? =some e->e.ob.isSome=true->(listed.getD i false=true↔cnt p i<k)
theorem Dg{CT:Nat->Option Sig}(hCT:Told C.P Φ CT){ops:Array Oper}{Q:Exit->Act->World->Prop}{s':SSt}(hQ:∀a' w' g',Rel C g' (s'.den Φ env) a' w'->Q .normal a' w'):
 ∀(fuel i:Nat)(listed:Array Bool){g:Gh}{s:SSt}{a:Act}{w:World}{cs:List E},i<=ops.size->listed.size=ops.size->listed.toList.count false<=fuel->(∀j,i<=j->j<ops.size->lE ops j=true)->(∀j,j<ops.size->(listed.getD j false=true↔j<i))->
  Rel C g (s.den Φ env) a w->tX C.T CT ops (range' i (ops.size - i)) s=some (cs,s')->holds Φ env cs->wpAny C.P .any ops Q fuel listed a w:=by
 intro fuel
 have ready:∀(i:Nat)(listed:Array Bool),listed.size=ops.size->(∀j,i<=j->j<ops.size->lE ops j=true)->(∀j,j<ops.size->(listed.getD j false=true↔j<i))->∀j,j∈Region.ready .any ops listed->j=i∧i<ops.size:=fun i listed hs ht hl j hj=>by
  obtain⟨h1,o,ho,hall⟩:=mem_ready.1 hj
  have hlt:=(Array.getElem?_eq_some_iff.1 ho).1
  have hls:j<listed.size:=by omega
  have hge:¬j<i:=fun h=>by
   have:=(hl j hlt).2 h
   simp[hls] at h1 this
   rw[h1] at this;cases this
  refine⟨?_,by omega⟩
  have hne:¬i<j:=fun h=>by
   have h2:=ht j (by omega) hlt
   simp only[lE,and_eq_true,all_eq_true,mem_range] at h2
   have:=(hl i (by omega)).1 (dV hj (h2.2 i h))
   omega
  omega
 have isready:∀(i:Nat)(listed:Array Bool),i<ops.size->listed.size=ops.size->(∀j,i<=j->j<ops.size->lE ops j=true)->(∀j,j<ops.size->(listed.getD j false=true↔j<i))->i∈Region.ready .any ops listed:=fun i listed hi hs ht hl=>by
  refine mem_ready.2 ⟨?_,ops[i],by simp[hi],fun e hem hb=> ?_⟩
  · have:¬listed.getD i false=true:=fun h=>by have:=(hl i hi).1 h;omega
    have hls:i<listed.size:=by omega
    simp[hls] at this⊢
    exact this
  · have h2:=ht i (le_refl _) hi
    simp only[lE,and_eq_true] at h2
    have h3:=h2.1
    rw[show ops[i]? =some ops[i] by simp[hi]] at h3
    simp only[all_eq_true] at h3
    have h4:=h3 e (mem_toList_iff.2 hem)
    rw[hb] at h4
    have h5:e.on<i:=by simpa using h4
    exact(hl e.on (by omega)).2 h5
 induction fuel with
 |zero=>
  intro i listed g s a w cs hi hs hf ht hl R hr hc
  have hin:i=ops.size:=by
   by_cases h:i<ops.size
   · have hls:i<listed.size:=by omega
     have:¬listed.getD i false=true:=fun h'=>by have:=(hl i h).1 h';omega
     have h1:listed[i]=false:=by simpa[hls] using this
     have h2:count false listed.toList=0:=by omega
     exact absurd (by rw[<-h1];exact mem_toList_iff.2 (Array.getElem_mem hls)) (count_eq_zero.1 h2)
   · omega
  subst hin
  rw[Nat.sub_self] at hr
  simp only[range'_zero,tX,Option.some.injEq,Prod.mk.injEq] at hr
  obtain⟨_,rfl⟩:=hr
  refine⟨List.eq_nil_iff_forall_not_mem.2 fun j hj=> ?_,hQ a w g R⟩
  have:=ready _ listed hs ht hl j hj
  omega
 |succ fuel ih=>
  intro i listed g s a w cs hi hs hf ht hl R hr hc
  refine⟨fun hnil=> ?_,fun j hj=> ?_⟩
  · by_cases h:i<ops.size
    · have:=isready i listed h hs ht hl
      rw[hnil] at this;cases this
    · have hin:i=ops.size:=by omega
      subst hin
      rw[Nat.sub_self] at hr
      simp only[range'_zero,tX,Option.some.injEq,Prod.mk.injEq] at hr
      obtain⟨_,rfl⟩:=hr
      exact hQ a w g R
  · obtain⟨rfl,hlt⟩:=ready i listed hs ht hl j hj
    rw[show ops.size - j=(ops.size - (j+1))+1 by omega,range'_succ] at hr
    simp only[tX] at hr
    split at hr
    · rename_i o ho
      split at hr
      · rename_i cs1 s1 h1
        split at hr
        · rename_i cs2 s2 h2
          simp only[Option.some.injEq,Prod.mk.injEq] at hr
          obtain⟨rfl,rfl⟩:=hr
          have hls:j<listed.size:=by omega
          have hjf:¬listed.getD j false=true:=fun h'=>by have:=(hl j hlt).1 h';omega
          have:=lr R hCT h1 (fun e he=>hc e (mem_append.2 (.inl he))) (wpAny C.P .any ops Q fuel (listed.setIfInBounds j true)) Q fun a' w' g' R'=>
           ih (j+1) (listed.setIfInBounds j true) (by omega) (by simp[hs]) (by
            have hb:listed.toList[j]'(by simpa using hls)=false:=by simpa[hls] using hjf
            have hpos:0<listed.toList.count false:=count_pos_iff.2 (by rw[<-hb];exact List.getElem_mem _)
            rw[toList_setIfInBounds,count_set (by simpa using hls),hb]
            show _ - 1+0<=_
            omega) (fun q h3 h4=>ht q (by omega) h4) (fun q hq=>by
             by_cases e:j=q
             · subst e;simp[hls]
             · rw[getD_set_ne false e,hl q hq];omega) R' h2 (fun e he=>hc e (mem_append.2 (.inr he)))
          unfold wpOp
          simp only[ho]
          split at this
          · rename_i hw;rw[if_pos hw];exact .inl this
          · rename_i hw;rw[if_neg hw];exact this
        · cases hr
      · cases hr
    · cases hr
theorem s5{ops:Array Oper}:∀(n:Nat),ix ops n<=n∧∀j,ix ops n<=j->j<n->lE ops j=true
 |0=>⟨le_refl _,fun j _ h=>by omega⟩
 |n+1=>by
  obtain⟨h1,h2⟩:=s5 (ops:=ops) n
  unfold ix
  cases h:lE ops n with
  |true=>
   simp only[cond_true]
   refine⟨by omega,fun j h3 h4=> ?_⟩
   by_cases e:j=n
   · subst e;exact h
   · exact h2 j h3 (by omega)
  |false=>
   simp only[cond_false]
   exact⟨le_refl _,fun j h3 h4=>by omega⟩
theorem wZ(s:SSt)(x:Nat):s.obj x=cI x s.objs:=rfl
theorem DA{CT:Nat->Option Sig}(hCT:Told C.P Φ CT){ops:Array Oper}{Q:Exit->Act->World->Prop}{s s1 s':SSt}{p:List eb}{m:Nat}(hmn:m<=ops.size)(htl:∀j,m<=j->j<ops.size->lE ops j=true)
 (hq:mgo C.T CT ops (List.range m) s=some (p,s1)) (hok:NS ops p m=true) (hch:Ja C.T CT ops s p (List.range m) s=true) {cs:List E} (hr:tX C.T CT ops (range' m (ops.size - m)) s1=some (cs,s'))
 (hc:∀e∈p,holds Φ env e.cs) (hc':holds Φ env cs) (hQ:∀a' w' g',Rel C g' (s'.den Φ env) a' w'->Q .normal a' w'):
 ∀(fuel:Nat)(listed:Array Bool)(a:Act)(w:World),M7 Φ env C s ops p fuel listed a w->wpAny C.P .any ops Q fuel listed a w:=by
 have hlen:=uz _ hq
 rw[List.length_range] at hlen
 simp only[NS,all_eq_true,mem_range,and_eq_true] at hok
 have hget:∀i,i<m->∃e,p[i]? =some e:=fun i hi=>⟨p[i],List.getElem?_eq_getElem (by omega)⟩
 have hlt:∀i e,p[i]? =some e->i<m:=fun i e h=>by rw[<-hlen];exact(List.getElem?_eq_some_iff.1 h).1
 have pair:∀i j q r,p[i]? =some q->p[j]? =some r->((i==j|| !(q.d==r.d))&&((!nR ops i r.d||bif Nat.blt j i then binding ops i j else i==j||binding ops j i)&&(!(q.ob.isSome&&r.ob.isSome&&cnt p j+1==cnt p i)||binding ops i j)))=true:=fun i j q r h1 h2=>by
  have:=(hok i (hlt i q h1)).2 j (hlt j r h2)
  rw[h1,h2] at this
  exact this
 have hpm:∀i,(p.map eb.pl)[i]? =(p[i]?).map eb.pl:=fun i=>getElem?_map
 have hap:Apart (p.map eb.pl):=fun i j q r h1 h2 he=>by
  rw[hpm,map_eq_some_iff] at h1 h2
  obtain⟨q',h1,rfl⟩:=h1
  obtain⟨r',h2,rfl⟩:=h2
  have:=pair i j q' r' h1 h2
  simp only[and_eq_true,or_eq_true,beq_iff_eq,not_eq_true',beq_eq_false_iff_ne] at this
  exact this.1.resolve_right fun h=>h he
 have hdlen:∀(l:List Nat){s0 s2:SSt}{p0:List eb},mgo C.T CT ops l s0=some (p0,s2)->∀e∈p0,e.d<s0.tmps.length:=by
  intro l
  induction l with
  |nil=>intro s0 s2 p0 h e he;simp only[mgo,Option.some.injEq,Prod.mk.injEq] at h;obtain⟨rfl,_⟩:=h;cases he
  |cons i l ih=>
   intro s0 s2 p0 h e he
   simp only[mgo] at h
   split at h
   · rename_i o ho
     split at h
     · rename_i e0 h0
       split at h
       · rename_i p1 s3 h3
         simp only[Option.some.injEq,Prod.mk.injEq] at h
         obtain⟨rfl,rfl⟩:=h
         have hd0:e0.d<s0.tmps.length:=by
          unfold ER at h0
          split at h0
          · rename_i d cs v hq
            simp only[Option.some.injEq] at h0
            subst h0
            unfold lg at hq
            split at hq
            · obtain⟨h4,hq⟩:=ak hq
              simp only[and_eq_true] at h4
              split at hq
              · obtain⟨_,h5⟩:=ak hq
                simp only[Option.some.injEq,Prod.mk.injEq] at h5
                obtain⟨rfl,_⟩:=h5
                exact le_of_ble_eq_true h4.2
              · cases hq
            · cases hq
          · split at h0
            · obtain⟨h4,h0⟩:=ak h0
              simp only[and_eq_true] at h4
              split at h0
              · simp only[Option.some.injEq] at h0
                subst h0
                exact le_of_ble_eq_true h4.2
              · cases h0
            · cases h0
         rcases mem_cons.1 he with rfl|he
         · exact hd0
         · have:=ih h3 e he
           rwa[xf,List.length_set] at this
       · cases h
     · cases h
   · cases h
 have hd:∀e∈p,e.d<s.tmps.length:=hdlen _ hq
 have h0:Has (s.at (f6 s p (cnt p 0))) (p.map eb.pl) (fun i=>i<0) s:=by
  refine⟨?_,rfl,fun j q _ h=>by omega,fun _ _=>rfl⟩
  show s.objs=f6 s p (cnt p 0)
  simp[cnt,f6]
 rw[List.range_eq_range'] at hq hch
 obtain⟨hfin,hsteps⟩:=Fa hap hd m 0 (pre:=[]) (by simp) rfl h0 hq hch
 simp only[zero_add] at hfin hsteps
 have fin:∀fuel listed a w,M7 Φ env C s ops p fuel listed a w->(∀i,i<m->listed.getD i false=true)->wpAny C.P .any ops Q fuel listed a w:=fun fuel listed a w I hall=>by
  obtain⟨g,τ,k,R,H,hk,hke⟩:=I.rel
  have hkk:k=cnt p m:=by
   have h1:cnt p m<=k:=by
    by_cases h:k<cnt p m
    · obtain⟨j,e,hj,hje,hob,hcj⟩:=uM (p:=p) (i:=m) (c:=cnt p m - 1) (by omega) (by omega)
      have:=(hke j e hje hob).1 (hall j hj)
      omega
    · omega
   have h2:cnt p m=(p.filterMap (·.ob)).length:=by unfold cnt;rw[<-hlen,List.take_length]
   omega
  subst hkk
  have hts:∀t,τ.tmp t=s1.tmp t:=fun t=>by
   by_cases h:∃(j:Nat) (q:Nat×List E×SV),(p.map eb.pl)[j]? =some q∧q.1=t
   · obtain⟨j,q,hj,rfl⟩:=h
     have hjm:j<m:=by rw[hpm,map_eq_some_iff] at hj;obtain⟨e,h1,_⟩:=hj;exact hlt j e h1
     rw[H.new j q hj (hall j hjm),hfin.new j q hj hjm]
   · rw[H.old t fun j q hj _ he=>h ⟨j,q,hj,he⟩,hfin.old t fun j q hj _ he=>h ⟨j,q,hj,he⟩]
  have R1:Rel C g (s1.den Φ env) a w:=by
   refine R.zg ?_ ?_ fun t v hv=> ?_
   · simp only[SSt.den,H.objs,hfin.objs]
   · simp only[SSt.den,length_map,H.len,hfin.len]
   · rw[SSt.fx] at hv⊢
     rw[<-hts]
     exact hv
  refine Dg hCT hQ fuel m listed hmn I.size I.fuel htl (fun j hj=>⟨fun h=> ?_,fun h=>hall j h⟩) R1 hr hc'
  by_cases h':j<m
  · exact h'
  · exact absurd h (I.tail j (by omega))
 intro fuel
 induction fuel with
 |zero=>
  intro listed a w I
  refine fin 0 listed a w I fun i hi=> ?_
  have h2:count false listed.toList=0:=by have:=I.fuel;omega
  have hls:i<listed.size:=by rw[I.size];omega
  have:listed[i]≠false:=fun e=>(count_eq_zero.1 h2) (by rw[<-e];exact mem_toList_iff.2 (Array.getElem_mem hls))
  simpa[hls] using this
 |succ fuel ih=>
  intro listed a w I
  by_cases hall:∀i,i<m->listed.getD i false=true
  · exact fin _ listed a w I hall
  obtain⟨g,τ,k,R,H,hk,hke⟩:=I.rel
  refine⟨fun hnil=> ?_,fun i hi=> ?_⟩
  · -- something is ready
    refine absurd (fun i=> ?_) hall
    induction i using Nat.strongRecOn with
    |_ i ihi=>
     intro hi
     by_cases he:listed.getD i false=true
     · exact he
     exfalso
     have hls:i<listed.size:=by rw[I.size];omega
     have hm:i∈Region.ready .any ops listed:=by
      refine mem_ready.2 ⟨by simp[hls] at he⊢;exact he,ops[i],by simp[show i<ops.size by omega],fun e hem hb=> ?_⟩
      have h1:=(hok i hi).1
      rw[show ops[i]? =some ops[i] by simp[show i<ops.size by omega]] at h1
      simp only[all_eq_true] at h1
      have h2:=h1 e (mem_toList_iff.2 hem)
      rw[hb] at h2
      have h3:e.on<i:=by simpa using h2
      exact ihi e.on h3 (by omega)
     rw[hnil] at hm
     cases hm
  · obtain⟨hun,o,ho,hallb⟩:=mem_ready.1 hi
    have hilt:i<ops.size:=(Array.getElem?_eq_some_iff.1 ho).1
    have him:i<m:=by
     by_cases h:i<m
     · exact h
     exfalso
     have h2:=htl i (by omega) hilt
     simp only[lE,and_eq_true,all_eq_true,mem_range] at h2
     exact hall fun j hj=>dV hi (h2.2 j (by omega))
    obtain⟨e,hpi⟩:=hget i him
    obtain⟨o',τi,ho',Hi,hstep,hkey1,hkey2⟩:=hsteps i e (by omega) him hpi
    rw[ho] at ho'
    simp only[Option.some.injEq] at ho'
    subst ho'
    have hls:i<listed.size:=by rw[I.size];exact hilt
    have hif:¬listed.getD i false=true:=by simp[hls] at hun⊢;exact hun
    have hsame:∀t∈o.looksAt ops,τ.tmp t=τi.tmp t:=fun t ht=>by
     by_cases hex:∃(j:Nat) (r:eb),p[j]? =some r∧r.d=t
     · obtain⟨j,r,hj,rfl⟩:=hex
       have hjp:(p.map eb.pl)[j]? =some r.pl:=by rw[hpm,hj];rfl
       have hlk:nR ops i r.d=true:=by
        unfold nR
        rw[ho]
        exact any_eq_true.2 ⟨r.d,ht,by simp⟩
       have hp2:=pair i j e r hpi hj
       simp only[hlk,Bool.not_true,Bool.false_or,and_eq_true] at hp2
       have hp2:=hp2.2.1
       have none':¬listed.getD j false=true->¬j<i->τ.tmp r.d=τi.tmp r.d:=fun n1 n2=>by
        rw[H.old r.d fun k' q' hk' hL he=>n1 (by rw[<-hap k' j q' r.pl hk' hjp he];exact hL),Hi.old r.d fun k' q' hk' hL he=>n2 (by rw[<-hap k' j q' r.pl hk' hjp he];exact hL)]
        rfl
       cases hji:Nat.blt j i with
       |true=>
        rw[hji] at hp2
        have h1:=dV hi hp2
        rw[show r.d=r.pl.1 from rfl,H.new j r.pl hjp h1,Hi.new j r.pl hjp (le_of_ble_eq_true hji)]
       |false=>
        rw[hji] at hp2
        have hnlt:¬j<i:=fun h=>by
         have:Nat.blt j i=true:=ble_eq_true_of_le h
         rw[this] at hji;cases hji
        simp only[cond_false,or_eq_true,beq_iff_eq] at hp2
        rcases hp2 with h1|h1
        · subst h1;exact none' hif hnlt
        · exact none' (fun hl=>hif (I.closed j i hl h1)) hnlt
     · have hex':∀(k':Nat)(q':Nat×List E×SV),(p.map eb.pl)[k']? =some q'->q'.1≠t:=fun k' q' hk' he=>by
        rw[hpm,map_eq_some_iff] at hk'
        obtain⟨r,h1,rfl⟩:=hk'
        exact hex ⟨k',r,h1,he⟩
       rw[H.old t fun k' q' hk' _ he=>hex' k' q' hk' he,Hi.old t fun k' q' hk' _ he=>hex' k' q' hk' he]
       rfl
    have hmq:e∈p:=mem_of_getElem? hpi
    have hip:(p.map eb.pl)[i]? =some e.pl:=by rw[hpm,hpi];rfl
    have hset:∀j,(listed.setIfInBounds i true).getD j false=true↔listed.getD j false=true∨j=i:=fun j=>by
     by_cases e:i=j
     · subst e;simp[hls]
     · rw[getD_set_ne false e]
       exact⟨.inl,fun h=>h.resolve_right fun h=>e h.symm⟩
    have hcount:(listed.setIfInBounds i true).toList.count false<=fuel:=by
     refine Nat.lt_succ_iff.1 (Nat.lt_of_lt_of_le ?_ I.fuel)
     have hb:listed.toList[i]'(by simpa using hls)=false:=by simpa[hls] using hun
     have hpos:0<listed.toList.count false:=count_pos_iff.2 (by rw[<-hb];exact List.getElem_mem _)
     rw[toList_setIfInBounds,count_set (by simpa using hls),hb]
     show _ - 1+0<_
     omega
    have hclosed:∀j k,(listed.setIfInBounds i true).getD j false=true->binding ops j k=true->(listed.setIfInBounds i true).getD k false=true:=fun j k hj hb=>by
     rcases(hset j).1 hj with h1|h1
     · exact(hset k).2 (.inl (I.closed j k h1 hb))
     · subst h1
       exact(hset k).2 (.inl (dV hi hb))
    have htail:∀j,p.length<=j->¬(listed.setIfInBounds i true).getD j false=true:=fun j hj h=>by
     rcases(hset j).1 h with h1|h1
     · exact I.tail j hj h1
     · omega
    have wrapUp:(if Region.wanted o (yielded ops a.tmps)=true then o.wp C.P a w (wpAny C.P .any ops Q fuel (listed.setIfInBounds i true)) Q else wpAny C.P .any ops Q fuel (listed.setIfInBounds i true) (a.put o.dst undef) w)->
     wpOp C.P ops Q i (wpAny C.P .any ops Q fuel (listed.setIfInBounds i true)) a w:=fun this=>by
     unfold wpOp
     simp only[ho]
     split at this
     · rename_i hw;rw[if_pos hw];exact .inl this
     · rename_i hw;rw[if_neg hw];exact this
    cases hob:e.ob with
    |none=>
     have hmay:Ew ops p i k=true:=by
      simp only[Ew,all_eq_true,mem_range]
      intro j hj
      cases hpj:p[j]? with
      |none=>rfl
      |some r=>
       simp only
       cases hrob:r.ob with
       |none=>rfl
       |some X=>
        simp only[and_eq_true,or_eq_true,not_eq_true']
        have hr':r.ob.isSome=true:=by rw[hrob];rfl
        refine⟨?_,?_⟩
        · cases hb:binding ops i j with
          |false=>exact .inl rfl
          |true=>exact .inr (ble_eq_true_of_le ((hke j r hpj hr').1 (dV hi hb)))
        · cases hb:binding ops j i with
          |false=>exact .inl rfl
          |true=>
           refine .inr (ble_eq_true_of_le ?_)
           have:¬cnt p j<k:=fun h=>hif (I.closed j i ((hke j r hpj hr').2 h) hb)
           omega
     obtain⟨hkn,hqs⟩:=hkey2 hob k hk hmay
     have hloc:lg C.T CT ops τ o=some e.pl:=by
      rw[xE (s:=τi.at (f6 s p k)) (fun y=>by unfold SSt.obj;rw[H.objs]) (by rw[H.len,Hi.len]) (fun t ht=>hsame t ht),hqs]
     have hkτ:τ.obj (e.d*64)=none:=by rw[wZ,H.objs];exact hkn
     exact wrapUp (tu R hCT hloc hkτ (hc e hmq) (wpAny C.P .any ops Q fuel (listed.setIfInBounds i true)) Q fun a' w' g' R'=>ih _ a' w' ⟨by simp[I.size],hcount,hclosed,htail,g',_,k,R',H.step hap hip (hd _ hmq) hset,hk,fun j r hj hr'=>by
      rw[hset,<-hke j r hj hr']
      refine⟨fun h=>h.resolve_right fun h=> ?_,.inl⟩
      subst h
      rw[hpi] at hj
      simp only[Option.some.injEq] at hj
      subst hj
      rw[hob] at hr';cases hr'⟩)
    |some X=>
     have heob:e.ob.isSome=true:=by rw[hob];rfl
     have hge:¬cnt p i<k:=fun h=>hif ((hke i e hpi heob).2 h)
     have hki:k=cnt p i:=by
      cases hci:cnt p i with
      |zero=>omega
      |succ c=>
       obtain⟨j,r,hji,hpj,hrob,hcj⟩:=uM (p:=p) (i:=i) (c:=c) (by omega) hci
       have hp2:=pair i j e r hpi hpj
       simp only[and_eq_true] at hp2
       have hb:=hp2.2.2
       rw[heob,hrob,hcj,hci] at hb
       simp only[Bool.and_self,beq_self_eq_true,Bool.not_true,Bool.false_or] at hb
       have:=(hke j r hpj hrob).1 (dV hi hb)
       omega
     subst hki
     unfold ER at hstep
     split at hstep
     · simp only[Option.some.injEq] at hstep
       subst hstep
       cases hob
     · split at hstep
       · rename_i d hod hog
         obtain⟨h4,h5⟩:=ak hstep
         clear hstep
         simp only[and_eq_true] at h4
         split at h5
         · rename_i r hfr
           simp only[Option.some.injEq] at h5
           subst h5
           have hobj:τ.objs=τi.objs:=by rw[H.objs,Hi.objs]
           have hfr':fOp C.T CT (d*64) τ o=some r:=by rw[Iw hobj h4.1 hsame,hfr]
           have hkτ:τ.obj (d*64)=none:=by rw[wZ,hobj];exact hkey1 heob
           have hw:Region.wanted o (yielded ops a.tmps)=true:=by unfold Region.wanted;rw[hog]
           refine wrapUp ?_
           rw[if_pos hw]
           have hdn:d<C.n:=by
            have h6:=hd _ hmq
            rw[<-R.iM,H.len]
            exact h6
           refine kz R hCT hkτ hfr' (hc _ hmq) _ Q fun v w' g' hv R'=> ?_
           have R2:=R'.put hdn hv
           have hX:(τi.bg r.upd).objs=X:=by simpa using hob
           have e1:(τ.bg r.upd).ew d r.v=((τ.at X).ew d r.v):=by
            have e2:(τ.bg r.upd).objs=X:=by rw[rB _ hobj];exact hX
            have e3:=SSt.fD r.upd τ
            generalize τ.bg r.upd=u at e2 e3
            obtain⟨ut,uo⟩:=u
            simp only at e2 e3
            subst e2;subst e3
            rfl
           rw[<-SSt.eD,e1] at R2
           have hOX:f6 s p (cnt p i+1)=X:=uG hpi hob
           refine ih _ _ w' ⟨by simp[I.size],hcount,hclosed,htail,g',_,cnt p i+1,by rw[hod];exact R2,?_,?_,fun j q hj hq'=> ?_⟩
           · have h7:Has (s.at (f6 s p (cnt p i+1))) (p.map eb.pl) (fun i=>listed.getD i false=true) (τ.at (f6 s p (cnt p i+1))):=H.at
             rw[hOX] at h7⊢
             exact h7.step hap hip (hd _ hmq) hset
           · have:=qH hpi
             rw[if_pos heob] at this
             rw[<-this]
             exact CF _
           · rw[hset,hke j q hj hq']
             constructor
             · rintro(h8|rfl)
               · omega
               · omega
             · intro h8
               by_cases h9:cnt p j<cnt p i
               · exact .inl h9
               · right
                 rcases Nat.lt_trichotomy j i with h10|h10|h10
                 · have:=Hg hj hq' h10;omega
                 · exact h10
                 · have:=Hg hpi heob h10;omega
         · cases h5
       · cases hstep
theorem CJ{CT:Nat->Option Sig}(hCT:Told C.P Φ CT)(hm:C.P.follows .mixedOrders=true){ops:Array Oper}{id:Nat}{Q:Exit->Act->World->Prop}{cs:List E}{s':SSt}(R:Rel C g (s.den Φ env) a w)
 (h:N8 C.T CT ops s=some (cs,s')) (hc:holds Φ env cs) (hQ:∀a' w' g',Rel C g' (s'.den Φ env) a' w'->Q .normal a' w'):(Code.region id ops true).wp C.P Q a w:=by
 unfold N8 at h
 obtain⟨t1,t2⟩:=s5 (ops:=ops) ops.size
 split at h
 · rename_i p s1 hq
   obtain⟨h1,h2⟩:=ak h
   clear h
   simp only[and_eq_true] at h1
   split at h2
   · rename_i cs2 s2 hr
     simp only[Option.some.injEq,Prod.mk.injEq] at h2
     obtain⟨rfl,rfl⟩:=h2
     obtain⟨g1,R1⟩:=R.dU (sn ops)
     have RR:Rel C g1 ((dU (sn ops) s).den Φ env) a { w with drawn:=w.drawn+1 }:=Rel.same (w:=w) R1 rfl rfl rfl rfl
     have hno:∀i,¬(Array.replicate ops.size false).getD i false=true:=fun i hL=>by by_cases hlt:i<ops.size<;>simp[hlt] at hL
     have I:M7 Φ env C (dU (sn ops) s) ops p ops.size (Array.replicate ops.size false) a { w with drawn:=w.drawn+1 }:=by
      refine⟨by simp,by simp,fun i j hi=>absurd hi (hno i),fun j _=>hno j,g1,_,0,RR,⟨rfl,rfl,fun j q _ hL=>absurd hL (hno j),fun _ _=>rfl⟩,Nat.zero_le _,fun i e _ _=>⟨fun h=>absurd h (hno i),fun h=>by omega⟩⟩
     exact wp_region_any hm (DA hCT t1 t2 hq h1.1 h1.2 hr (fun e he x hx=>hc x (mem_append.2 (.inl (mem_flatMap.2 ⟨e,he,hx⟩)))) (fun x hx=>hc x (mem_append.2 (.inr hx))) hQ _ _ _ _ I)
   · cases h2
 · cases h
end
end Go.Vx
namespace Go.Vx
open Go.RowKit (Below)
inductive VC where
 /-- these hold -/
 |req (cs:List E) (t:VC)
 |ite (c:E) (x y:VC)
 /-- a loop:its name,its level,how many values it turns,of which kinds they are,which they are at first -/
 |loop (id l m:Nat) (fs:List (K×Nat)) (init:List E) (body:VC)
 |back (l:Nat) (es:List E)
 |ret (es:List E)
 /-- ways that come together:what is left behind that is asked once -/
 |join (id l m:Nat) (fs:List (K×Nat)) (x y:VC)
 deriving Inhabited
def ua:Nat->(List D->Prop)->Prop
 |0,p=>p []
 |n+1,p=>∀d:D,ua n fun l=>p (d::l)
theorem vx:∀{n:Nat}{p:List D->Prop},ua n p->∀l:List D,l.length=n->p l
 |0,p,h,l,hl=>by rw[List.eq_nil_of_length_eq_zero hl];exact h
 |n+1,p,h,d::l,hl=>vx (h d) l (by simpa using hl)
 |n+1,p,h,[],hl=>by simp at hl
def conj(Φ:Fns)(env:List D):List E->Prop
 |[]=>True
 |c::cs=>(c.den Φ env).ZZ=true∧conj Φ env cs
theorem vR{Φ:Fns}{env:List D}:∀{cs:List E},conj Φ env cs->holds Φ env cs
 |[],_=>fun _ h=>by simp at h
 |c::cs,h=>fun e he=>by
  rcases mem_cons.1 he with rfl|he
  · exact h.1
  · exact vR h.2 e he
def kinds(env:List D):List (K×Nat)->Prop->Prop
 |[],p=>p
 |(k,i)::l,p=>WFD k (env.getD i default)->kinds env l p
theorem pn{env:List D}:∀{l:List (K×Nat)}{p:Prop},kinds env l p->(∀q∈l,WFD q.1 (env.getD q.2 default))->p
 |[],p,h,_=>h
 |(k,i)::l,p,h,hw=>pn (h (hw (k,i) (by simp))) fun q hq=>hw q (by simp[hq])
def eC(B:Nat->List D->Prop)(l:Nat)(p:List D->Prop)(j:Nat):List D->Prop:=if j=l then p else B j
def VC.wp(Φ:Fns)(post:List D->Prop):VC->List D->(Nat->List D->Prop)->Prop
 | .req cs t,env,B=>conj Φ env cs∧t.wp Φ post env B
 | .ite c x y,env,B=>((c.den Φ env).ZZ=true->x.wp Φ post env B)∧((c.den Φ env).ZZ=false->y.wp Φ post env B)
 | .loop _ l m fs init body,env,B=>∃(I:List D->Prop) (μ:List D->Nat),I (init.map (E.den Φ env))∧
    ua m fun vs=>kinds (env++vs) fs (I vs->body.wp Φ post (env++vs) (eC B l fun v=>I v∧μ v<μ vs))
 | .back l es,env,B=>B l (es.map (E.den Φ env))
 | .ret es,env,_=>post (es.map (E.den Φ env))
 | .join _ l m fs x y,env,B=>∃I:List D->Prop,x.wp Φ post env (eC B l I)∧ua m fun vs=>kinds (env++vs) fs (I vs->y.wp Φ post (env++vs) B)
def iq:Code->Option Nat
 | .region id _ _=>some id
 | .seq a b=>match iq a with|some i=>some i|none=>iq b
 | .cond _ a b=>match iq a with|some i=>some i|none=>iq b
 | .block _ c=>iq c
 | .loop c=>iq c
 |_=>none
inductive It where
 |code (c:Code)
 |blk (id:Nat)
 |lp (l n m:Nat) (H:SSt)
def lps:List It->Nat
 |[]=>0
 | .lp .. ::k=>lps k+1
 |_::k=>lps k
def ij(id:Nat):List It->Option (List It)
 |[]=>none
 | .blk i::k=>bif i==id then some k else ij id k
 |_::k=>ij id k
def sa(c:SC):List (K×Nat):=match c with
 | .dat k (.var i)=>[(k,i)]
 |_=>[]
def IE(v:SV):List (K×Nat):=match v with
 | .one c=>sa c
 | .agg cs=>cs.flatMap sa
 |_=>[]
def GV(o:SOb):List (K×Nat):=match o with
 | .arr t ks _ (.var i)=>[(.sl t ks,i)]
 | .arx t ks (.var i)=>[(.sl t ks,i)]
 | .box _ cs=>cs.flatMap sa
 |_=>[]
def facts(n:Nat)(H:SSt):List (K×Nat):=(H.tmps.flatMap IE++H.objs.flatMap fun p=>match H.obj p.1 with|some o=>GV o|none=>[]).filter fun q=>Nat.ble n q.2
def implied(prev:List E):Nat->E->Bool
 |0,e=>prev.any (E.eqb e)
 |f+1,e=>prev.any (E.eqb e)||match e with
  | .op .ite [c,d,.bool true]=>E.eqb c d||implied prev f d
  | .op .eqi [a,b]=>E.eqb a b
  |_=>false
def xx:List (E×Bool)->E->Option Bool
 |[],_=>none
 |(x,b)::σ,e=>bif E.eqb e x then some b else xx σ e
def bev(σ:List (E×Bool)):Nat->E->Option Bool
 |0,e=>xx σ e
 |f+1,e=>match e with
  | .bool b=>some b
  | .op .not [a]=>match bev σ f a with|some b=>some (!b)|none=>none
  | .op .ite [c,a,b]=>match bev σ f c with
    |some true=>bev σ f a
    |some false=>bev σ f b
    |none=>none
  |e=>xx σ e
def atom(σ:List (E×Bool)):Nat->E->E
 |0,e=>e
 |f+1,e=>match e with
  | .op .not [a]=>atom σ f a
  | .op .ite [c,a,b]=>match bev σ f c with
    |some true=>atom σ f a
    |some false=>atom σ f b
    |none=>atom σ f c
  |e=>e
def CH:Nat->List (E×Bool)->E->Bool
 |0,σ,e=>match bev σ 20 e with|some b=>b|none=>false
 |n+1,σ,e=>match bev σ 20 e with
  |some b=>b
  |none=>CH n ((atom σ 20 e,true)::σ) e&&CH n ((atom σ 20 e,false)::σ) e
def Jm:List E->List E->List E
 |_,[]=>[]
 |prev,c::cs=>bif implied prev 4 c||CH 12 (prev.map fun x=>(x,true)) c then Jm prev cs else c::Jm (c::prev) cs
theorem uW{Φ:Fns}{env:List D}:∀{σ:List (E×Bool)}{e:E}{b:Bool},(∀q∈σ,(q.1.den Φ env).ZZ=q.2)->xx σ e=some b->(e.den Φ env).ZZ=b
 |[],_,_,_,h=>by simp[xx] at h
 |(x,c)::σ,e,b,hs,h=>by
  simp only[xx] at h
  cases hx:E.eqb e x with
  |true=>
   rw[hx] at h
   simp only[cond_true,Option.some.injEq] at h
   rw[E.aY hx,<-h]
   exact hs (x,c) (by simp)
  |false=>
   rw[hx] at h
   exact uW (fun q hq=>hs q (by simp[hq])) h
theorem Ix{Φ:Fns}{env:List D}{σ:List (E×Bool)}(hs:∀q∈σ,(q.1.den Φ env).ZZ=q.2):∀(f:Nat)(e:E)(b:Bool),bev σ f e=some b->(e.den Φ env).ZZ=b:=by
 intro f
 induction f with
 |zero=>intro e b h;exact uW hs h
 |succ f ih=>
  intro e b h
  simp only[bev] at h
  split at h
  · simp only[Option.some.injEq] at h;subst h;rfl
  · rename_i a
    split at h
    · rename_i c hc
      simp only[Option.some.injEq] at h
      subst h
      have h1:=ih a c hc
      show(D.bool (!((E.den Φ env a).ZZ))).ZZ= !c
      rw[h1];rfl
    · cases h
  · rename_i c x y
    simp only[E.den,E.bC,opD,getD_cons_zero,getD_cons_succ]
    split at h
    · rename_i hc
      rw[if_pos (ih c true hc)]
      exact ih x b h
    · rename_i hc
      rw[if_neg (by rw[ih c false hc];exact Bool.false_ne_true)]
      exact ih y b h
    · cases h
  · exact uW hs h
theorem yZ{Φ:Fns}{env:List D}:∀(n:Nat){σ:List (E×Bool)}{e:E},(∀q∈σ,(q.1.den Φ env).ZZ=q.2)->CH n σ e=true->(e.den Φ env).ZZ=true
 |0,σ,e,hs,h=>by
  simp only[CH] at h
  split at h
  · rename_i b hb;rw[Ix hs _ _ _ hb];exact h
  · cases h
 |n+1,σ,e,hs,h=>by
  simp only[CH] at h
  split at h
  · rename_i b hb;rw[Ix hs _ _ _ hb];exact h
  · simp only[and_eq_true] at h
    cases hx:((atom σ 20 e).den Φ env).ZZ with
    |true=>exact yZ n (σ:=(atom σ 20 e,true)::σ) (fun q hq=>(mem_cons.1 hq).elim (fun hq=>hq▸hx) (hs q)) h.1
    |false=>exact yZ n (σ:=(atom σ 20 e,false)::σ) (fun q hq=>(mem_cons.1 hq).elim (fun hq=>hq▸hx) (hs q)) h.2
def req(cs:List E)(t:VC):VC:=match Jm [] cs with
 |[]=>t
 |cs=>.req cs t
theorem Di{Φ:Fns}{env:List D}{prev:List E}(hp:holds Φ env prev):∀(f:Nat)(e:E),implied prev f e=true->(e.den Φ env).ZZ=true:=by
 have hmem:∀e,(prev.any (E.eqb e))=true->(e.den Φ env).ZZ=true:=fun e h=>by
  obtain⟨x,hx,he⟩:=any_eq_true.1 h
  rw[E.aY he]
  exact hp x hx
 intro f
 induction f with
 |zero=>intro e h;exact hmem e h
 |succ f ih=>
  intro e h
  simp only[implied,or_eq_true] at h
  rcases h with h|h
  · exact hmem e h
  · split at h
    · rename_i c d
      simp only[or_eq_true] at h
      have hd:(E.den Φ env c).ZZ=true->(E.den Φ env d).ZZ=true:=fun hc=>by
       rcases h with h|h
       · rw[<-E.aY h];exact hc
       · exact ih d h
      simp only[E.den,E.bC,opD,getD_cons_zero,getD_cons_succ]
      split
      · rename_i hc;exact hd hc
      · rfl
    · rename_i a b
      rw[E.aY h]
      simp[E.den,E.bC,opD,D.ZZ]
    · cases h
theorem ul{Φ:Fns}{env:List D}:∀{cs prev:List E},holds Φ env prev->holds Φ env (Jm prev cs)->holds Φ env cs
 |[],_,_,_=>fun _ h=>by simp at h
 |c::cs,prev,hp,hs=>by
  simp only[Jm] at hs
  cases hc:implied prev 4 c||CH 12 (prev.map fun x=>(x,true)) c with
  |true=>
   rw[hc] at hs
   have h1:(c.den Φ env).ZZ=true:=by
    rcases or_eq_true _ _▸hc with h|h
    · exact Di hp 4 c h
    · refine yZ 12 (fun q hq=> ?_) h
      obtain⟨x,hx,rfl⟩:=mem_map.1 hq
      exact hp x hx
   have h2:=ul (cs:=cs) hp hs
   exact fun e he=>by
    rcases mem_cons.1 he with rfl|he
    · exact h1
    · exact h2 e he
  |false=>
   rw[hc] at hs
   simp only[cond_false] at hs
   have h1:=hs c (by simp)
   have h2:=ul (cs:=cs) (prev:=c::prev) (fun e he=>by
    rcases mem_cons.1 he with rfl|he
    · exact h1
    · exact hp e he) fun e he=>hs e (by simp[he])
   exact fun e he=>by
    rcases mem_cons.1 he with rfl|he
    · exact h1
    · exact h2 e he
def drawn(T:TypeId->TI)(CT:Nat->Option Sig)(ops:Array Oper)(s:SSt):Option (List E×SSt):=match Ov T CT ops s with
 |some r=>some r
 |none=>match N8 T CT ops s with
  |some r=>some r
  |none=>TJ T CT ops s
theorem BB{Φ:Fns}{env:List D}{C:Cx}{g:Gh}{s:SSt}{a:Act}{w:World}{CT:Nat->Option Sig}{ops:Array Oper}(hCT:Told C.P Φ CT)(hm:C.P.follows .mixedOrders=true){id:Nat}{Q:Exit->Act->World->Prop}{cs:List E}{s':SSt}(R:Rel C g (s.den Φ env) a w)
 (h:drawn C.T CT ops s=some (cs,s')) (hc:holds Φ env cs) (hQ:∀a' w' g',Rel C g' (s'.den Φ env) a' w'->Q .normal a' w'):(Code.region id ops true).wp C.P Q a w:=by
 unfold drawn at h
 split at h
 · rename_i r hr
   simp only[Option.some.injEq] at h
   subst h
   exact DQ hCT hm R hr hc hQ
 · split at h
   · rename_i r hr
     simp only[Option.some.injEq] at h
     subst h
     exact CJ hCT hm R hr hc hQ
   · exact Dv hCT hm R h hc hQ
def B4(T:TypeId->TI)(CT:Nat->Option Sig)(ops:Array Oper)(K:SSt->Option VC):List Nat->List (List E)->SSt->Option VC
 |[],_,s=>K s
 |i::l,N,s=>match ops[i]? with
  |some o=>match wa T CT ops s o with
   |some (cs,s1)=>match B4 T CT ops K l N s1 with
    |some t=>some (req cs t)
    |none=>none
   |none=>match G7 N ops s o with
    |some s1=>B4 T CT ops K l N s1
    |none=>match Hs T N ops s o with
     |some s1=>B4 T CT ops K l N s1
     |none=>match Cn T CT ops s o with
      |some (gs,cs,s1,s2)=>match B4 T CT ops K l N s1,B4 T CT ops K l (gs::N) s2 with
       |some t,some u=>some (.ite (tQ gs) (req cs t) u)
       |_,_=>none
      |none=>none
  |none=>none
def run(T:TypeId->TI)(CT:Nat->Option Sig)(G:Nat->SSt->Code->List It->Option (SSt×Nat))(end':SSt->Option (List E)):Nat->Nat->SSt->List It->Option VC
 |0,_,_,_=>none
 |_+1,_,s,[]=>match end' s with|some es=>some (.ret es)|none=>none
 |f+1,n,s,.blk _::k=>run T CT G end' f n s k
 |_+1,_,s,.lp l n m H::_=>match fit n m H s with|some es=>some (.back l es)|none=>none
 |f+1,n,s,.code c::k=>match c with
  | .skip=>run T CT G end' f n s k
  | .seq x y=>match G n s (.loop (.seq x y)) k with
    |some (H,m)=>match run T CT G end' f n s (.code x::.lp (lps k) n m H::k),run T CT G end' f (n+m) H (.code y::k) with
     |some t,some u=>some (.join ((iq y).getD 0) (lps k) m (facts n H) t u)
     |_,_=>none
    |none=>run T CT G end' f n s (.code x::.code y::k)
  | .region _ ops draw=>match(bif draw then drawn T CT ops s else tX T CT ops (List.range ops.size) s) with
    |some (cs,s')=>match run T CT G end' f n s' k with
     |some t=>some (req cs t)
     |none=>none
    |none=>bif draw then none else B4 T CT ops (fun s'=>run T CT G end' f n s' k) (List.range ops.size) [] s
  | .cond x a b=>match(sev T 0 s x).dn with
    | .one (.dat .bool (.bool true))=>run T CT G end' f n s (.code a::k)
    | .one (.dat .bool (.bool false))=>run T CT G end' f n s (.code b::k)
    | .one (.dat .bool e)=>match run T CT G end' f n s (.code a::k),run T CT G end' f n s (.code b::k) with
      |some t,some u=>some (.ite e t u)
      |_,_=>none
    |_=>none
  | .block id c=>run T CT G end' f n s (.code c::.blk id::k)
  | .exit id=>match ij id k with
    |some k'=>run T CT G end' f n s k'
    |none=>none
  | .ret=>match end' s with|some es=>some (.ret es)|none=>none
  | .loop c=>match G n s c k with
    |some (H,m)=>match fit n m H s with
     |some init=>match run T CT G end' f (n+m) H (.code c::.lp (lps k) n m H::k) with
      |some t=>some (.loop ((iq c).getD 0) (lps k) m (facts n H) init t)
      |none=>none
     |none=>none
    |none=>none
  |_=>none
theorem least{p:Nat->Prop}:∀n,p n->∃m,p m∧∀j,p j->m<=j:=by
 intro n
 induction n using Nat.strongRecOn with
 |_ n ih=>
  intro h
  by_cases hx:∃j,j<n∧p j
  · obtain⟨j,hj,hp⟩:=hx
    exact ih j hj hp
  · exact⟨n,h,fun j hj=>Nat.le_of_not_lt fun hlt=>hx ⟨j,hlt,hj⟩⟩
open Classical in
theorem Cv{P:Program}{Q:Exit->Act->World->Prop}{a:Act}{w:World}{c:Code}{I:Nat->Act->World->Prop}{N:Nat}(h0:I N a w)
 (round:∀N a w,I N a w->c.wp P (Exit.then (fun a' w'=>∃N',N'<N∧I N' a' w') Q) a w):(Code.loop c).wp P Q a w:=by
 have L:∀a w,(∃N,I N a w)->∃m,I m a w∧∀j,I j a w->m<=j:=fun a w ⟨N,h⟩=>least N h
 refine wp_loop (fun a w=>∃N,I N a w) (fun a w=>if h:∃N,I N a w then Classical.choose (L a w h) else 0) ⟨N,h0⟩ fun a w h=> ?_
 have hm:=Classical.choose_spec (L a w h)
 refine wp_mono (round _ a w hm.1) fun e a' w' hq=> ?_
 cases e with
 |normal=>
  obtain⟨N',hlt,hI⟩:=hq
  refine⟨⟨N',hI⟩,?_⟩
  rw[dif_pos h,dif_pos ⟨N',hI⟩]
  exact Nat.lt_of_le_of_lt ((Classical.choose_spec (L a' w' ⟨N',hI⟩)).2 N' hI) hlt
 |_=>exact hq
section
variable {Φ:Fns} {C:Cx} {CT:Nat->Option Sig} {post:List D->Prop} {F:Exit->Act->World->Prop}
def Fits(Φ:Fns)(C:Cx)(F:Exit->Act->World->Prop):List It->List D->(Nat->List D->Prop)->(Exit->Act->World->Prop)->Prop
 |[],_,_,Q=>Q=F
 | .code c::k,env,B,Q=>∃Q',Fits Φ C F k env B Q'∧Q=Exit.then (c.wp C.P Q') Q'
 | .blk id::k,env,B,Q=>∃Q',Fits Φ C F k env B Q'∧Q=Exit.inBlock id Q'
 | .lp l n m H::k,env,B,Q=>∃Q' J,Fits Φ C F k env B Q'∧Q=Exit.then J Q'∧l=lps k∧n<=env.length∧
    ∀vs a w g,vs.length=m->Rel C g (H.den Φ (env.take n++vs)) a w->B l vs->J a w
theorem Fits.ext{B B':Nat->List D->Prop}{env:List D}(x:List D):∀{k:List It}{Q:Exit->Act->World->Prop},Fits Φ C F k env B Q->(∀j,j<lps k->B' j=B j)->Fits Φ C F k (env++x) B' Q
 |[],Q,h,_=>h
 | .code c::k,Q,⟨Q',h,e⟩,hB=>⟨Q',h.ext x hB,e⟩
 | .blk id::k,Q,⟨Q',h,e⟩,hB=>⟨Q',h.ext x hB,e⟩
 | .lp l n m H::k,Q,⟨Q',J,h,e,hl,hn,hJ⟩,hB=>by
   refine⟨Q',J,h.ext x fun j hj=>hB j (by simp only[lps];omega),e,hl,by simp;omega,fun vs a w g hv hr hb=> ?_⟩
   rw[List.take_append_of_le_length hn] at hr
   rw[hB l (by simp only[lps];omega)] at hb
   exact hJ vs a w g hv hr hb
theorem Fits.exit{B:Nat->List D->Prop}{env:List D}{id:Nat}:∀{k k':List It}{Q:Exit->Act->World->Prop},Fits Φ C F k env B Q->ij id k=some k'->∃Q',Fits Φ C F k' env B Q'∧∀a w,Q' .normal a w->Q (.exit id) a w
 |[],k',Q,_,hu=>by simp[ij] at hu
 | .code c::k,k',Q,⟨Q',h,e⟩,hu=>by
   obtain⟨Q2,h1,h2⟩:=h.exit (k':=k') hu
   subst e
   exact⟨Q2,h1,h2⟩
 | .blk i::k,k',Q,⟨Q',h,e⟩,hu=>by
   subst e
   simp only[ij] at hu
   cases hi:i==id with
   |true=>
    rw[hi] at hu
    simp only[cond_true,Option.some.injEq] at hu
    subst hu
    have:i=id:=by simpa using hi
    subst this
    exact⟨Q',h,fun a w hq=>by simpa[Exit.inBlock] using hq⟩
   |false=>
    rw[hi] at hu
    obtain⟨Q2,h1,h2⟩:=h.exit (k':=k') hu
    have:¬id=i:=fun e=>by subst e;simp at hi
    exact⟨Q2,h1,fun a w hq=>by simpa[Exit.inBlock,this] using h2 a w hq⟩
 | .lp l n m H::k,k',Q,⟨Q',J,h,e,_⟩,hu=>by
   obtain⟨Q2,h1,h2⟩:=h.exit (k':=k') hu
   subst e
   exact⟨Q2,h1,h2⟩
theorem Fits.ret{B:Nat->List D->Prop}{env:List D}{a:Act}{w:World}(hF:F .ret a w):∀{k:List It}{Q:Exit->Act->World->Prop},Fits Φ C F k env B Q->Q .ret a w
 |[],Q,h=>by rw[show Q=F from h];exact hF
 | .code c::k,Q,⟨Q',h,e⟩=>by subst e;exact h.ret hF
 | .blk i::k,Q,⟨Q',h,e⟩=>by subst e;exact h.ret hF
 | .lp l n m H::k,Q,⟨Q',J,h,e,_⟩=>by subst e;exact h.ret hF
section
variable {env:List D} {g:Gh} {s:SSt} {a:Act} {w:World}
theorem tJ(R:Rel C g (s.den Φ env) a w)(n:Nat):∀q∈facts n s,WFD q.1 (env.getD q.2 default):=by
 have cell:∀{c:SC}{v:Value},iN (sur C g (s.den Φ env) w) (c.den Φ env) v->∀q∈sa c,WFD q.1 (env.getD q.2 default):=fun{c v} hc q hq=>by
  unfold sa at hq
  split at hq
  · simp only[mem_singleton] at hq
    subst hq
    exact bV.wf hc
  · simp at hq
 have cells:∀{cs:List SC}{vs:List Value},aE (sur C g (s.den Φ env) w) (cs.map (SC.den Φ env)) vs->∀q∈cs.flatMap sa,WFD q.1 (env.getD q.2 default):=by
  intro cs
  induction cs with
  |nil=>intro vs _ q hq;simp at hq
  |cons c cs ih=>
   intro vs h q hq
   obtain⟨v,vs',_,_,h1,h2⟩:=h
   rw[flatMap_cons] at hq
   rcases mem_append.1 hq with hq|hq
   · exact cell h1 q hq
   · exact ih h2 q hq
 intro q hq
 unfold facts at hq
 have hq:=(mem_filter.1 hq).1
 rcases mem_append.1 hq with hq|hq
 · obtain⟨v,hv,hq⟩:=mem_flatMap.1 hq
   obtain⟨t,ht⟩:=List.getElem?_of_mem hv
   have hr:=R.tmps t
   rw[SSt.fx,show s.tmp t=v by simp[SSt.tmp,getD_eq_getElem?_getD,ht]] at hr
   unfold IE at hq
   split at hq
   · exact cell hr.1 q hq
   · obtain⟨vs,_,hr⟩:=hr
     exact cells hr q hq
   · simp at hq
 · obtain⟨p,hp,hq⟩:=mem_flatMap.1 hq
   have hr:=R.objs p.1
   unfold bv at hr
   split at hq
   · rename_i o ho
     have ho':=aT (Φ:=Φ) (env:=env) ho
     simp only[sur,ho'] at hr
     unfold GV at hq
     split at hq
     · simp only[SOb.den] at hr
       obtain⟨_,_,_,h2,_⟩:=hr
       simp only[mem_singleton] at hq
       subst hq
       exact h2
     · simp only[SOb.den] at hr
       obtain⟨_,_,_,h2,_⟩:=hr
       simp only[mem_singleton] at hq
       subst hq
       exact h2
     · simp only[SOb.den] at hr
       obtain⟨_,vs,_,_,_,hr⟩:=hr
       exact cells hr q hq
     · simp at hq
   · simp at hq
theorem Rel.bool(R:Rel C g (s.den Φ env) a w){x:Operand}{e:E}(h:(sev C.T 0 s x).dn= .one (.dat .bool e)):a.eval x= .bool (e.den Φ env).ZZ:=by
 have hr:bV w (Me C.M (s.den Φ env).obj g.hd g.fp) .bool (a.eval x) (e.den Φ env):=R.jI (bQ h)
 exact hr
end
theorem zp{Φ:Fns}{post:List D->Prop}{cs:List E}{t:VC}{env:List D}{B:Nat->List D->Prop}(h:(req cs t).wp Φ post env B):holds Φ env cs∧t.wp Φ post env B:=by
 unfold req at h
 have h0:holds Φ env ([]:List E):=fun _ h=>by simp at h
 split at h
 · rename_i hs;exact⟨ul (cs:=cs) h0 (by rw[hs];exact h0),h⟩
 · exact⟨ul (cs:=cs) h0 (vR h.1),h.2⟩
theorem jg{env:List D}{B:Nat->List D->Prop}(hCT:Told C.P Φ CT){ops:Array Oper}{K:SSt->Option VC}{Q:Exit->Act->World->Prop}(hK:∀s' t a' w' g',K s'=some t->Rel C g' (SSt.den Φ env s') a' w'->t.wp Φ post env B->Q .normal a' w'):
 ∀(l:List Nat){N:List (List E)}{g:Gh}{s:SSt}{a:Act}{w:World}{t:VC},(∀ns∈N,¬holds Φ env ns)->Rel C g (s.den Φ env) a w->B4 C.T CT ops K l N s=some t->t.wp Φ post env B->wpOps C.P ops Q l a w
 |[],N,g,s,a,w,t,_,R,h,ht=>hK _ _ _ _ _ h R ht
 |i::l,N,g,s,a,w,t,hN,R,h,ht=>by
  simp only[B4] at h
  split at h
  · rename_i o ho
    have fin:(if Region.wanted o (yielded ops a.tmps)=true then o.wp C.P a w (wpOps C.P ops Q l) Q else wpOps C.P ops Q l (a.put o.dst undef) w)->wpOps C.P ops Q (i::l) a w:=fun this=>by
     simp only[wpOps,ho]
     split at this
     · rename_i hw;rw[if_pos hw];exact .inl this
     · rename_i hw;rw[if_neg hw];exact this
    split at h
    · rename_i cs1 s1 h1
      split at h
      · rename_i t1 h2
        simp only[Option.some.injEq] at h
        subst h
        obtain⟨h3,h4⟩:=zp ht
        exact fin (lr R hCT h1 h3 (wpOps C.P ops Q l) Q fun a' w' g' R'=>jg hCT hK l hN R' h2 h4)
      · cases h
    · split at h
      · rename_i s1 h1
        exact fin (By R hN h1 (wpOps C.P ops Q l) Q fun a' w' g' R'=>jg hCT hK l hN R' h ht)
      · split at h
        · rename_i s1 h1
          exact fin (Bd R hN h1 (wpOps C.P ops Q l) Q fun a' w' g' R'=>jg hCT hK l hN R' h ht)
        · split at h
          · rename_i gs cs s1 s2 h1
            split at h
            · rename_i t1 t2 h2 h3
              simp only[Option.some.injEq] at h
              subst h
              have ha:=md (Φ:=Φ) (env:=env) gs
              refine fin (zC R hCT h1 (fun hc=>(zp (ht.1 (ha.2 hc))).1) (wpOps C.P ops Q l) Q (fun hc a' w' g' R'=>jg hCT hK l hN R' h2 (zp (ht.1 (ha.2 hc))).2) fun hc a' w' g' R'=>jg hCT hK l (fun ns hns=> ?_) R' h3 (ht.2 ?_))
              · rcases mem_cons.1 hns with rfl|hns
                · exact hc
                · exact hN ns hns
              · cases hx:((tQ gs).den Φ env).ZZ with
                |true=>exact absurd (ha.1 hx) hc
                |false=>rfl
            · cases h
          · cases h
  · cases h
def nrC:Code->Bool
 | .skip=>true
 | .seq a b=>nrC a&&nrC b
 | .region _ _ _=>true
 | .cond _ a b=>nrC a&&nrC b
 | .block _ c=>nrC c
 | .exit _=>true
 | .loop c=>nrC c
 |_=>false
def nrK:List It->Bool
 |[]=>true
 | .code c::k=>nrC c&&nrK k
 | .blk _::k=>nrK k
 | .lp _ _ _ _::k=>nrK k
theorem mH{id:Nat}:∀{k k':List It},nrK k=true->ij id k=some k'->nrK k'=true
 |[],_,_,h=>by simp[ij] at h
 | .code c::k,k',hn,h=>by
   simp only[nrK,and_eq_true] at hn
   exact mH (k:=k) hn.2 h
 | .blk i::k,k',hn,h=>by
   simp only[ij] at h
   cases hi:i==id with
   |true=>rw[hi] at h;simp only[cond_true,Option.some.injEq] at h;subst h;exact hn
   |false=>rw[hi] at h;exact mH (k:=k) hn h
 | .lp _ _ _ _::k,k',hn,h=>mH (k:=k) hn h
theorem uO(rt:Bool)(hm:C.P.follows .mixedOrders=true)(hCT:Told C.P Φ CT){G:Nat->SSt->Code->List It->Option (SSt×Nat)}{end':SSt->Option (List E)}
 (hend:∀env g s a w es,end' s=some es->Rel C g (SSt.den Φ env s) a w->post (es.map (E.den Φ env))->F .normal a w∧(rt=true->F .ret a w)):
 ∀(f n:Nat)(s:SSt)(k:List It)(t:VC),run C.T CT G end' f n s k=some t->∀(env:List D)(B:Nat->List D->Prop)(Q:Exit->Act->World->Prop)(g:Gh)(a:Act)(w:World),
  (rt=true∨nrK k=true)->env.length=n->Fits Φ C F k env B Q->Rel C g (s.den Φ env) a w->t.wp Φ post env B->Q .normal a w:=by
 intro f
 induction f with
 |zero=>intro n s k t h;simp[run] at h
 |succ f ih=>
  intro n s k t h env B Q g a w hr hn hF R ht
  rcases k with _|⟨it,k⟩
  · simp only[run] at h
    split at h
    · rename_i es he
      simp only[Option.some.injEq] at h
      subst h
      rw[show Q=F from hF]
      exact(hend env g s a w es he R ht).1
    · cases h
  · cases it with
    |blk id=>
     obtain⟨Q',hF,rfl⟩:=hF
     exact ih n s k t h env B Q' g a w hr hn hF R ht
    |lp l n' m H=>
     obtain⟨Q',J,hF,rfl,hl,hle,hJ⟩:=hF
     simp only[run] at h
     split at h
     · rename_i es he
       simp only[Option.some.injEq] at h
       subst h
       obtain⟨h1,g',h2⟩:=xW R hle he
       exact hJ _ a w g' (by simpa using h1) h2 ht
     · cases h
    |code c=>
     obtain⟨Q',hF,rfl⟩:=hF
     have hrk:rt=true∨nrK k=true:=hr.imp (fun q=>q) fun h=>by simp only[nrK,and_eq_true] at h;exact h.2
     show c.wp C.P Q' a w
     cases c with
     |skip=>exact wp_skip (ih n s k t h env B Q' g a w hrk hn hF R ht)
     |seq x y=>
      simp only[run] at h
      split at h
      · rename_i H m hG
        split at h
        · rename_i t1 t2 ht1 ht2
          simp only[Option.some.injEq] at h
          subst h
          obtain⟨I,h1,h2⟩:=ht
          have et:env.take n=env:=List.take_of_length_le (by omega)
          refine wp_seq (ih n s (.code x::.lp (lps k) n m H::k) t1 ht1 env (eC B (lps k) I) _ g a w (hr.imp (fun q=>q) fun h=>by simp only[nrK,nrC,and_eq_true] at h⊢;exact⟨h.1.1,h.2⟩) hn
           ⟨_,⟨Q',fun a w=>y.wp C.P Q' a w,?_,rfl,rfl,by omega,fun vs a2 w2 g2 hv R2 hb=> ?_⟩,rfl⟩ R h1)
          · have:=hF.ext (B':=eC B (lps k) I) [] fun j hj=>by unfold eC;rw[if_neg (by omega)]
            simpa using this
          · rw[et] at R2
            have hI:I vs:=by unfold eC at hb;rw[if_pos rfl] at hb;exact hb
            have hw:=pn (vx h2 vs hv) (fun q hq=>tJ R2 n q hq) hI
            exact ih (n+m) H (.code y::k) t2 ht2 (env++vs) B _ g2 a2 w2 (hr.imp (fun q=>q) fun h=>by simp only[nrK,nrC,and_eq_true] at h⊢;exact⟨h.1.2,h.2⟩) (by simp[hn,hv]) ⟨Q',hF.ext vs (fun j _=>rfl),rfl⟩ R2 hw
        · cases h
      · exact wp_seq (ih n s (.code x::.code y::k) t h env B _ g a w (hr.imp (fun q=>q) fun h=>by simpa[nrK,nrC,Bool.and_assoc] using h) hn ⟨_,⟨Q',hF,rfl⟩,rfl⟩ R ht)
     |block id c=>exact wp_block (ih n s (.code c::.blk id::k) t h env B _ g a w (hr.imp (fun q=>q) fun h=>by simpa[nrK,nrC,Bool.and_assoc] using h) hn ⟨_,⟨Q',hF,rfl⟩,rfl⟩ R ht)
     |region id ops draw=>
      simp only[run] at h
      split at h
      · rename_i cs s' hr
        split at h
        · rename_i t' ht'
          simp only[Option.some.injEq] at h
          subst h
          obtain⟨h1,h2⟩:=zp ht
          cases draw with
          |true=>exact BB hCT hm R hr h1 fun a' w' g' R'=>ih n s' k t' ht' env B Q' g' a' w' hrk hn hF R' h2
          |false=>exact zf hCT R hr h1 fun a' w' g' R'=>ih n s' k t' ht' env B Q' g' a' w' hrk hn hF R' h2
        · cases h
      · cases draw with
        |true=>cases h
        |false=>exact wp_region (jg hCT (fun s' t' a' w' g' ht' R' hw=>ih n s' k t' ht' env B Q' g' a' w' hrk hn hF R' hw) _ (fun _ hns=>by simp at hns) R h ht)
     |cond x y z=>
      have hry:rt=true∨nrK (.code y::k)=true:=hr.imp (fun q=>q) fun h=>by simp only[nrK,nrC,and_eq_true] at h⊢;exact⟨h.1.1,h.2⟩
      have hrz:rt=true∨nrK (.code z::k)=true:=hr.imp (fun q=>q) fun h=>by simp only[nrK,nrC,and_eq_true] at h⊢;exact⟨h.1.2,h.2⟩
      simp only[run] at h
      split at h
      · rename_i hx
        exact wp_cond_true (R.bool hx) (ih n s (.code y::k) t h env B _ g a w hry hn ⟨Q',hF,rfl⟩ R ht)
      · rename_i hx
        exact wp_cond_false (R.bool hx) (ih n s (.code z::k) t h env B _ g a w hrz hn ⟨Q',hF,rfl⟩ R ht)
      · rename_i e _ _ hx
        split at h
        · rename_i t1 t2 h1 h2
          simp only[Option.some.injEq] at h
          subst h
          exact wp_cond_split (R.bool hx) (fun hb=>ih n s (.code y::k) t1 h1 env B _ g a w hry hn ⟨Q',hF,rfl⟩ R (ht.1 hb))
           (fun hb=>ih n s (.code z::k) t2 h2 env B _ g a w hrz hn ⟨Q',hF,rfl⟩ R (ht.2 hb))
        · cases h
      · cases h
     |exit id=>
      simp only[run] at h
      split at h
      · rename_i k' hk
        obtain⟨Q2,h1,h2⟩:=hF.exit hk
        exact wp_exit (h2 a w (ih n s k' t h env B Q2 g a w (hrk.imp (fun q=>q) fun h=>mH h hk) hn h1 R ht))
      · cases h
     |ret=>
      simp only[run] at h
      split at h
      · rename_i es he
        simp only[Option.some.injEq] at h
        subst h
        exact wp_ret (hF.ret ((hend env g s a w es he R ht).2 (hr.resolve_right (by simp[nrK,nrC]))))
      · cases h
     |loop c=>
      simp only[run] at h
      split at h
      · rename_i H m hG
        split at h
        · rename_i init hi
          split at h
          · rename_i t' ht'
            simp only[Option.some.injEq] at h
            subst h
            obtain⟨I,μ,h0,hI⟩:=ht
            obtain⟨h1,g',h2⟩:=xW R (Nat.le_of_eq hn.symm) hi
            have et:env.take n=env:=List.take_of_length_le (by omega)
            refine Cv (I:=fun N a w=>∃vs g,vs.length=m∧Rel C g (H.den Φ (env++vs)) a w∧I vs∧μ vs=N) (N:=μ (init.map (E.den Φ env))) ⟨_,g',by simpa using h1,?_,h0,rfl⟩ fun N a w hN=> ?_
            · unfold mU at h2;rw[et] at h2;exact h2
            · obtain⟨vs,g2,hv,R2,hIv,rfl⟩:=hN
              have hw:=pn (vx hI vs hv) (fun q hq=>tJ R2 n q hq) hIv
              refine ih (n+m) H (.code c::.lp (lps k) n m H::k) t' ht' (env++vs) _ _ g2 a w (hr.imp (fun q=>q) fun h=>by simp only[nrK,nrC,and_eq_true] at h⊢;exact h) (by simp[hn,hv]) ⟨_,⟨Q',_,hF.ext vs (fun j hj=> ?_),rfl,rfl,by simp;omega,fun vs' a w g3 hv' R3 hb=> ?_⟩,rfl⟩ R2 hw
              · show eC B (lps k) _ j=B j
                unfold eC
                rw[if_neg (by omega)]
              · unfold eC at hb
                rw[if_pos rfl] at hb
                rw[List.take_append_of_le_length (by omega),et] at R3
                exact⟨μ vs',hb.2,vs',g3,hv',R3,hb.1,rfl⟩
          · cases h
        · cases h
      · cases h
     |rangeFunc=>simp[run] at h
     |«scope»=>simp[run] at h
     |label=>simp[run] at h
     |goto=>simp[run] at h
     |refuse=>simp[run] at h
theorem xO(hm:C.P.follows .mixedOrders=true)(hCT:Told C.P Φ CT){G:Nat->SSt->Code->List It->Option (SSt×Nat)}{end':SSt->Option (List E)}
 (hend:∀env g s a w es,end' s=some es->Rel C g (SSt.den Φ env s) a w->post (es.map (E.den Φ env))->F .normal a w∧F .ret a w)
 (f n:Nat) (s:SSt) (k:List It) (t:VC) (h:run C.T CT G end' f n s k=some t) (env:List D) (B:Nat->List D->Prop) (Q:Exit->Act->World->Prop) (g:Gh) (a:Act) (w:World)
 (hn:env.length=n) (hF:Fits Φ C F k env B Q) (R:Rel C g (s.den Φ env) a w) (ht:t.wp Φ post env B):Q .normal a w:=
 uO true hm hCT (fun env g s a w es h1 h2 h3=>⟨(hend env g s a w es h1 h2 h3).1,fun _=>(hend env g s a w es h1 h2 h3).2⟩) f n s k t h env B Q g a w (.inl rfl) hn hF R ht
end
end Go.Vx
namespace Go.Vx
open Go.RowKit (Below)
mutual
def WFa:K->D->Prop
 | .int k,d=>inR k d.ZY
 | .bool,_=>True
 | .str,d=>d.ao.size<=al
 | .sl _ ks,d=>d.ae.length<=al∧∀row,row∈d.ae->sT ks row
def sT:List K->List D->Prop
 |[],_=>True
 |k::ks,ds=>WFa k (ds.headD default)∧sT ks ds.tail
end
mutual
theorem bV.wfa{w:World}{M:Nat->Nat->Prop}:∀{k:K}{v:Value}{d:D},bV w M k v d->WFa k d
 | .int _,_,_,h=>h.2
 | .bool,_,_,_=>trivial
 | .str,_,_,h=>h.2
 | .sl _ ks,v,d,h=>by
   obtain⟨a,cap,rfl,_,h2,h3⟩:=h
   refine⟨h2,fun row hr=> ?_⟩
   rcases h3 with h3|⟨b,off,_,hrow⟩
   · rw[h3] at hr;simp at hr
   · obtain⟨i,hi⟩:=List.getElem?_of_mem hr
     obtain⟨vs,_,_,hc⟩:=hrow i row hi
     exact aP.wfa hc
theorem aP.wfa{w:World}{M:Nat->Nat->Prop}:∀{ks:List K}{vs:List Value}{ds:List D},aP w M ks vs ds->sT ks ds
 |[],_,_,_=>trivial
 |_::_,_,_,h=>by
  obtain⟨v,vs',rfl,hc,h'⟩:=h
  exact⟨bV.wfa hc,aP.wfa h'⟩
end
def WFA:ASh->D->Prop
 | .one k,d=>WFa k d
 | .agg ks,d=>sT ks d.row
 | .pim ks,d=>sT ks d.row
def vD:List ASh->List D->Prop
 |s::ss,d::ds=>WFA s d∧vD ss ds
 |_,_=>True
theorem fg.wf{w:World}{M:Nat->Nat->Prop}:∀{ss:List ASh}{vs:List Value}{ds:List D},fg w M ss vs ds->vD ss ds∧ds.length=ss.length∧vs.length=ss.length
 |[],_,_,h=>by rw[h.1,h.2];exact⟨trivial,rfl,rfl⟩
 |s::ss,_,_,h=>by
  obtain⟨v,vs',d,ds',rfl,rfl,hv,h'⟩:=h
  obtain⟨h1,h2,h3⟩:=fg.wf h'
  refine⟨⟨?_,h1⟩,by simp[h2],by simp[h3]⟩
  cases s with
  |one k=>exact bV.wfa hv
  |agg ks=>obtain⟨us,_,hv⟩:=hv;exact aP.wfa hv
  |pim ks=>obtain⟨_,_,us,_,_,_,hv⟩:=hv;exact aP.wfa hv
def eqK:K->D->D->Prop
 | .int _,a,b=>a.ZY=b.ZY
 | .bool,a,b=>a.ZZ=b.ZZ
 | .str,a,b=>a.ao=b.ao
 | .sl _ _,a,b=>a.ae=b.ae
def Jt:RC->D->D->Prop
 | .im k,a,b=>eqK k a b
 | .own _ _ _,a,b=>a.ae=b.ae
def em:List RC->List D->List D->Prop
 |[],_,_=>True
 |c::cs,ds,ds'=>Jt c (ds.headD default) (ds'.headD default)∧em cs ds.tail ds'.tail
theorem GK(k:K)(a:D):eqK k a a:=by cases k<;>rfl
theorem Fl(c:RC)(a:D):Jt c a a:=by cases c<;>first|exact GK _ _|rfl
theorem nH:∀(cs:List RC)(ds:List D),em cs ds ds
 |[],_=>trivial
 |c::cs,ds=>⟨Fl c _,nH cs ds.tail⟩
theorem bV.eqv{w:World}{M:Nat->Nat->Prop}{k:K}{v:Value}{a b:D}(h:bV w M k v a)(he:eqK k a b):bV w M k v b:=by
 cases k with
 |int k=>have he:a.ZY=b.ZY:=he;unfold bV at h⊢;rw[<-he];exact h
 |bool=>have he:a.ZZ=b.ZZ:=he;unfold bV at h⊢;rw[<-he];exact h
 |str=>have he:a.ao=b.ao:=he;unfold bV at h⊢;rw[<-he];exact h
 |sl e ks=>have he:a.ae=b.ae:=he;unfold bV at h⊢;rw[<-he];exact h
theorem ch.eqv{w:World}{M:Nat->Nat->Prop}:∀{cs:List RC}{vs:List Value}{ds ds':List D}{Fs:List (List Nat)},ch w M cs vs ds Fs->em cs ds ds'->ch w M cs vs ds' Fs
 |[],_,_,_,_,h,_=>h
 | .im k::cs,_,_,_,_,⟨v,vs',e,hc,hr⟩,he=>⟨v,vs',e,hc.eqv he.1,hr.eqv he.2⟩
 | .own t ks dp::cs,_,_,_,_,⟨v,vs',F,Fs',e1,e2,ho,hr⟩,he=>⟨v,vs',F,Fs',e1,e2,by have h1:_=_:=he.1;rw[<-h1];exact ho,hr.eqv he.2⟩
theorem VC.wp_mono{Φ:Fns}{post post':List D->Prop}(h:∀l,post l->post' l):∀(t:VC)(env:List D)(B:Nat->List D->Prop),t.wp Φ post env B->t.wp Φ post' env B:=by
 have hN:∀(n:Nat){p q:List D->Prop},(∀l,p l->q l)->ua n p->ua n q:=by
  intro n
  induction n with
  |zero=>intro p q hpq hp;exact hpq _ hp
  |succ n ih=>intro p q hpq hp d;exact ih (fun l=>hpq (d::l)) (hp d)
 have hK:∀(l:List (K×Nat))(env:List D){p q:Prop},(p->q)->kinds env l p->kinds env l q:=by
  intro l env
  induction l with
  |nil=>intro p q hpq hp;exact hpq hp
  |cons x l ih=>intro p q hpq hp hw;exact ih hpq (hp hw)
 intro t
 induction t with
 |req cs t ih=>intro env B ht;exact⟨ht.1,ih env B ht.2⟩
 |ite c x y ihx ihy=>intro env B ht;exact⟨fun hc=>ihx env B (ht.1 hc),fun hc=>ihy env B (ht.2 hc)⟩
 |loop id l m fs init body ih=>
  intro env B ⟨I,μ,h0,hI⟩
  exact⟨I,μ,h0,hN m (fun vs hk=>hK fs _ (fun hb hi=>ih _ _ (hb hi)) hk) hI⟩
 |back l es=>intro env B ht;exact ht
 |ret es=>intro env B ht;exact h _ ht
 |join id l m fs x y ihx ihy=>
  intro env B ⟨I,h1,h2⟩
  exact⟨I,ihx _ _ h1,hN m (fun vs hk=>hK fs _ (fun hb hi=>ihy _ _ (hb hi)) hk) h2⟩
def SN(i:Nat):ASh->SV
 | .one k=>.one (.dat k (.var i))
 | .agg ks=>.agg (lU ks (.var i) 0)
 | .pim ks=>.pim ks (.var i) 0
def oU:Nat->List ASh->List SV
 |_,[]=>[]
 |i,s::ss=>SN i s::oU (i+1) ss
def start(args:List ASh)(n:Nat):SSt:=⟨oU 0 args++List.replicate (n - args.length) .dead,[]⟩
section
variable {Φ:Fns}
theorem xG{w:World}{M:Nat->Nat->Prop}{S:Sur}(hw:S.w=w)(hM:∀b o,S.me b o->M b o) {env:List D}:∀{ss:List ASh}{i:Nat}{vs:List Value}{ds:List D},fg w M ss vs ds->(∀j,env.getD (i+j) default=ds.getD j default)->
 ∀t,bB S (((oU i ss).getD t .dead).den Φ env) (vs.getD t undef)
 |[],i,vs,ds,h,he,t=>by simp[oU,SV.den,bB]
 |s::ss,i,_,_,h,he,t=>by
  obtain⟨v,vs',d,ds',rfl,rfl,hv,h'⟩:=h
  cases t with
  |zero=>
   simp only[oU,getD_cons_zero]
   have e0:env.getD i default=d:=by simpa using he 0
   cases s with
   |one k=>
    have hv:bV w M k v d:=hv
    refine⟨?_,hv.jU⟩
    show bV S.w S.me k v (env.getD i default)
    rw[hw,e0]
    exact hv.mono hM
   |agg ks=>
    obtain⟨us,rfl,hv⟩:=hv
    refine⟨us,rfl,?_⟩
    rw[kb]
    refine kP ?_
    rw[hw,E.den,e0]
    exact hv.mono hM
   |pim ks=>
    obtain⟨b,o,us,rfl,h1,h2,hv⟩:=hv
    refine⟨b,o,us,rfl,by rw[hw];exact h1,fun j hj hm=>h2 j hj (hM _ _ hm),?_⟩
    rw[hw,E.den,e0]
    exact hv.mono hM
  |succ t=>
   simp only[oU,getD_cons_succ]
   exact xG hw hM h' (fun j=>by have:=he (j+1);simpa[Nat.add_assoc,Nat.add_comm 1 j] using this) t
def G0:Gh:=⟨fun _=>undef,fun _=>[]⟩
theorem yz{C:Cx}{args:List ASh}{vs:List Value}{ds:List D}(h:fg C.w0 C.M args vs ds)(hl:args.length<=C.n)(hpin:C.pin=[])(hpinB:C.yO=[]):
 Rel C G0 ((start args C.n).den Φ ds) { tmps:=vs.toArray++Array.replicate (C.n - vs.toArray.size) undef,defers:=[] } C.w0:=by
 obtain⟨_,h2,h3⟩:=h.wf
 have hlen:∀(ss:List ASh)(i:Nat),(oU i ss).length=ss.length:=by
  intro ss
  induction ss with
  |nil=>intro i;rfl
  |cons s ss ih=>intro i;simp[oU,ih]
 refine⟨rfl,by simp[h3];omega,by simp[SSt.den,start,hlen];omega,fun t=> ?_,fun x=>rfl,fun x=>nodup_nil,fun x y _ b hb=>by simp[G0] at hb,fun x b hb=>by simp[G0] at hb,⟨rfl,rfl,rfl,le_refl _,fun _ _ _=>rfl⟩,⟨fun p hp=>by rw[hpin] at hp;simp at hp,fun p hp=>by rw[hpinB] at hp;simp at hp⟩⟩
 rw[SSt.fx]
 have ht:(start args C.n).tmp t=(oU 0 args).getD t .dead:=by
  unfold SSt.tmp start
  simp only[getD_eq_getElem?_getD,List.getElem?_append,List.getElem?_replicate]
  split
  · rfl
  · rename_i hn
    rw[List.getElem?_eq_none (l:=oU 0 args) (by omega)]
    split<;>rfl
 have hv:(vs.toArray++Array.replicate (C.n - vs.toArray.size) undef).getD t undef=vs.getD t undef:=by
  simp only[Array.getD_eq_getD_getElem?,getD_eq_getElem?_getD,Array.getElem?_append,Array.getElem?_replicate,List.getElem?_toArray,List.size_toArray]
  split
  · rfl
  · rename_i hn
    rw[List.getElem?_eq_none (l:=vs) (by omega)]
    split<;>rfl
 rw[ht]
 show bB _ _ ((vs.toArray++Array.replicate (C.n - vs.toArray.size) undef).getD t undef)
 rw[hv]
 refine xG rfl (fun b o hm=> ?_) h (fun j=>by rw[zero_add]) t
 rcases hm with hm|⟨x,hl,_⟩|⟨x,hl,_⟩
 · exact hm
 · simp[SSt.den,start,St.obj,look,Ob.live] at hl
 · simp[SSt.den,start,St.obj,look,Ob.isX] at hl
theorem Kp{P:Program}{T:TypeId->TI}(tok:∀t,(T t).ok=true->TOk P T t) (hm:P.follows .mixedOrders=true) {CT:Nat->Option Sig} (hCT:Told P Φ CT) {f:FuncId} {fn:Func} {c:Code}
 (hf:P.funcs[f]? =some fn) (hb:fn.body=some c) {args:List ASh} {ax:List RSh} {φ:Nat->List D->D} {G:Nat->SSt->Code->List It->Option (SSt×Nat)} {fuel:Nat} {vc:VC}
 (hl:args.length<=fn.ntmps) (hv:run T CT G (fin T fn.results.toList ax) fuel args.length (start args fn.ntmps) [.code c]=some vc)
 (hw:∀ds,ds.length=args.length->vD args ds->(φ 1000 ds).ZZ=true->vc.wp Φ (fun l=>em (ax.flatMap RSh.cells) l (dG (fun c=>φ c ds) 0 ax)) ds fun _ _=>False):BS P f args ax φ:=by
 intro w M vs ds hM hgl hargs hpre
 obtain⟨h1,h2,h3⟩:=hargs.wf
 let C:Cx:={ P:=P,T:=T,tok:=tok,w0:=w,X:=[],M:=M,oL:=fun b o h=>⟨hM b o h,by simp⟩,n:=fn.ntmps,pin:=[],u5:=fun p hp=>by simp at hp,yO:=[],qR:=fun p hp=>by simp at hp,gl:=fun w' h=>hgl.fr h }
 refine calls_of_wp hf hb ?_
 have R0:Rel C G0 ((start args fn.ntmps).den Φ ds) { tmps:=vs.toArray++Array.replicate (fn.ntmps - vs.toArray.size) undef,defers:=[] } w:=yz (C:=C) hargs hl rfl rfl
 have hend:∀env g s a w' es,fin T fn.results.toList ax s=some es->Rel C g (SSt.den Φ env s) a w'->(fun l=>em (ax.flatMap RSh.cells) l (dG (fun c=>φ c ds) 0 ax)) (es.map (E.den Φ env))->
  bodyPost P fn (fun e w'=>∃us Fs,e= .returned (jt ax us)∧Below w.heap.size w w'∧ch w' (MeH M (bD (ax.flatMap RSh.cells) us)) (ax.flatMap RSh.cells) us (dG (fun c=>φ c ds) 0 ax) Fs∧
   Fs.flatten.Nodup∧∀b,b∈Fs.flatten->w.heap.size<=b∧b<w'.heap.size) .normal a w'∧
  bodyPost P fn (fun e w'=>∃us Fs,e= .returned (jt ax us)∧Below w.heap.size w w'∧ch w' (MeH M (bD (ax.flatMap RSh.cells) us)) (ax.flatMap RSh.cells) us (dG (fun c=>φ c ds) 0 ax) Fs∧
   Fs.flatten.Nodup∧∀b,b∈Fs.flatten->w.heap.size<=b∧b<w'.heap.size) .ret a w':=fun env g s a w' es he R hp=>by
  obtain⟨us,Fs,e1,e2,e3,e4'⟩:=Fo (C:=C) R he
  have e4:∀b,b∈Fs.flatten->w.heap.size<=b∧b<w'.heap.size:=fun b hb=>⟨(e4' b hb).1.resolve_right (by simp[C]),(e4' b hb).2⟩
  replace e2:=e2.eqv hp
  have hbel:Below w.heap.size w w':=⟨R.fr.os,R.fr.tape,R.fr.output,R.fr.size,fun k hk=>R.fr.block k hk (by simp[C])⟩
  exact⟨⟨R.defers,_,e1,us,Fs,rfl,hbel,e2,e3,e4⟩,⟨R.defers,_,e1,us,Fs,rfl,hbel,e2,e3,e4⟩⟩
 have:=xO (C:=C) (Φ:=Φ) (CT:=CT) hm hCT (post:=fun l=>em (ax.flatMap RSh.cells) l (dG (fun c=>φ c ds) 0 ax)) hend fuel args.length (start args fn.ntmps) [.code c] vc hv ds (fun _ _=>False) _ G0 _ w h2 ⟨_,rfl,rfl⟩ R0 (hw ds h2 h1 hpre)
 exact this
end
abbrev CY:=List (TypeId×List K×E)
def Ent(w:World)(Φ:Fns)(env:List D):CY->List (TypeId×List K×Value)->List (List Nat)->Prop
 |[],io,Fs=>io=[]∧Fs=[]
 |(t,ks,e)::l,io,Fs=>∃v io' F Fs',io=(t,ks,v)::io'∧Fs=F::Fs'∧mx w (.sl t ks) v (.sl (e.den Φ env).ae) F∧Ent w Φ env l io' Fs'
section
variable {Φ:Fns} {env:List D} {w:World}
theorem Ent.append:∀{l l':CY}{io io':List (TypeId×List K×Value)}{Fs Fs':List (List Nat)},Ent w Φ env l io Fs->Ent w Φ env l' io' Fs'->Ent w Φ env (l++l') (io++io') (Fs++Fs')
 |[],_,_,_,_,_,h,h'=>by obtain⟨rfl,rfl⟩:=h;exact h'
 |_::_,_,_,_,_,_,⟨v,io1,F,Fs1,e1,e2,h1,h2⟩,h'=>⟨v,_,F,_,by rw[e1];rfl,by rw[e2];rfl,h1,h2.append h'⟩
theorem Ent.len:∀{l:CY}{io:List (TypeId×List K×Value)}{Fs:List (List Nat)},Ent w Φ env l io Fs->io.length=l.length∧Fs.length=l.length
 |[],_,_,⟨e1,e2⟩=>by rw[e1,e2];exact⟨rfl,rfl⟩
 |_::_,_,_,⟨v,io1,F,Fs1,e1,e2,_,h2⟩=>by rw[e1,e2];simp[h2.len.1,h2.len.2]
theorem Ent.get:∀{l:CY}{io:List (TypeId×List K×Value)}{Fs:List (List Nat)},Ent w Φ env l io Fs->∀(n:Nat)(t:TypeId)(ks:List K)(e:E),l[n]? =some (t,ks,e)->
 ∃v F,io[n]? =some (t,ks,v)∧Fs[n]? =some F∧mx w (.sl t ks) v (.sl (e.den Φ env).ae) F
 |[],_,_,_,n,t,ks,e,hn=>by simp at hn
 |(t',ks',e')::l,_,_,⟨v,io1,F,Fs1,e1,e2,h1,h2⟩,n,t,ks,e,hn=>by
  subst e1 e2
  cases n with
  |zero=>
   simp only[List.getElem?_cons_zero,Option.some.injEq,Prod.mk.injEq] at hn
   obtain⟨rfl,rfl,rfl⟩:=hn
   exact⟨v,F,rfl,rfl,h1⟩
  |succ n=>exact h2.get n t ks e (by simpa using hn)
def FU(S:Sur)(k:Nat)(l:CY)(io:List (TypeId×List K×Value)):Prop:=
 ∀n t ks e v,l[n]? =some (t,ks,e)->io[n]? =some (t,ks,v)->(∃xs,S.obj (k+n)=some (.arx t ks xs))∧S.hd (k+n)=v
theorem FU.right{S:Sur}{k:Nat}{l l':CY}{io io':List (TypeId×List K×Value)}(hl:io.length=l.length)(h:FU S k (l++l') (io++io')):FU S (k+l.length) l' io':=fun n t ks e v h1 h2=>by
 have:=h (l.length+n) t ks e v (by rw[getElem?_append_right (by omega)];simpa using h1) (by rw[getElem?_append_right (by omega)];simpa[hl] using h2)
 rwa[show k+l.length+n=k+(l.length+n) by omega]
theorem FU.left{S:Sur}{k:Nat}{l l':CY}{io io':List (TypeId×List K×Value)}(h:FU S k (l++l') (io++io')):FU S k l io:=fun n t ks e v h1 h2=>
 h n t ks e v (by rw[List.getElem?_append_left (List.getElem?_eq_some_iff.1 h1).1];exact h1) (by rw[List.getElem?_append_left (List.getElem?_eq_some_iff.1 h2).1];exact h2)
theorem kW.len{M:Nat->Nat->Prop}:∀{ss:List XSh}{vs:List Value}{ds:List D}{Fs:List (List Nat)},kW w M ss vs ds Fs->vs.length=ss.length∧ds.length=ss.length
 |[],_,_,_,⟨e1,e2,_⟩=>by rw[e1,e2];exact⟨rfl,rfl⟩
 | .im _::_,_,_,_,⟨v,vs',d,ds',e1,e2,_,h⟩=>by rw[e1,e2];simp[h.len.1,h.len.2]
 | .one _::_,_,_,_,⟨v,vs',d,ds',F,Fs',e1,e2,_,_,h⟩=>by rw[e1,e2];simp[h.len.1,h.len.2]
 | .agg _::_,_,_,_,⟨v,vs',d,ds',F,Fs',e1,e2,_,_,h⟩=>by rw[e1,e2];simp[h.len.1,h.len.2]
def GX(io:List (TypeId×List K×Value))(Fs:List (List Nat)):Gh:=
 ⟨fun x=>if 1000000000<=x then match io[x - 1000000000]? with|some (_,_,v)=>v|none=>undef else undef,fun x=>if 1000000000<=x then Fs.getD (x - 1000000000) [] else[]⟩
theorem ch.flat{M:Nat->Nat->Prop}:∀{cs:List RC}{vs:List Value}{ds:List D}{Fs:List (List Nat)},ch w M cs vs ds Fs->cs.all RC.nh=true->ch w (fun _ _=>False) cs vs ds []
 |[],_,_,_,h,_=>⟨h.1,rfl⟩
 | .im k::cs,_,_,_,⟨v,vs',e,hc,hr⟩,hf=>by
   simp only[List.all_cons,and_eq_true] at hf
   exact⟨v,vs',e,hc.Du hf.1,hr.flat hf.2⟩
 | .own _ _ _::cs,_,_,_,_,hf=>by simp[RC.nh] at hf
end
end Go.Vx

import Derived.Test.YtlkidecpmfhheaaGreatVxa
import Derived.Calls
set_option linter.all false
open Bool (false_eq_true and_eq_true not_eq_true')
open List (length_eq_one_iff getD_cons_zero getD_cons_succ map_cons mem_map mem_append map_take map_drop length_map map_append length_append replicate all_cons all_eq_true nodup_append mem_of_getElem? getElem?_eq_getElem mem_flatten mem_replicate flatten_cons getD_eq_getElem?_getD toArray getElem?_tail tail_cons headD_cons map_nil nodup_cons mem_cons pairwise_flatten mem_flatMap getElem_of_mem flatMap_cons length_take cons_append nil_append mem_singleton mem_cons_of_mem append_nil flatMap_append flatMap_nil getElem_map)
open Nat (le_of_ble_eq_true le_trans lt_of_lt_of_le)
open Array (ext')
namespace Go.Vx
open Go.RowKit (Below)
mutual
def K.eqb:K->K->Bool
 | .int k,.int l=>decide (k=l)
 | .bool,.bool=>true
 | .str,.str=>true
 | .sl e ks,.sl f ls=>e==f&&K.ct ks ls
 |_,_=>false
def K.ct:List K->List K->Bool
 |[],[]=>true
 |k::ks,l::ls=>K.eqb k l&&K.ct ks ls
 |_,_=>false
end
mutual
theorem K.aY:∀{k l:K},K.eqb k l=true->k=l
 | .int k,l,h=>by cases l<;>simp_all [K.eqb]
 | .bool,l,h=>by cases l<;>simp_all [K.eqb]
 | .str,l,h=>by cases l<;>simp_all [K.eqb]
 | .sl e ks,l,h=>by
   cases l<;>simp only[K.eqb,false_eq_true,and_eq_true,beq_iff_eq] at h
   obtain⟨rfl,h⟩:=h
   rw[K.bp h]
theorem K.bp:∀{ks ls:List K},K.ct ks ls=true->ks=ls
 |[],ls,h=>by cases ls<;>simp_all [K.ct]
 |k::ks,ls,h=>by
  cases ls with
  |nil=>simp[K.ct] at h
  |cons l ls=>
   simp only[K.ct,and_eq_true] at h
   rw[K.aY h.1,K.bp h.2]
end
def qW:List SC->Option (List K×List E)
 |[]=>some ([],[])
 | .dat k e::cs=>match qW cs with
   |some (ks,es)=>some (k::ks,e::es)
   |none=>none
 |_::_=>none
def eqE(k:K)(a b:E):E:=match k with
 | .int k=>.op (.bin .eql k) [a,b]
 | .bool=>.op .beq [a,b]
 | .str=>.op (.eF .eql) [a,b]
 | .sl _ _=>.bool false
def D1:List K->List E->List E->E
 |[k],[a],[b]=>eqE k a b
 |k::ks,a::as,b::bs=>.op .and [eqE k a b,D1 ks as bs]
 |_,_,_=>.bool true
def fEq(T:TypeId->TI)(s:SSt)(op:BinOp)(t:TypeId)(x y:Operand)(u:TypeId):Option Res:=
 match sev T t s x,sev T u s y with
 | .agg cs,.agg cs'=>match qW cs,qW cs' with
   |some (ks,es),some (ks',fs)=>bif (T t).ok&&((T t).eq&&(K.ct ks (T t).ks&&K.ct ks' (T t).ks)) then match op with
    | .eql=>some ⟨[],.one (.dat .bool (D1 ks es fs)),[]⟩
    | .neq=>some ⟨[],.one (.dat .bool (.op .not [D1 ks es fs])),[]⟩
    |_=>none
    else none
   |_,_=>none
 |_,_=>none
def fUn(T:TypeId->TI)(s:SSt)(op:UnOp)(t:TypeId)(x:Operand):Option Res:=
 match op,(sev T t s x).dn with
 | .not,.one (.dat .bool a)=>some ⟨[],.one (.dat .bool (.op .not [a])),[]⟩
 | .neg,.one (.dat (.int k) a)=>some ⟨[],.one (.dat (.int k) (.op (.neg k) [a])),[]⟩
 |_,_=>none
def xg(T:TypeId->TI)(s:SSt)(st t:TypeId)(x:Operand):Option Res:=
 match(T t).ik,(sev T st s x).dn with
 |some k',.one (.dat (.int _) a)=>bif (T st).ok&&(T t).ok then some ⟨[],.one (.dat (.int k') (.op (.wrap k') [a])),[]⟩ else none
 |_,_=>none
def sm(T:TypeId->TI)(s:SSt)(t:TypeId)(x y:Operand):Option Res:=
 match(sev T t s x).dn,(sev T 0 s y).dn with
 | .one (.dat .str a),.one (.dat (.int _) i)=>bif (T t).ok&&(T t).isStr then some ⟨[.op .le [.int 0,i],.op .lt [i,.op .iM [a]]],.one (.dat (.int .u8) (.op .vn [a,i])),[]⟩ else none
 |_,_=>none
def yl(T:TypeId->TI)(s:SSt)(ty:TypeId)(c x y:Operand):Option Res:=
 match(sev T 0 s c).dn,(sev T ty s x).core,(sev T ty s y).core with
 | .one (.dat .bool d),.one (.dat k a),.one (.dat k' b)=>
   bif K.eqb k k' then some ⟨(sev T ty s x).conds.map (fun e=>.op .ite [d,e,.bool true])++(sev T ty s y).conds.map (fun e=>.op .ite [d,.bool true,e]),.one (.dat k (.op .ite [d,a,b])),[]⟩ else none
 |_,_,_=>none
def Fi(T:TypeId->TI)(s:SSt)(t:TypeId)(x:Operand):Option Res:=
 bif (T t).ok then match(T t).isStr with
  |true=>match(sev T t s x).dn with
   | .one (.dat .str a)=>some ⟨[],.one (.dat (.int .i64) (.op .iM [a])),[]⟩
   |_=>none
  |false=>bif (T t).sl.isSome then match sev T t s x with
   | .one (.ref z p)=>match s.obj z with
     |some (.arr _ _ _ xs)=>some ⟨[],.one (.dat (.int .i64) (zD xs p)),[]⟩
     |some (.sealed _ _ xs)=>some ⟨[],.one (.dat (.int .i64) (zD xs p)),[]⟩
     |some (.arx _ _ xs)=>bif p.isNone then some ⟨[],.one (.dat (.int .i64) (C8 64 xs)),[]⟩ else none
     |_=>none
   |v=>match v.dn with
    | .one (.dat (.sl _ _) d)=>some ⟨[],.one (.dat (.int .i64) (.op .len [d])),[]⟩
    |_=>none
   else none
 else none
def Lo(T:TypeId->TI)(s:SSt)(b:Bool)(t t':TypeId)(x y:Operand):Option Res:=
 match(sev T t s x).dn,(sev T t' s y).dn with
 | .one (.dat (.int k) c),.one (.dat (.int k') d)=>bif decide (k=k') then some ⟨[],.one (.dat (.int k) (.op .ite [bif b then .op (.bin .lss k) [d,c] else .op (.bin .lss k) [c,d],d,c])),[]⟩ else none
 |_,_=>none
def rQ(T:TypeId->TI)(s:SSt)(t:TypeId)(x:Operand)(lo hi:Option Operand):Option Res:=
 bif (T t).ok then match(T t).isStr,(sev T t s x).dn with
  |true,.one (.dat .str a)=>match tV T s (.int 0) lo,tV T s (.op .iM [a]) hi with
   |some l,some h=>some ⟨[.op .le [.int 0,l],.op .le [l,h],.op .le [h,.op .iM [a]]],.one (.dat .str (.op .ssub [a,l,h])),[]⟩
   |_,_=>none
  |false,.one (.dat (.sl e' ks) d)=>match(T t).sl with
   |some e=>bif (T e).ok&&ks.length==(T e).ks.length then match tV T s (.int 0) lo,tV T s (.op .len [d]) hi with
    |some l,some h=>some ⟨[.op .le [.int 0,l],.op .le [l,h],.op .le [h,.op .len [d]]],.one (.dat (.sl e' ks) (.op .cut [d,l,.op .subn [h,l]])),[]⟩
    |_,_=>none
    else none
   |none=>none
  |false,.one (.ref z p)=>match(T t).sl,s.obj z with
   |some e,some (.arr _ ks _ xs)=>bif (T e).ok&&ks.length==(T e).ks.length then match tV T s (.int 0) lo,tV T s (zD xs p) hi with
    |some l,some h=>some ⟨[.op .le [.int 0,l],.op .le [l,h],.op .le [h,zD xs p]],.one (.ref z (some (I2 p l,.op .subn [h,l]))),[]⟩
    |_,_=>none
    else none
   |_,_=>none
  |_,_=>none
 else none
def l9(T:TypeId->TI)(s:SSt)(x:Operand)(i:Nat):Option Res:=
 match sev T 0 s x with
 | .tup vs=>match vs[i]? with
   |some v=>some ⟨[],v,[]⟩
   |none=>none
 |_=>none
def rP(T:TypeId->TI)(s:SSt)(st:TypeId)(x:Operand)(f:Nat):Option Res:=
 match(T st).gI[f]?,sev T st s x with
 |some (off,ft),.agg cs=>bif (T st).ok&&((T st).agg&&((T ft).ok&&Nat.ble (off+(T ft).ks.length) cs.length)) then some ⟨[],Fq (T ft).agg ((cs.drop off).take (T ft).ks.length),[]⟩ else none
 |_,_=>none
def kh(T:TypeId->TI)(s:SSt)(x:Operand):Option Res:=
 match sev T 0 s x with
 | .ptr y i j=>bif GW (s.obj y) then some ⟨[],.ptr y i j,[]⟩ else none
 |_=>none
section
variable {Φ:Fns} {env:List D} {C:Cx} {g:Gh} {s:SSt} {a:Act} {w:World} {o:Oper}
theorem l4{T:TypeId->TI}{dflt:E}{d0:Int}(hd:(dflt.den Φ env).ZY=d0){x:Option Operand}{e:E}(h:tV T s dflt x=some e):bnd T (s.den Φ env) d0 x=some (e.den Φ env).ZY:=by
 cases x with
 |none=>simp only[tV,Option.some.injEq] at h;subst h;simp[bnd,hd]
 |some x=>
  simp only[tV] at h
  split at h
  · rename_i k e' hx
    simp only[Option.some.injEq] at h
    subst h
    have:=bQ (Φ:=Φ) (env:=env) hx
    simp only[bnd,this]
  · cases h
theorem sj:∀{cs:List SC}{ks:List K}{es:List E},qW cs=some (ks,es)->cs.map (SC.den Φ env)=tR ks (es.map (E.den Φ env))∧es.length=ks.length
 |[],ks,es,h=>by simp only[qW,Option.some.injEq,Prod.mk.injEq] at h;obtain⟨rfl,rfl⟩:=h;exact⟨rfl,rfl⟩
 | .dat k e::cs,ks,es,h=>by
   simp only[qW] at h
   split at h
   · rename_i ks' es' h1
     simp only[Option.some.injEq,Prod.mk.injEq] at h
     obtain⟨rfl,rfl⟩:=h
     obtain⟨h2,h3⟩:=sj h1
     exact⟨by simp[tR,SC.den,h2],by simp[h3]⟩
   · cases h
 | .nil _ _::_,_,_,h=>by simp[qW] at h
 | .ref _ _::_,_,_,h=>by simp[qW] at h
 | .dead::_,_,_,h=>by simp[qW] at h
theorem Ez(k:K)(a b:E):((eqE k a b).den Φ env).ZZ=ceq k (a.den Φ env) (b.den Φ env)∧(eqE k a b).den Φ env= .bool (ceq k (a.den Φ env) (b.den Φ env)):=by
 cases k<;>simp[eqE,E.den,E.bC,opD,lV,tH,ze,xr,ceq,D.ZZ]
theorem u9:∀(ks:List K)(as bs:List E),as.length=ks.length->bs.length=ks.length->(D1 ks as bs).den Φ env= .bool (yY ks (as.map (E.den Φ env)) (bs.map (E.den Φ env)))
 |[],as,bs,h,h'=>by
  rw[List.eq_nil_of_length_eq_zero h,List.eq_nil_of_length_eq_zero h'];rfl
 |[k],as,bs,h,h'=>by
  obtain⟨a,rfl⟩:=length_eq_one_iff.1 h
  obtain⟨b,rfl⟩:=length_eq_one_iff.1 h'
  simp[D1,yY,(Ez k a b).2]
 |k::k2::ks,a::as,b::bs,h,h'=>by
  have ih:=u9 (k2::ks) as bs (by simpa using h) (by simpa using h')
  rw[show D1 (k::k2::ks) (a::as) (b::bs)= .op .and [eqE k a b,D1 (k2::ks) as bs] from rfl]
  simp only[E.den,E.bC,opD,getD_cons_zero,getD_cons_succ,ih,(Ez k a b).1,D.aK,map_cons]
  rfl
 |_::_::_,[],_,h,_=>by simp at h
 |_::_::_,_::_,[],_,h'=>by simp at h'
theorem J2(R:Rel C g (s.den Φ env) a w){op:BinOp}{t u:TypeId}{x y:Operand}(ho:o.op= .binOp op t x y u){r:Res}(h:fEq C.T s op t x y u=some r):Good Φ env C s a w o r:=fun hc=>by
 unfold fEq at h
 split at h
 · rename_i cs cs' hx hy
   split at h
   · rename_i ks es ks' fs h1 h2
     obtain⟨h3,h4⟩:=ak h
     clear h
     simp only[and_eq_true] at h3
     obtain⟨q1,q2,q3,q4⟩:=h3
     have e1:=K.bp q3
     have e2:=K.bp q4
     obtain⟨d1,l1⟩:=sj (Φ:=Φ) (env:=env) h1
     obtain⟨d2,l2⟩:=sj (Φ:=Φ) (env:=env) h2
     have hx':=cd (Φ:=Φ) (env:=env) hx
     have hy':=cd (Φ:=Φ) (env:=env) hy
     rw[SV.den,d1,e1] at hx'
     rw[SV.den,d2,e2] at hy'
     have e3:ks=ks':=e1.trans e2.symm
     subst e3
     split at h4
     · simp only[Option.some.injEq] at h4
       subst h4
       have:=tj R ho q1 q2 hx' hy' (.inl ⟨rfl,rfl⟩)
       rw[<-e1] at this
       simpa[SV.den,SC.den,SSt.bg,u9 ks es fs l1 l2] using this
     · simp only[Option.some.injEq] at h4
       subst h4
       have:=tj R ho q1 q2 hx' hy' (.inr ⟨rfl,rfl⟩)
       rw[<-e1] at this
       simpa[SV.den,SC.den,SSt.bg,E.den,E.bC,opD,D.ZZ,u9 ks es fs l1 l2] using this
     · cases h4
   · cases h
 · cases h
theorem KQ(R:Rel C g (s.den Φ env) a w){op:UnOp}{t:TypeId}{x:Operand}(ho:o.op= .unOp op t x){r:Res}(h:fUn C.T s op t x=some r):Good Φ env C s a w o r:=fun hc=>by
 unfold fUn at h
 split at h
 · rename_i a' hx
   simp only[Option.some.injEq] at h
   subst h
   exact J8 R ho (bQ hx)
 · rename_i k a' hx
   simp only[Option.some.injEq] at h
   subst h
   exact KD R ho (bQ hx)
 · cases h
theorem Fj(R:Rel C g (s.den Φ env) a w){st t:TypeId}{x:Operand}(ho:o.op= .convert st t x){r:Res}(h:xg C.T s st t x=some r):Good Φ env C s a w o r:=fun hc=>by
 unfold xg at h
 split at h
 · rename_i k' k a' hk hx
   obtain⟨h1,h⟩:=ak h
   simp only[and_eq_true] at h1
   simp only[Option.some.injEq] at h
   subst h
   exact yK R ho h1.1 h1.2 hk (bQ hx)
 · cases h
theorem Dh(R:Rel C g (s.den Φ env) a w){t:TypeId}{x y:Operand}(ho:o.op= .index t x y){r:Res}(h:sm C.T s t x y=some r):Good Φ env C s a w o r:=fun hc=>by
 unfold sm at h
 split at h
 · rename_i a' k i hx hy
   obtain⟨h1,h⟩:=ak h
   simp only[and_eq_true] at h1
   simp only[Option.some.injEq] at h
   subst h
   have c0:=hc (.op .le [.int 0,i]) (by simp)
   have c1:=hc (.op .lt [i,.op .iM [a']]) (by simp)
   simp[E.den,E.bC,opD,D.ZZ,D.ZY] at c0 c1
   exact wJ R ho h1.1 h1.2 (bQ hx) (bQ hy) c0 c1
 · cases h
theorem Fw(R:Rel C g (s.den Φ env) a w){c x y:Operand}(ho:o.op= .pick c x y){r:Res}(h:yl C.T s o.type c x y=some r):Good Φ env C s a w o r:=fun hc=>by
 unfold yl at h
 split at h
 · rename_i d k a' k' b' hd hx hy
   obtain⟨h1,h2⟩:=ak h
   have h3:k=k':=K.aY h1
   clear h h1
   subst h3
   simp only[Option.some.injEq] at h2
   subst h2
   have ex:(ev C.T o.type (s.den Φ env) x).core= .one (.dat k (a'.den Φ env)):=by rw[<-gj (Φ:=Φ) (env:=env),<-SV.np,hx];rfl
   have ey:(ev C.T o.type (s.den Φ env) y).core= .one (.dat k (b'.den Φ env)):=by rw[<-gj (Φ:=Φ) (env:=env),<-SV.np,hy];rfl
   refine GS R ho (bQ hd) ex ey (fun hd1 b hb=> ?_) (fun hd1 b hb=> ?_)
   · rw[<-gj (Φ:=Φ) (env:=env),SV.l5,mem_map] at hb
     obtain⟨e,he,rfl⟩:=hb
     have:=hc (.op .ite [d,e,.bool true]) (mem_append.2 (.inl (mem_map.2 ⟨e,he,rfl⟩)))
     simpa[E.den,E.bC,opD,hd1] using this
   · rw[<-gj (Φ:=Φ) (env:=env),SV.l5,mem_map] at hb
     obtain⟨e,he,rfl⟩:=hb
     have:=hc (.op .ite [d,.bool true,e]) (mem_append.2 (.inr (mem_map.2 ⟨e,he,rfl⟩)))
     simpa[E.den,E.bC,opD,hd1] using this
 · cases h
theorem G4(R:Rel C g (s.den Φ env) a w){t:TypeId}{x:Operand}(ho:o.op= .call { callee:=.builtin .len,args:= #[x],argTypes:= #[t] }){r:Res}(h:Fi C.T s t x=some r):Good Φ env C s a w o r:=fun hc=>by
 unfold Fi at h
 obtain⟨ht,h⟩:=ak h
 split at h
 · rename_i hs
   split at h
   · rename_i a' hx
     simp only[Option.some.injEq] at h
     subst h
     exact Al R ho ht hs (bQ hx)
   · cases h
 · obtain⟨h1,h⟩:=ak h
   obtain⟨e',he'⟩:=Option.isSome_iff_exists.1 h1
   split at h
   · rename_i z p hx
     split at h
     · rename_i e ks dp xs hz
       simp only[Option.some.injEq] at h
       subst h
       have:=BX R ho ht he' (cd hx) (aT hz)
       simpa[SV.den,SC.den,SSt.bg,ni] using this
     · rename_i e ks xs hz
       simp only[Option.some.injEq] at h
       subst h
       have:=vW R ho ht he' (cd hx) (aT hz)
       simpa[SV.den,SC.den,SSt.bg,ni] using this
     · rename_i e ks xs hz
       obtain⟨hp,h⟩:=ak h
       simp only[Option.some.injEq] at h
       subst h
       have hp:p=none:=by simpa using hp
       subst hp
       have:=Au R ho ht he' (cd hx) (aT hz)
       simpa[SV.den,SC.den,SSt.bg,E4] using this
     · cases h
   · split at h
     · rename_i v hv e ks d hx
       simp only[Option.some.injEq] at h
       subst h
       exact zS R ho ht he' (bQ hx)
     · cases h
theorem JT(k:IntKind)(x y:E):((E.op (.bin .lss k) [x,y]).den Φ env).ZZ=decide ((x.den Φ env).ZY<(y.den Φ env).ZY):=rfl
theorem zM(R:Rel C g (s.den Φ env) a w){b:Bool}{t t':TypeId}{x y:Operand}(ho:o.op= .call { callee:=.builtin (bif b then .min else .max),args:= #[x,y],argTypes:= #[t,t'] }){r:Res}(h:Lo C.T s b t t' x y=some r):Good Φ env C s a w o r:=fun hc=>by
 unfold Lo at h
 split at h
 · rename_i k c k' d hx hy
   obtain⟨h1,h2⟩:=ak h
   clear h
   have h3:k=k':=of_decide_eq_true h1
   subst h3
   simp only[Option.some.injEq] at h2
   subst h2
   refine K3 R b ho (bQ hx) (bQ hy) ?_
   show(if((bif b then E.op (.bin .lss k) [d,c] else E.op (.bin .lss k) [c,d]).den Φ env).ZZ=true then d.den Φ env else c.den Φ env).ZY=_
   cases b<;>simp only[cond_true,cond_false,JT,decide_eq_true_eq]<;>split<;>rfl
 · cases h
theorem DR(R:Rel C g (s.den Φ env) a w){t:TypeId}{x:Operand}{lo hi:Option Operand}(ho:o.op= .slice t x lo hi none){r:Res}(h:rQ C.T s t x lo hi=some r):Good Φ env C s a w o r:=fun hc=>by
 unfold rQ at h
 obtain⟨ht,h⟩:=ak h
 split at h
 · rename_i a' hs hx
   split at h
   · rename_i l hh hl hh'
     simp only[Option.some.injEq] at h
     subst h
     have c0:=hc (.op .le [.int 0,l]) (by simp)
     have c1:=hc (.op .le [l,hh]) (by simp)
     have c2:=hc (.op .le [hh,.op .iM [a']]) (by simp)
     simp[E.den,E.bC,opD,D.ZZ,D.ZY] at c0 c1 c2
     exact wG R ho ht hs (bQ hx) (l4 rfl hl) (l4 rfl hh') c0 c1 c2
   · cases h
 · rename_i e' ks d hs hx
   split at h
   · rename_i e he
     obtain⟨h1,h⟩:=ak h
     simp only[and_eq_true,beq_iff_eq] at h1
     split at h
     · rename_i l hh hl hh'
       simp only[Option.some.injEq] at h
       subst h
       have c0:=hc (.op .le [.int 0,l]) (by simp)
       have c1:=hc (.op .le [l,hh]) (by simp)
       have c2:=hc (.op .le [hh,.op .len [d]]) (by simp)
       simp[E.den,E.bC,opD,D.ZZ,D.ZY] at c0 c1 c2
       have:=wO R ho ht he h1.1 (bQ hx) h1.2 (l4 rfl hl) (l4 rfl hh') c0 c1 c2
       simpa[SV.den,SC.den,SSt.bg,E.den,E.bC,opD,D.n,D.ZY] using this
     · cases h
   · cases h
 · rename_i z p hs hx
   split at h
   · rename_i e e' ks dp xs he hz
     obtain⟨h1,h⟩:=ak h
     simp only[and_eq_true,beq_iff_eq] at h1
     split at h
     · rename_i l hh hl hh'
       simp only[Option.some.injEq] at h
       subst h
       have c0:=hc (.op .le [.int 0,l]) (by simp)
       have c1:=hc (.op .le [l,hh]) (by simp)
       have c2:=hc (.op .le [hh,zD xs p]) (by simp)
       simp[E.den,E.bC,opD,D.ZZ,D.ZY,ni] at c0 c1 c2
       have hx':sev C.T t s x= .one (.ref z p):=by
        generalize sev C.T t s x=v at hx
        cases v with
        |one c=>cases c<;>simp_all [SV.dn,SC.dn]
        |_=>simp[SV.dn] at hx
       have:=wH R ho ht he h1.1 (cd hx') (aT hz) h1.2 (l4 rfl hl) (l4 (d0:=(cn (xs.den Φ env).ae (jK Φ env p):Int)) (by rw[ni];rfl) hh') c0 c1 c2
       have e1:jK Φ env (some (I2 p l,.op .subn [hh,l]))=some (cC (jK Φ env p)+(l.den Φ env).ZY.toNat,(hh.den Φ env).ZY.toNat - (l.den Φ env).ZY.toNat):=by
        simp only[jK,Bl]
        rfl
       simpa[SV.den,SC.den,SSt.bg,e1] using this
     · cases h
   · cases h
 · cases h
theorem zo(R:Rel C g (s.den Φ env) a w){x:Operand}{i:Nat}(ho:o.op= .extract x i){r:Res}(h:l9 C.T s x i=some r):Good Φ env C s a w o r:=fun hc=>by
 unfold l9 at h
 split at h
 · rename_i vs hx
   split at h
   · rename_i v hv
     simp only[Option.some.injEq] at h
     subst h
     refine Cf R ho (us:=vs.map (SV.den Φ env)) ?_ (by simp[hv])
     rw[cd hx,<-SV.ck];rfl
   · cases h
 · cases h
theorem DU(R:Rel C g (s.den Φ env) a w){st:TypeId}{x:Operand}{f:Nat}(ho:o.op= .field st x f){r:Res}(h:rP C.T s st x f=some r):Good Φ env C s a w o r:=fun hc=>by
 unfold rP at h
 split at h
 · rename_i off ft cs hf hx
   obtain⟨h1,h⟩:=ak h
   simp only[and_eq_true] at h1
   obtain⟨q1,q2,q3,q4⟩:=h1
   simp only[Option.some.injEq] at h
   subst h
   have:=GE R ho q1 q2 hf q3 (cd hx) (by simpa using le_of_ble_eq_true q4)
   simpa[nk,SSt.bg,map_take,map_drop] using this
 · cases h
theorem wQ(R:Rel C g (s.den Φ env) a w){x:Operand}(ho:o.op= .nilCheck x){r:Res}(h:kh C.T s x=some r):Good Φ env C s a w o r:=fun hc=>by
 unfold kh at h
 split at h
 · rename_i y i j hx
   obtain⟨h1,h⟩:=ak h
   simp only[Option.some.injEq] at h
   subst h
   exact zF R ho (cd hx) (by rw[ye];exact h1)
 · cases h
end
end Go.Vx
namespace Go.Vx
open Go.RowKit (Below)
def Ht:K->SC
 | .int k=>.dat (.int k) (.int 0)
 | .bool=>.dat .bool (.bool false)
 | .str=>.dat .str (.str ⟨#[]⟩)
 | .sl e ks=>.nil e ks
def G9:K->E
 | .int _=>.int 0
 | .bool=>.bool false
 | .str=>.str ⟨#[]⟩
 | .sl _ _=>.nl
def ea(s:SSt):List SC->Option (List (Nat×SOb)×List K×List E×Bool)
 |[]=>some ([],[],[],true)
 | .dat k d::cs=>match ea s cs with
   |some (l,ks,ds,dp)=>some (l,k::ks,d::ds,dp&&k.plain)
   |none=>none
 | .nil e ks'::cs=>match ea s cs with
   |some (l,ks,ds,dp)=>some (l,.sl e ks'::ks,.nl::ds,dp)
   |none=>none
 | .ref y p::cs=>match s.obj y with
   |some (.arr e ks' dp' xs)=>match ea (s.aU y (.sealed e ks' xs)) cs with
    |some (l,ks,ds,dp)=>some ((y,.sealed e ks' xs)::l,.sl e ks'::ks,rp xs p::ds,dp&&(dp'&&p.isNone))
    |none=>none
   |some (.sealed e ks' xs)=>match ea s cs with
    |some (l,ks,ds,dp)=>some (l,.sl e ks'::ks,rp xs p::ds,false)
    |none=>none
   |_=>none
 | .dead::_=>none
def SV.cells?:SV->Option (List SC)
 | .agg cs=>some cs
 | .one c=>some [c]
 |_=>none
def rf(n:Nat):List SV->Option (List SC)
 |[]=>some []
 |u::us=>match u.cells?,rf n us with
  |some cs,some cs'=>bif cs.length==n then some (cs++cs') else none
  |_,_=>none
def Jk(gI:List (Nat×Nat)):List SC->List (Nat×SV)->Option (List SC)
 |cs,[]=>some cs
 |cs,(i,u)::rest=>match gI[i]?,u.cells? with
  |some (off,n),some cs'=>bif cs'.length==n&&Nat.ble (off+n) cs.length then Jk gI (cs.take off++cs'++cs.drop (off+n)) rest else none
  |_,_=>none
section
variable {Φ:Fns} {env:List D}
theorem yD(k:K):(Ht k).den Φ env=gJ k:=by cases k<;>rfl
theorem C9(k:K):(G9 k).den Φ env=yq k:=by cases k<;>rfl
theorem SV.oA(v:SV){cs:List SC}(h:v.cells?=some cs):(v.den Φ env).cells?=some (cs.map (SC.den Φ env)):=by
 cases v<;>simp only[SV.cells?,Option.some.injEq,reduceCtorEq] at h<;>subst h<;>rfl
theorem SSt.lc(s:SSt)(l l':List (Nat×SOb)):s.bg (l++l')=(s.bg l).bg l':=by
 induction l generalizing s with
 |nil=>rfl
 |cons p l ih=>obtain⟨x,o⟩:=p;exact ih _
theorem gY:∀(cs:List SC){s:SSt}{l:List (Nat×SOb)}{ks:List K}{ds:List E}{dp:Bool},ea s cs=some (l,ks,ds,dp)->
 fX (s.den Φ env) (cs.map (SC.den Φ env))=some ((s.bg l).den Φ env,ks,ds.map (E.den Φ env),dp)
 |[],s,l,ks,ds,dp,h=>by
  simp only[ea,Option.some.injEq,Prod.mk.injEq] at h
  obtain⟨rfl,rfl,rfl,rfl⟩:=h
  rfl
 | .dat k d::cs,s,l,ks,ds,dp,h=>by
   simp only[ea] at h
   split at h
   · rename_i l1 ks1 ds1 dp1 h1
     simp only[Option.some.injEq,Prod.mk.injEq] at h
     obtain⟨rfl,rfl,rfl,rfl⟩:=h
     simp[SC.den,fX,gY cs h1]
   · cases h
 | .nil e ks'::cs,s,l,ks,ds,dp,h=>by
   simp only[ea] at h
   split at h
   · rename_i l1 ks1 ds1 dp1 h1
     simp only[Option.some.injEq,Prod.mk.injEq] at h
     obtain⟨rfl,rfl,rfl,rfl⟩:=h
     simp[SC.den,fX,gY cs h1,E.den]
   · cases h
 | .ref y p::cs,s,l,ks,ds,dp,h=>by
   have hp:(jK Φ env p).isNone=p.isNone:=by cases p<;>rfl
   simp only[ea] at h
   split at h
   · rename_i e ks' dp' xs ho
     split at h
     · rename_i l1 ks1 ds1 dp1 h1
       simp only[Option.some.injEq,Prod.mk.injEq] at h
       obtain⟨rfl,rfl,rfl,rfl⟩:=h
       have:=gY cs h1
       rw[SSt.bK] at this
       simp only[SOb.den] at this
       simp[SC.den,fX,aT ho,SOb.den,this,eV,hp,SSt.bg]
     · cases h
   · rename_i e ks' xs ho
     split at h
     · rename_i l1 ks1 ds1 dp1 h1
       simp only[Option.some.injEq,Prod.mk.injEq] at h
       obtain⟨rfl,rfl,rfl,rfl⟩:=h
       simp[SC.den,fX,aT ho,SOb.den,gY cs h1,eV]
     · cases h
   · cases h
 | .dead::_,_,_,_,_,_,h=>by simp[ea] at h
theorem ig:∀(cs:List SC){s:SSt}{l:List (Nat×SOb)}{ks:List K}{ds:List E}{dp:Bool},ea s cs=some (l,ks,ds,dp)->ks.length=cs.length∧ds.length=cs.length
 |[],s,l,ks,ds,dp,h=>by
  simp only[ea,Option.some.injEq,Prod.mk.injEq] at h
  obtain⟨rfl,rfl,rfl,rfl⟩:=h
  simp
 | .dat k d::cs,s,l,ks,ds,dp,h=>by
   simp only[ea] at h
   split at h
   · rename_i l1 ks1 ds1 dp1 h1
     simp only[Option.some.injEq,Prod.mk.injEq] at h
     obtain⟨rfl,rfl,rfl,rfl⟩:=h
     simpa using ig cs h1
   · cases h
 | .nil e ks'::cs,s,l,ks,ds,dp,h=>by
   simp only[ea] at h
   split at h
   · rename_i l1 ks1 ds1 dp1 h1
     simp only[Option.some.injEq,Prod.mk.injEq] at h
     obtain⟨rfl,rfl,rfl,rfl⟩:=h
     simpa using ig cs h1
   · cases h
 | .ref y p::cs,s,l,ks,ds,dp,h=>by
   simp only[ea] at h
   split at h
   · split at h
     · rename_i l1 ks1 ds1 dp1 h1
       simp only[Option.some.injEq,Prod.mk.injEq] at h
       obtain⟨rfl,rfl,rfl,rfl⟩:=h
       simpa using ig cs h1
     · cases h
   · split at h
     · rename_i l1 ks1 ds1 dp1 h1
       simp only[Option.some.injEq,Prod.mk.injEq] at h
       obtain⟨rfl,rfl,rfl,rfl⟩:=h
       simpa using ig cs h1
     · cases h
   · cases h
 | .dead::_,_,_,_,_,_,h=>by simp[ea] at h
theorem tB(n:Nat):∀(us:List SV){cs:List SC},rf n us=some cs->gather n (us.map (SV.den Φ env))=some (cs.map (SC.den Φ env))∧cs.length=us.length*n
 |[],cs,h=>by simp only[rf,Option.some.injEq] at h;subst h;simp[gather]
 |u::us,cs,h=>by
  simp only[rf] at h
  split at h
  · rename_i c1 c2 h1 h2
    obtain⟨h3,h⟩:=ak h
    simp only[Option.some.injEq] at h
    subst h
    have h3:c1.length=n:=by simpa using h3
    obtain⟨q1,q2⟩:=tB n us h2
    simp only[map_cons,gather,SV.oA u h1,q1,length_map,h3,if_true,map_append,length_append,q2,List.length_cons,Nat.add_mul,true_and]
    omega
  · cases h
theorem BQ(gI:List (Nat×Nat)):∀(ps:List (Nat×SV)){cs cs2:List SC},Jk gI cs ps=some cs2->Cz gI (cs.map (SC.den Φ env)) (ps.map fun p=>(p.1,p.2.den Φ env))=some (cs2.map (SC.den Φ env))
 |[],cs,cs2,h=>by simp only[Jk,Option.some.injEq] at h;subst h;rfl
 |(i,u)::ps,cs,cs2,h=>by
  simp only[Jk] at h
  split at h
  · rename_i off n cs' h1 h2
    obtain⟨h3,h⟩:=ak h
    simp only[and_eq_true,beq_iff_eq] at h3
    have:=BQ gI ps h
    simp only[map_append,map_take,map_drop] at this
    simp only[map_cons,Cz,h1,SV.oA u h2,length_map,h3.1,le_of_ble_eq_true h3.2,and_self,if_true,this]
  · cases h
end
def Da(T:TypeId->TI)(key:Nat)(t:TypeId):Option Res:=
 bif (T t).ok then some ⟨[],.ptr key (.int 0) 0,[(key,.box t ((T t).ks.map Ht))]⟩ else none
def ON(T:TypeId->TI)(key:Nat)(s:SSt)(t:TypeId)(y:Operand):Option Res:=
 match(sev T t s y).cells? with
 |some cs=>some ⟨[],.ptr key (.int 0) 0,[(key,.box t cs)]⟩
 |none=>none
def DP(T:TypeId->TI)(s:SSt)(t:TypeId)(x y:Operand):Option Res:=
 match sev T 0 s x,(sev T t s y).cells? with
 | .ptr k i j,some cs'=>bif (T t).ok&&cs'.length==(T t).ks.length then match s.obj k with
   |some (.box B cs)=>bif Nat.ble (j+cs'.length) cs.length then some ⟨[],.dead,[(k,.box B (cs.take j++cs'++cs.drop (j+cs'.length)))]⟩ else none
   |some (.arr e ks dp xs)=>match ea s cs' with
    |some (l,ks',ds',dp')=>match(s.bg l).obj k with
     |some (.arr _ _ _ _)=>bif K.ct ks' ((ks.drop j).take cs'.length)&&(Nat.ble (j+cs'.length) ks.length&&l.all fun p=> !(p.1==k)) then
       some ⟨[.op .ltlen [i,xs],.op (.rowlen ks.length) [.op .row [xs,i]]],.dead,l++[(k,.arr e ks (dp&&dp') (.op .fT [xs,i,.op (.rput j) (.op .row [xs,i]::ds')]))]⟩ else none
     |_=>none
    |none=>none
   |some (.arx e ks xs)=>match sev T t s y,ks[j]? with
    | .one (.dat kk d),some k2=>bif K.eqb kk k2&&(kk.plain&&(!(T t).agg&&okR ks.length 64 (gu xs i).2)) then
       some ⟨[.op .ltlen [i,(gu xs i).1],.op (.rowlen ks.length) [nF 64 (gu xs i).2]],.dead,[(k,.arx e ks (.op .fT [(gu xs i).1,i,.op (.rput j) [(gu xs i).2,d]]))]⟩ else none
    |_,_=>none
   |_=>none
   else none
 |_,_=>none
def rR(T:TypeId->TI)(s:SSt)(t:TypeId)(parts:List (Nat×Operand)):Option Res:=
 bif (T t).ok&&((T t).agg&&(T t).gI.all fun p=>(T p.2).ok) then
  match Jk ((T t).gI.map fun p=>(p.1,(T p.2).ks.length)) ((T t).ks.map Ht) (parts.map fun p=>(p.1,sev T (((T t).gI.getD p.1 (0,0)).2) s p.2)) with
  |some cs=>some ⟨[],.agg cs,[]⟩
  |none=>none
 else none
def yR:Nat->List Nat->Bool
 |_,[]=>true
 |n,x::l=>x==n&&yR (n+1) l
def n4(T:TypeId->TI)(key:Nat)(s:SSt)(t:TypeId)(n:Nat)(parts:List (Nat×Operand)):Option Res:=
 match(T t).sl with
 |some e=>bif (T t).ok&&((T e).ok&&(!((T e).ks.length==0)&&(Nat.ble (n*(T e).ks.length) 16777216&&(parts.length==n&&yR 0 (parts.map Prod.fst))))) then
   match rf (T e).ks.length (parts.map fun p=>sev T e s p.2) with
   |some cs=>match ea s cs with
    |some (l,ks',ds,dp)=>bif K.ct ks' (replicate n (T e).ks).flatten then some ⟨[],.one (.ref key none),l++[(key,.arr e (T e).ks dp (.op (.rows (T e).ks.length) ds))]⟩ else none
    |none=>none
   |none=>none
  else none
 |none=>none
def IQ(T:TypeId->TI)(key:Nat)(s:SSt)(t:TypeId)(x y:Operand):Option Res:=
 match(T t).sl,(sev T 0 s x).dn,(sev T 0 s y).dn with
 |some e,.one (.dat (.int _) d),.one (.dat (.int _) d')=>
  bif (T t).ok&&((T e).ok&& !((T e).ks.length==0)) then
   some ⟨[.op .eqi [d',d],.op (.mkfit (T e).bytes) [d]],.one (.ref key none),[(key,.arr e (T e).ks true (.op .rep [d,.op .mk ((T e).ks.map G9)]))]⟩
  else none
 |_,_,_=>none
section
variable {Φ:Fns} {env:List D} {C:Cx} {g:Gh} {s:SSt} {a:Act} {w:World} {o:Oper} {key:Nat}
theorem fZ(h:s.obj key=none):(s.den Φ env).obj key=none:=by rw[SSt.eL,h];rfl
theorem DK(R:Rel C g (s.den Φ env) a w)(hk:s.obj key=none){t:TypeId}(ho:o.op= .alloc t){r:Res}(h:Da C.T key t=some r):Good Φ env C s a w o r:=fun hc=>by
 unfold Da at h
 obtain⟨ht,h⟩:=ak h
 simp only[Option.some.injEq] at h
 subst h
 have:=Fc R ho ht (fZ hk)
 simpa[SSt.bg,SSt.bK,SOb.den,SV.den,E.den,D.n,D.ZY,Function.comp_def,yD] using this
theorem Hw(R:Rel C g (s.den Φ env) a w)(hk:s.obj key=none){t:TypeId}{y:Operand}(ho:o.op= .box t y){r:Res}(h:ON C.T key s t y=some r):Good Φ env C s a w o r:=fun hc=>by
 unfold ON at h
 split at h
 · rename_i cs hy
   simp only[Option.some.injEq] at h
   subst h
   have:=Ka R ho (by rw[<-gj (Φ:=Φ) (env:=env)];exact SV.oA _ hy) (fZ hk)
   simpa[SSt.bg,SSt.bK,SOb.den,SV.den,E.den,D.n,D.ZY] using this
 · cases h
theorem wz(x:Nat):∀(l:List (Nat×SOb))(s:SSt),(l.all fun p=> !(p.1==x))=true->((s.bg l).den Φ env).obj x=(s.den Φ env).obj x
 |[],s,_=>rfl
 |(y,o)::l,s,h=>by
  simp only[all_cons,and_eq_true,not_eq_true',beq_eq_false_iff_ne,ne_eq] at h
  rw[show s.bg ((y,o)::l)=(s.aU y o).bg l from rfl,wz x l _ h.2,SSt.bK,St.ap,if_neg fun e=>h.1 e.symm]
theorem CN(R:Rel C g (s.den Φ env) a w){t:TypeId}{x y:Operand}(ho:o.op= .store t x y){r:Res}(h:DP C.T s t x y=some r):Good Φ env C s a w o r:=fun hc=>by
 unfold DP at h
 split at h
 · rename_i k i j cs' hx hy
   obtain⟨h1,h⟩:=ak h
   simp only[and_eq_true,beq_iff_eq] at h1
   have ey:(ev C.T t (s.den Φ env) y).cells?=some (cs'.map (SC.den Φ env)):=by rw[<-gj (Φ:=Φ) (env:=env)];exact SV.oA _ hy
   split at h
   · rename_i B cs hk
     obtain⟨h2,h⟩:=ak h
     simp only[Option.some.injEq] at h
     subst h
     have:=wM R ho h1.1 (cd hx) (aT hk) ey (by simpa using h1.2) (by simpa using le_of_ble_eq_true h2)
     simpa[SSt.bg,SSt.bK,SOb.den,SV.den,map_take,map_drop] using this
   · rename_i e ks dp xs hk
     split at h
     · rename_i l ks' ds' dp' hab
       split at h
       · obtain⟨h2,h⟩:=ak h
         simp only[and_eq_true] at h2
         obtain⟨q1,q2,q3⟩:=h2
         simp only[Option.some.injEq] at h
         subst h
         obtain⟨_,hl2⟩:=ig cs' hab
         have c0:=hc (.op .ltlen [i,xs]) (by simp)
         have c1:=hc (.op (.rowlen ks.length) [.op .row [xs,i]]) (by simp)
         simp only[E.den,E.bC,opD,D.ZZ,decide_eq_true_eq,getD_cons_zero,getD_cons_succ] at c0 c1
         have:=wK R ho h1.1 (cd hx) (aT hk) c0 c1 ey (gY cs' hab) (by rw[wz k l s q3];exact aT hk) (by simpa using h1.2) (by simpa using hl2) (by simpa using K.bp q1) (by simpa using le_of_ble_eq_true q2)
         simpa[SSt.lc,SSt.bg,SSt.bK,SOb.den,SV.den,E.den,E.bC,E.ck,opD,D.ae,D.row,D.n] using this
       · cases h
     · cases h
   · rename_i e ks xs hk
     split at h
     · rename_i kk d k2 hcs hk2
       obtain⟨h2,h⟩:=ak h
       simp only[and_eq_true,not_eq_true'] at h2
       obtain⟨q1,q2,q3⟩:=h2
       simp only[Option.some.injEq] at h
       subst h
       have e1:=K.aY q1
       subst e1
       have c0:=hc (.op .ltlen [i,(gu xs i).1]) (by simp)
       have c1:=hc (.op (.rowlen ks.length) [nF 64 (gu xs i).2]) (by simp)
       simp only[E.den,E.bC,opD,D.ZZ,decide_eq_true_eq,getD_cons_zero,getD_cons_succ] at c0 c1
       obtain⟨x1,x2,x3⟩:=uk (Φ:=Φ) (env:=env) xs i c0
       have x4:=y0 (Φ:=Φ) (env:=env) 64 (gu xs i).2 q3.2 c1
       rw[x2] at x4
       have:=wS R ho h1.1 (cd hx) (aT hk) (by rw[<-x1];exact c0) x4 (cd hcs) hk2 q2 q3.1
       simp only[<-x3,<-x2] at this
       simpa[SSt.bg,SSt.bK,SOb.den,SV.den,E.den,E.bC,E.ck,opD,D.ae,D.row,D.n] using this
     · cases h
   · cases h
 · cases h
theorem DO(R:Rel C g (s.den Φ env) a w){t:TypeId}{parts:Array (Nat×Operand)}(ho:o.op= .build t parts){r:Res}(h:rR C.T s t parts.toList=some r):Good Φ env C s a w o r:=fun hc=>by
 unfold rR at h
 obtain⟨h1,h⟩:=ak h
 simp only[and_eq_true,all_eq_true] at h1
 split at h
 · rename_i cs hl
   simp only[Option.some.injEq] at h
   subst h
   have:=BQ (Φ:=Φ) (env:=env) _ _ hl
   refine Gk R ho h1.1 h1.2.1 h1.2.2 ?_
   simpa[Function.comp_def,yD,gj] using this
 · cases h
theorem rD:∀(l:List Nat)(n:Nat),yR n l=true->l=List.range' n l.length
 |[],_,_=>rfl
 |x::l,n,h=>by
  simp only[yR,and_eq_true,beq_iff_eq] at h
  rw[h.1,List.length_cons,List.range'_succ,<-rD l (n+1) h.2]
theorem tS(R:Rel C g (s.den Φ env) a w)(hk:s.obj key=none){t:TypeId}{n:Nat}{parts:Array (Nat×Operand)}(ho:o.op= .buildSlice t n parts){r:Res}(h:n4 C.T key s t n parts.toList=some r):
 Good Φ env C s a w o r:=fun hc=>by
 unfold n4 at h
 split at h
 · rename_i e he
   obtain⟨h1,h⟩:=ak h
   simp only[and_eq_true,not_eq_true',beq_eq_false_iff_ne,ne_eq,beq_iff_eq] at h1
   obtain⟨q1,q2,q3,q4,q5,q6⟩:=h1
   split at h
   · rename_i cs hg
     split at h
     · rename_i l ks' ds dp hab
       obtain⟨h2,h⟩:=ak h
       simp only[Option.some.injEq] at h
       subst h
       obtain⟨g1,g2⟩:=tB (Φ:=Φ) (env:=env) _ _ hg
       obtain⟨_,hl2⟩:=ig cs hab
       have hio:parts.toList.map Prod.fst=List.range n:=by
        have:=rD _ _ q6
        rw[length_map,q5,<-List.range_eq_range'] at this
        exact this
       have:=vQ R ho q1 he q2 (by omega) (le_of_ble_eq_true q4) hio (by simpa[Function.comp_def,gj] using g1) (gY cs hab) (K.bp h2) (fZ hk)
       have hlen:ds.length / (C.T e).ks.length=n:=by
        rw[hl2,g2,length_map,q5]
        exact Nat.mul_div_cancel _ (by omega)
       simpa[SSt.lc,SSt.bg,SSt.bK,SOb.den,SV.den,SC.den,jK,E.den,E.ck,opD,D.ae,hlen] using this
     · cases h
   · cases h
 · cases h
theorem Gl(R:Rel C g (s.den Φ env) a w)(hk:s.obj key=none){t:TypeId}{x y:Operand}(ho:o.op= .makeSlice t x y){r:Res}(h:IQ C.T key s t x y=some r):Good Φ env C s a w o r:=fun hc=>by
 unfold IQ at h
 split at h
 · rename_i e k d k' d' he hx hy
   obtain⟨h1,h⟩:=ak h
   simp only[and_eq_true,not_eq_true',beq_eq_false_iff_ne,ne_eq] at h1
   simp only[Option.some.injEq] at h
   subst h
   have c0:=hc (.op .eqi [d',d]) (by simp)
   have c1:=hc (.op (.mkfit (C.T e).bytes) [d]) (by simp)
   simp only[E.den,E.bC,opD,D.ZZ,decide_eq_true_eq,getD_cons_zero,getD_cons_succ,D.n] at c0 c1
   have:=Hv R ho h1.1 he h1.2.1 (by omega) (bQ hx) (bQ hy) c0 c1.1 c1.2.1 (by omega) (fZ hk)
   simpa[SSt.bg,SSt.bK,SOb.den,SV.den,SC.den,jK,E.den,E.bC,E.ck,opD,D.ae,D.row,D.n,Function.comp_def,C9] using this
 · cases h
end
end Go.Vx
namespace Go.Vx
open Go.RowKit (Below)
def CX(T:TypeId->TI)(s:SSt)(t:TypeId)(ks:List K)(y:Operand):Option E:=match sev T t s y with
 | .one (.ref z q)=>match s.obj z with
   |some (.arr _ ks' _ xs)=>bif K.ct ks' ks then some (rp xs q) else none
   |_=>none
 |v=>match v.dn with
  | .one (.dat (.sl _ ks') d)=>bif K.ct ks' ks then some d else none
  |_=>none
def JR:Option (E×E)->List E
 |none=>[]
 |some (o,_)=>[.op .le [o,.int 0]]
def EW(T:TypeId->TI)(s:SSt)(t:TypeId)(kd:Nat)(ks:List K)(dp:Bool)(y:Operand):Option (Nat×TypeId×E):=
 bif dp&& !(eO ks) then match sev T t s y with
  | .one (.ref z none)=>bif z==kd then none else match s.obj z with
    |some (.arr e ks' true ys)=>bif K.ct ks' ks then some (z,e,ys) else none
    |_=>none
  |_=>none
 else none
def qT(T:TypeId->TI)(key:Nat)(s:SSt)(t e:TypeId)(y:Operand)(kd:Nat)(p:Option (E×E)):Option Res:=
 match s.obj kd with
 |some (.arr e' ks dp xs)=>bif e'==e&&ks.length==(T e).ks.length then match EW T s t kd ks dp y with
  |some (z,ez,ys)=>some ⟨.op (.appfit (T e).bytes) [rp xs p,ys]::JR p,.one (.ref key none),[(z,.sealed ez ks ys),(kd,.gone),(key,.arr e ks true (.op .lapp [rp xs p,ys]))]⟩
  |none=>match CX T s t ks y with
  |some ys=>some ⟨.op (.appfit (T e).bytes) [rp xs p,ys]::JR p,.one (.ref key none),[(kd,.gone),(key,.arr e ks (dp&&eO ks) (.op .lapp [rp xs p,ys]))]⟩
  |none=>none
  else none
 |_=>none
def yJ(T:TypeId->TI)(key:Nat)(s:SSt)(t:TypeId)(x y:Operand):Option Res:=
 match(T t).sl with
 |some e=>bif (T t).ok&&((T e).ok&& !((T e).ks.length==0)) then match sev T t s x with
  | .one (.ref kd p)=>qT T key s t e y kd p
  | .one (.nil e' ks)=>match s.obj (key+1) with
    |none=>match qT T key (s.aU (key+1) (.arr e' ks true .nl)) t e y (key+1) none with
     |some r=>some { r with upd:=(key+1,.arr e' ks true .nl)::r.upd }
     |none=>none
    |_=>none
  |_=>none
  else none
 |none=>none
section
variable {Φ:Fns} {env:List D} {C:Cx} {g:Gh} {s:SSt} {a:Act} {w:World} {o:Oper} {key:Nat}
theorem AW(R:Rel C g (s.den Φ env) a w){t:TypeId}{ks:List K}{y:Operand}{ys:E}(h:CX C.T s t ks y=some ys):∃vssn,Src w (Me C.M (s.den Φ env).obj g.hd g.fp) ks (a.eval y) (ys.den Φ env).ae vssn:=by
 unfold CX at h
 split at h
 · rename_i z q hy
   split at h
   · rename_i e ks' dp xs hz
     obtain⟨h1,h2⟩:=ak h
     have h3:=K.bp h1
     clear h h1
     subst h3
     simp only[Option.some.injEq] at h2
     subst h2
     have hr:=bG R t y
     rw[cd hy] at hr
     obtain⟨vssn,S⟩:=R.src (aT hz) hr.1
     exact⟨vssn,by rw[eV];exact S⟩
   · cases h
 · split at h
   · rename_i v hv e ks' d hy
     obtain⟨h1,h2⟩:=ak h
     have h3:=K.bp h1
     clear h h1
     subst h3
     simp only[Option.some.injEq] at h2
     subst h2
     exact Src.NV (R.jI (bQ hy))
   · cases h
theorem Rel.Km{σ:St}(R:Rel C g σ a w){y:Nat}{e:TypeId}{ks:List K}{ys:List (List D)}(hy:σ.obj y=some (.arr e ks true ys)){v:Value}(hr:aB (sur C g σ w) y none v):
 ∃(vssn:List (List Value)) (fpsn:List (List Nat)),Src w (Me C.M (σ.aU y (.sealed e ks ys)).obj (g.upd y (g.hd y) []).hd (g.upd y (g.hd y) []).fp) ks v ys vssn∧fpsn.length=ys.length∧
  (∀(i:Nat)(row:List D)(vs:List Value)(f:List Nat),ys[i]? =some row->vssn[i]? =some vs->fpsn[i]? =some f->bj w ks vs row f)∧fpsn.flatten.Nodup∧∀c,c∈fpsn.flatten->c∈g.fp y:=by
 obtain⟨vss,fps,h1,h2,h3,h4,h5,hlen,h6⟩:=R.pJ hy
 unfold aB at hr
 simp only[sur,hy] at hr
 have hv:=hr.2
 subst hv
 have hmem:∀c,c∈fps.flatten->c∈g.fp y:=fun c hc=>by rw[h5];simp[hc]
 have hnd:fps.flatten.Nodup:=by
  have:=R.own y
  rw[h5] at this
  exact(nodup_append.1 this).2.1
 have hme:∀c,c∈g.fp y->∀o,¬Me C.M (σ.aU y (.sealed e ks ys)).obj (g.upd y (g.hd y) []).hd (g.upd y (g.hd y) []).fp c o:=fun c hc o=>R.MR hc (fun z hl hb=>by
  rw[St.ap] at hl
  split at hl
  · simp[Ob.live] at hl
  · rename_i hz
    exact⟨hl,hz,by simp[Gh.upd,aW _ _ hz]⟩) (fun z hl hb=>by
  rw[St.ap] at hl
  split at hl
  · simp[Ob.isX] at hl
  · rename_i hz
    exact⟨hz,by simpa[Gh.upd,aW _ _ hz] using hb⟩) o
 refine⟨vss,fps,⟨h3,hlen,?_,fun i row vs e1 e2=> ?_⟩,h4,fun i row vs f e1 e2 e3=>(h6 i row vs f e1 e2 e3).2.1 rfl,hnd,hmem⟩
 · rcases be h1 with ⟨hh,h00⟩|⟨b,cap',hh,hn,_⟩
   · exact⟨none,0,by rw[hh,h00],fun h=>by omega⟩
   · refine⟨some ⟨b,0,none⟩,cap',hh,fun _=>⟨b,0,rfl,?_⟩⟩
     refine lj (sz:=ks.length) _ _ fun i vs hi=> ?_
     have hr:=hU h1 hlen (by rw[hh];rfl:(g.hd y).ownBlock=some b) hi
     rw[Nat.zero_add]
     exact⟨hr,hlen vs (mem_of_getElem? hi)⟩
 · have hi:=(List.getElem?_eq_some_iff.1 e2).1
   have hf:fps[i]? =some fps[i]:=getElem?_eq_getElem (by omega)
   exact((h6 i row vs _ e1 e2 hf).2.1 rfl).toC fun b hb o=>hme b (hmem b (mem_flatten.2 ⟨_,List.getElem_mem _,hb⟩)) o
theorem jS{σ:St}{x:Nat}{o:Ob}{z:Nat}(h:z≠x):(σ.aU x o).obj z=σ.obj z:=by rw[St.ap,if_neg h]
theorem qP(R:Rel C g (s.den Φ env) a w)(hkey:s.obj key=none){t e:TypeId}{x y:Operand}(ho:o.op= .call { callee:=.builtin .append,args:= #[x,y],argTypes:= #[t,t] })
 (ht:(C.T t).ok=true) (hs:(C.T t).sl=some e) (het:(C.T e).ok=true) (hpos:0<(C.T e).ks.length) {kd:Nat} {p:Option (E×E)} (hx:aB (sur C g (s.den Φ env) w) kd (jK Φ env p) (a.eval x))
 {r:Res} (h:qT C.T key s t e y kd p=some r):Good Φ env C s a w o r:=fun hc=>by
 unfold qT at h
 split at h
 · rename_i e' ks dp xs hk
   obtain⟨h1,h2⟩:=ak h
   clear h
   simp only[and_eq_true,beq_iff_eq] at h1
   obtain⟨h3,h4⟩:=h1
   subst h3
   split at h2
   · rename_i z ez ys hys
     simp only[Option.some.injEq] at h2
     subst h2
     unfold EW at hys
     obtain⟨hb,hys0⟩:=ak hys
     clear hys
     have hys:=hys0
     clear hys0
     simp only[and_eq_true] at hb
     split at hys
     · rename_i z' hz'
       cases hzk:z'==kd with
       |true=>rw[hzk] at hys;cases hys
       |false=>
        rw[hzk] at hys
        simp only[cond_false] at hys
        split at hys
        · rename_i e2 ks2 ys2 hzo
          obtain⟨hk2,hys3⟩:=ak hys
          clear hys
          have hk3:=K.bp hk2
          subst hk3
          have hys4:=Option.some.inj hys3
          clear hys3
          simp only[Prod.mk.injEq] at hys4
          obtain⟨rfl,rfl,rfl⟩:=hys4
          have hne:z'≠kd:=by simpa using hzk
          have hdp:dp=true:=hb.1
          have hzo':=aT (Φ:=Φ) (env:=env) hzo
          have hrz:aB (sur C g (s.den Φ env) w) z' none (a.eval y):=by
           have:=bG R t y
           rw[cd hz'] at this
           exact this.1
          obtain⟨vssn,fpsn,S,f1,f2,f3,f4⟩:=R.Km hzo' hrz
          have R1:=R.DY hzo'
          have hkd1:((s.den Φ env).aU z' (.sealed e2 ks2 (ys2.den Φ env).ae)).obj kd=some (.arr e' ks2 dp (xs.den Φ env).ae):=by
           rw[jS (fun e=>hne e.symm)];exact aT hk
          have hx1:aB (sur C (g.upd z' (g.hd z') []) ((s.den Φ env).aU z' (.sealed e2 ks2 (ys2.den Φ env).ae)) w) kd (jK Φ env p) (a.eval x):=by
           have hkd0:=aT (Φ:=Φ) (env:=env) hk
           have hhd:(g.upd z' (g.hd z') []).hd kd=g.hd kd:=by simp[Gh.upd,aW _ _ (fun e=>hne e.symm:kd≠z')]
           unfold aB at hx⊢
           simp only[sur] at hx⊢
           rw[hkd1,hhd]
           rw[hkd0] at hx
           exact hx
          have hkn:((s.den Φ env).aU z' (.sealed e2 ks2 (ys2.den Φ env).ae)).obj key=none:=by
           rw[jS (fun e=>by rw[e,hzo] at hkey;cases hkey)]
           exact fZ hkey
          have c0:=hc (.op (.appfit (C.T e').bytes) [rp xs p,ys2]) (by simp)
          simp only[E.den,E.bC,opD,D.ZZ,decide_eq_true_eq,getD_cons_zero,getD_cons_succ,eV,D.ae] at c0
          have hp0:cC (jK Φ env p)=0:=by
           cases p with
           |none=>rfl
           |some q=>
            obtain⟨f,l⟩:=q
            have c1:=hc (.op .le [f,.int 0]) (by simp[JR])
            simp[E.den,E.bC,opD,D.ZZ,D.ZY] at c1
            simp only[jK,cC,D.n]
            have c1':(f.den Φ env).ZY<=0:=c1
            omega
          have:=uJ R1 ho ht hs het hpos hx1 hp0 hkd1 h4 S hkn (dp2:=true) (fun _=>⟨hdp,fpsn,f1,f2,f3,fun c hcc=>by
           have hcy:=f4 c hcc
           refine⟨fun z hz=> ?_,R.alw _ c hcy⟩
           by_cases hzz:z=z'
           · subst hzz;simp[Gh.upd,bh] at hz
           · simp only[Gh.upd,aW _ _ hzz] at hz
             exact R.apart z z' hzz c hz hcy⟩) c0.1 c0.2
          simpa[SSt.bg,SSt.bK,SOb.den,SV.den,SC.den,jK,E.den,E.bC,opD,D.ae,eV] using this
        · cases hys
     · cases hys
   split at h2
   · rename_i ys hys
     simp only[Option.some.injEq] at h2
     subst h2
     obtain⟨vssn,S⟩:=AW R hys
     have c0:=hc (.op (.appfit (C.T e').bytes) [rp xs p,ys]) (by simp)
     simp only[E.den,E.bC,opD,D.ZZ,decide_eq_true_eq,getD_cons_zero,getD_cons_succ,eV,D.ae] at c0
     have hp0:cC (jK Φ env p)=0:=by
      cases p with
      |none=>rfl
      |some q=>
       obtain⟨f,l⟩:=q
       have c1:=hc (.op .le [f,.int 0]) (by simp[JR])
       simp[E.den,E.bC,opD,D.ZZ,D.ZY] at c1
       simp only[jK,cC,D.n]
       have c1':(f.den Φ env).ZY<=0:=c1
       omega
     have:=uJ R ho ht hs het hpos hx hp0 (aT hk) h4 S (fZ hkey) (dp2:=dp&&eO ks) (fun hd=>by
      simp only[and_eq_true] at hd
      refine⟨hd.1,replicate (ys.den Φ env).ae.length [],by simp,fun i row vs f e1 e2 e3=> ?_,by simp,fun c hcc=>by simp at hcc⟩
      rw[(mem_replicate.1 (mem_of_getElem? e3)).2]
      exact(S.rows i row vs e1 e2).plain hd.2) c0.1 c0.2
     simpa[SSt.bg,SSt.bK,SOb.den,SV.den,SC.den,jK,E.den,E.bC,opD,D.ae,eV] using this
   · cases h2
 · cases h
theorem zY{x y:Nat}{ob:SOb}(h:x≠y):(s.aU y ob).obj x=s.obj x:=by
 have hd:∀l,cI x (jO y l)=cI x l:=by
  intro l
  induction l with
  |nil=>rfl
  |cons q l ih=>
   obtain⟨z,ob'⟩:=q
   by_cases hz:y=z
   · subst hz
     have:(x==y)=false:=by simpa using h
     simp[jO,cI,this,ih]
   · have:(y==z)=false:=by simpa using hz
     simp[jO,cI,this,ih]
 have:(x==y)=false:=by simpa using h
 simp[SSt.obj,SSt.aU,cI,this,hd]
theorem zU(R:Rel C g (s.den Φ env) a w)(hkey:s.obj key=none){t:TypeId}{x y:Operand}(ho:o.op= .call { callee:=.builtin .append,args:= #[x,y],argTypes:= #[t,t] }){r:Res}
 (h:yJ C.T key s t x y=some r):Good Φ env C s a w o r:=by
 unfold yJ at h
 split at h
 · rename_i e he
   obtain⟨h1,h2⟩:=ak h
   clear h
   simp only[and_eq_true,not_eq_true',beq_eq_false_iff_ne,ne_eq] at h1
   have hr:=bG R t x
   split at h2
   · rename_i kd p hx
     rw[cd hx] at hr
     exact qP R hkey ho h1.1 he h1.2.1 (by omega) hr.1 h2
   · rename_i e' ks hx
     rw[cd hx] at hr
     have hv:a.eval x= .slice none 0 0:=hr.1
     split at h2
     · rename_i hk2
       split at h2
       · rename_i r' hr'
         simp only[Option.some.injEq] at h2
         subst h2
         have R':=R.Na (fZ (Φ:=Φ) (env:=env) hk2) e' ks
         have e1:(s.den Φ env).aU (key+1) (.arr e' ks true [])=(s.aU (key+1) (.arr e' ks true .nl)).den Φ env:=by rw[SSt.bK];rfl
         rw[e1] at R'
         refine qP R' (by rw[zY (by omega)];exact hkey) ho h1.1 he h1.2.1 (by omega) ?_ hr'
         unfold aB
         simp only[sur,<-e1,St.ap,if_true,Gh.upd,bh]
         exact⟨trivial,hv⟩
       · cases h2
     · cases h2
   · cases h2
 · cases h
end
def sB(T:TypeId->TI)(s:SSt)(st t:TypeId)(x:Operand):Option Res:=match(T st).sl with
 |some e=>match(T e).ik with
  |some .u8=>bif (T st).ok&&((T e).ok&&((T t).ok&&(T t).isStr)) then match CX T s st [.int .u8] x with
   |some ys=>some ⟨[.op .le [.op .len [ys],.int 140737488355328]],.one (.dat .str (.op .bstr [ys])),[]⟩
   |none=>none
   else none
  |_=>none
 |none=>none
section
variable {Φ:Fns} {env:List D} {C:Cx} {g:Gh} {s:SSt} {a:Act} {w:World} {o:Oper} {key:Nat}
theorem oT{w:World}{me:Nat->Nat->Prop}:∀(ys:List (List D))(vssn:List (List Value)),vssn.length=ys.length->(∀(i:Nat)(row:List D)(vs:List Value),ys[i]? =some row->vssn[i]? =some vs->aP w me [.int .u8] vs row)->
 vssn.flatten=(ys.map fun r=>(r.headD default).ZY).map (Value.int .u8)
 |[],[],_,_=>rfl
 |[],_::_,h,_=>by simp at h
 |_::_,[],h,_=>by simp at h
 |y::ys,vs::vss,h,hr=>by
  have h0:=hr 0 y vs rfl rfl
  obtain⟨v,vs',rfl,hc,hn⟩:=h0
  have hn:vs'=[]:=hn
  subst hn
  rw[flatten_cons,oT ys vss (by simpa using h) fun i row vs e1 e2=>hr (i+1) row vs (by simpa using e1) (by simpa using e2),hc.1]
  rfl
theorem GA{σ:St}(R:Rel C g σ a w){st t e:TypeId}{x:Operand}(ho:o.op= .convert st t x)(hst:(C.T st).ok=true)(hsl:(C.T st).sl=some e)(he:(C.T e).ok=true)(hik:(C.T e).ik=some .u8)
 (ht:(C.T t).ok=true) (hstr:(C.T t).isStr=true) {me:Nat->Nat->Prop} {ys:List (List D)} {vssn:List (List Value)} (S:Src w me [.int .u8] (a.eval x) ys vssn) (hmax:ys.length<=al):
 Did C a w o (.one (.dat .str (.str (bytesOf ys)))) σ:=by
 obtain⟨_,d1,_,_,hu1,_,_,_,_,h1⟩:=(C.tok st hst).ex
 obtain⟨_,d2,_,_,hu2,_,_,_,_,h2⟩:=(C.tok e he).ex
 obtain⟨_,d3,_,_,hu3,_,_,_,_,h3⟩:=(C.tok t ht).ex
 have e1:d1= .slice e:=by
  cases d1 with
  |slice e'=>have:=h1.2.1;rw[hsl] at this;simp at this;rw[this]
  |struct fs=>have:=h1.2.1;rw[hsl] at this;cases this
  |int k=>have:=h1.2.1;rw[hsl] at this;cases this
  |bool=>have:=h1.2.1;rw[hsl] at this;cases this
  |string=>have:=h1.2.1;rw[hsl] at this;cases this
  |_=>exact h1.elim
 have e2:d2= .int .u8:=by
  cases d2 with
  |int k=>have:=h2.2.2.1;rw[hik] at this;simp at this;rw[this]
  |slice e'=>have:=h2.2.2.1;rw[hik] at this;cases this
  |struct fs=>have:=h2.2.2.1;rw[hik] at this;cases this
  |bool=>have:=h2.2.2.1;rw[hik] at this;cases this
  |string=>have:=h2.2.2.1;rw[hik] at this;cases this
  |_=>exact h2.elim
 have e3:d3= .string:=by
  cases d3 with
  |string=>rfl
  |int k=>have:=h3.2.2.2.1;rw[hstr] at this;cases this
  |slice e'=>have:=h3.2.2.2.1;rw[hstr] at this;cases this
  |struct fs=>have:=h3.2.2.2.1;rw[hstr] at this;cases this
  |bool=>have:=h3.2.2.2.1;rw[hstr] at this;cases this
  |_=>exact h3.elim
 subst e1 e2 e3
 obtain⟨ad,cap,ev,hrow⟩:=S.val
 have hfl:=oT ys vssn S.len S.rows
 have hsz:(bytesOf ys).size<=al:=by simp[bytesOf,strOfNums_size,hmax]
 have key:(convert st t (.slice ad ys.length cap)).run C.P w= .ok (.string (bytesOf ys)) w:=by
  cases ys with
  |nil=>
   rw[run_convert_bytes_string w st t e ad _ cap hu1 hu2 hu3]
   cases ad with
   |none=>simp[Conv.bytesToString,bytesOf,strOfNums];rfl
   |some a0=>
    have hl:(loadCells a0 0).run C.P w= .ok (([]:List Int).map (Value.int .u8)).toArray w:=by
     simpa using run_loadCells_list (P:=C.P) w a0 [] (fun j v hj=>by simp at hj)
    have:=run_bytesToString (P:=C.P) w a0 0 cap [] hl
    exact this.trans rfl
  |cons y ys=>
   obtain⟨b,p,rfl,hr⟩:=hrow (by simp)
   rw[hfl] at hr
   exact run_convert_bytes_arg (P:=C.P) w st e hu1 hu2 b p (y::ys).length cap ((y::ys).map fun r=>(r.headD default).ZY) (by simp) (fun i hi=>by
    have hi':i<((y::ys).map fun r=>(r.headD default).ZY).length:=by simpa using hi
    have:=hr.get i (.int .u8 (((y::ys).map fun r=>(r.headD default).ZY)[i])) (by rw[List.getElem?_map,getElem?_eq_getElem hi',Option.map_some])
    rw[this,getD_eq_getElem?_getD,getElem?_eq_getElem hi',Option.getD_some]) t hu3
 exact .quiet R (v:=.string (bytesOf ys)) (by simp[execOp,ho,ev,key]) (dh ⟨rfl,hsz⟩)
theorem Dp(R:Rel C g (s.den Φ env) a w){st t:TypeId}{x:Operand}(ho:o.op= .convert st t x){r:Res}(h:sB C.T s st t x=some r):Good Φ env C s a w o r:=fun hc=>by
 unfold sB at h
 split at h
 · rename_i e he
   split at h
   · rename_i hik
     obtain⟨h1,h2⟩:=ak h
     simp only[and_eq_true] at h1
     split at h2
     · rename_i ys hys
       simp only[Option.some.injEq] at h2
       subst h2
       obtain⟨vssn,S⟩:=AW R hys
       have c0:=hc (.op .le [.op .len [ys],.int 140737488355328]) (by simp)
       simp[E.den,E.bC,opD,D.ZZ,D.ZY] at c0
       exact GA R ho h1.1 he h1.2.1 hik h1.2.2.1 h1.2.2.2 S (by show(ys.den Φ env).ae.length<=2^47;omega)
     · cases h2
   · cases h
 · cases h
end
def opF(T:TypeId->TI)(key:Nat)(s:SSt)(o:Oper):Option Res:=match o.op with
 | .move x=>some ⟨[],sev T o.type s x,[]⟩
 | .assign x=>some ⟨[],sev T o.type s x,[]⟩
 | .load t x=>xv T s t x
 | .fieldAddr t x f=>jf T s t x f
 | .indexAddr t x y=>ja T s t x y
 | .binOp op t x y u=>match fEq T s op t x y u with|some r=>some r|none=>F6 T s op t x y u
 | .unOp op t x=>fUn T s op t x
 | .convert st t x=>match sB T s st t x with|some r=>some r|none=>xg T s st t x
 | .index t x y=>sm T s t x y
 | .pick c x y=>yl T s o.type c x y
 | .slice t x lo hi none=>rQ T s t x lo hi
 | .extract x i=>l9 T s x i
 | .field st x f=>rP T s st x f
 | .nilCheck x=>kh T s x
 | .alloc t=>Da T key t
 | .box t y=>ON T key s t y
 | .store t x y=>DP T s t x y
 | .build t parts=>rR T s t parts.toList
 | .buildSlice t n parts=>n4 T key s t n parts.toList
 | .makeSlice t x y=>IQ T key s t x y
 | .call c=>match c.callee,c.args.toList,c.argTypes.toList with
   | .builtin .len,[x],[t]=>Fi T s t x
   | .builtin .append,[x,y],[t,t']=>bif t==t' then yJ T key s t x y else none
   | .builtin .min,[x,y],[t,t']=>Lo T s true t t' x y
   | .builtin .max,[x,y],[t,t']=>Lo T s false t t' x y
   |_,_,_=>none
 |_=>none
section
variable {Φ:Fns} {env:List D} {C:Cx} {g:Gh} {s:SSt} {a:Act} {w:World} {o:Oper} {key:Nat}
theorem D9(R:Rel C g (s.den Φ env) a w)(hkey:s.obj key=none){r:Res}(h:opF C.T key s o=some r):Good Φ env C s a w o r:=by
 unfold opF at h
 split at h
 case h_1 ho=>simp only[Option.some.injEq] at h;subst h;exact xS R _ (.inl ho)
 case h_2 ho=>simp only[Option.some.injEq] at h;subst h;exact xS R _ (.inr ho)
 case h_3 ho=>exact Gu R ho h
 case h_4 ho=>exact vU R ho h
 case h_5 ho=>exact vw R ho h
 case h_6 ho=>
  split at h
  · rename_i r' hr
    simp only[Option.some.injEq] at h
    subst h
    exact J2 R ho hr
  · exact Id R ho h
 case h_7 ho=>exact KQ R ho h
 case h_8 ho=>
  split at h
  · rename_i r' hr
    simp only[Option.some.injEq] at h
    subst h
    exact Dp R ho hr
  · exact Fj R ho h
 case h_9 ho=>exact Dh R ho h
 case h_10 ho=>exact Fw R ho h
 case h_11 ho=>exact DR R ho h
 case h_12 ho=>exact zo R ho h
 case h_13 ho=>exact DU R ho h
 case h_14 ho=>exact wQ R ho h
 case h_15 ho=>exact DK R hkey ho h
 case h_16 ho=>exact Hw R hkey ho h
 case h_17 ho=>exact CN R ho h
 case h_18 ho=>exact DO R ho h
 case h_19 ho=>exact tS R hkey ho h
 case h_20 ho=>exact Gl R hkey ho h
 case h_21 c ho=>
  split at h
  · rename_i x t h1 h2 h3
    have e1:c={ callee:=.builtin .len,args:= #[x],argTypes:= #[t] }:=by
     obtain⟨cl,ar,at'⟩:=c
     simp only at h1 h2 h3
     subst h1
     rw[show ar= #[x] from ext' h2,show at'= #[t] from ext' h3]
    rw[e1] at ho
    exact G4 R ho h
  · rename_i x y t t' h1 h2 h3
    obtain⟨h4,h5⟩:=ak h
    clear h
    have h6:t=t':=by simpa using h4
    clear h4
    subst h6
    have e1:c={ callee:=.builtin .append,args:= #[x,y],argTypes:= #[t,t] }:=by
     obtain⟨cl,ar,at'⟩:=c
     simp only at h1 h2 h3
     subst h1
     rw[show ar= #[x,y] from ext' h2,show at'= #[t,t] from ext' h3]
    rw[e1] at ho
    exact zU R hkey ho h5
  · rename_i x y t t' h1 h2 h3
    have e1:c={ callee:=.builtin .min,args:= #[x,y],argTypes:= #[t,t'] }:=by
     obtain⟨cl,ar,at'⟩:=c
     simp only at h1 h2 h3
     subst h1
     rw[show ar= #[x,y] from ext' h2,show at'= #[t,t'] from ext' h3]
    rw[e1] at ho
    exact zM (b:=true) R ho h
  · rename_i x y t t' h1 h2 h3
    have e1:c={ callee:=.builtin .max,args:= #[x,y],argTypes:= #[t,t'] }:=by
     obtain⟨cl,ar,at'⟩:=c
     simp only at h1 h2 h3
     subst h1
     rw[show ar= #[x,y] from ext' h2,show at'= #[t,t'] from ext' h3]
    rw[e1] at ho
    exact zM (b:=false) R ho h
  · cases h
 case h_22=>cases h
end
end Go.Vx
namespace Go.Vx
open Go.RowKit (Below)
abbrev New:=Nat->Option (Ob×Value×List Nat)
def Gh.many(g:Gh)(N:New):Gh:=⟨fun x=>match N x with|some (_,h,_)=>h|none=>g.hd x,fun x=>match N x with|some (_,_,f)=>f|none=>g.fp x⟩
theorem Shift.many{C:Cx}{g:Gh}{σ σ':St}{w w':World}(hb:Below w.heap.size w w'){N:New}(hN:∀x q,N x=some q->σ.obj x=none)
 (hσ:∀x,σ'.obj x=match N x with|some (o,_,_)=>some o|none=>σ.obj x) (hh:∀x o h f,N x=some (o,h,f)->∀b,bq h=some b->w.heap.size<=b)
 (hX:∀x o h f,N x=some (o,h,f)->∀b,b∈f->w.heap.size<=b):
 Shift (sur C g σ w) (sur C (g.many N) σ' w'):=by
 have hk:Keeps w (Me C.M σ.obj g.hd g.fp) w' (Me C.M σ'.obj (g.many N).hd (g.many N).fp):=fun b p v hc hn=>by
  have hlt:=fw hc
  refine⟨by rw[hb.cell (p:=⟨b,p,none⟩) hlt];exact hc,?_⟩
  rintro(hM|⟨y,hl,hbk⟩|⟨y,hl,hbk⟩)
  · exact hn (.inl hM)
  · cases hy:N y with
    |some q=>
     obtain⟨o,h,f⟩:=q
     simp only[Gh.many,hy] at hbk
     have:=hh y o h f hy b hbk
     omega
    |none=>
     rw[hσ,hy] at hl
     simp only[Gh.many,hy] at hbk
     exact hn (.inr (.inl ⟨y,hl,hbk⟩))
  · cases hy:N y with
    |some q=>
     obtain⟨o,h,f⟩:=q
     simp only[Gh.many,hy] at hbk
     have:=hX y o h f hy b hbk
     omega
    |none=>
     rw[hσ,hy] at hl
     simp only[Gh.many,hy] at hbk
     exact hn (.inr (.inr ⟨y,hl,hbk⟩))
 refine⟨hk,fun y q v hr=> ?_,fun y i j v hp=> ?_,fun y i j v hl=> ?_,fun y o' hy'=> ?_⟩
 rotate_left 2
 · cases hy:N y with
   |some q=>simp[cB,sur,hN y q hy] at hl
   |none=>
    refine hl.keep (by simp only[sur,hσ,hy]) (by simp only[sur,Gh.many,hy]) fun b p u hu _=> ?_
    show w'.cell? _=_
    rw[hb.cell (p:=⟨b,p,none⟩) (fw hu)];exact hu
 · cases hy:N y with
   |some q=>simp only[sur,hN y q hy] at hy';cases hy'
   |none=>exact⟨o',by simp only[sur,hσ,hy];exact hy',fun e ks xs' e1=>⟨⟨xs',e1⟩,by simp only[sur,Gh.many,hy]⟩⟩
 · cases hy:N y with
   |some q'=>unfold aB at hr;simp only[sur,hN y q' hy] at hr
   |none=>
    have h1:σ'.obj y=σ.obj y:=by rw[hσ,hy]
    have h2:(g.many N).hd y=g.hd y:=by simp only[Gh.many,hy]
    unfold aB at hr⊢
    simp only[sur,h1,h2] at hr⊢
    cases he:σ.obj y with
    |none=>rw[he] at hr;exact hr
    |some q=>
     rw[he] at hr
     cases q with
     |«sealed» e ks xs=>exact⟨hr.1,hr.2.keeps hk⟩
     |_=>exact hr
 · cases hy:N y with
   |some q'=>unfold aV at hp;simp only[sur,hN y q' hy] at hp
   |none=>
    have h1:σ'.obj y=σ.obj y:=by rw[hσ,hy]
    have h2:(g.many N).hd y=g.hd y:=by simp only[Gh.many,hy]
    unfold aV at hp⊢
    simp only[sur,h1,h2] at hp⊢
    exact hp
theorem Rel.many{C:Cx}{g:Gh}{σ σ':St}{a:Act}{w w':World}(R:Rel C g σ a w)(hb:Below w.heap.size w w'){N:New}(ht:σ'.tmps=σ.tmps)(hN:∀x q,N x=some q->σ.obj x=none)
 (hσ:∀x,σ'.obj x=match N x with|some (o,_,_)=>some o|none=>σ.obj x) (hh:∀x o h f,N x=some (o,h,f)->∀b,bq h=some b->w.heap.size<=b)
 (hf:∀x o h f,N x=some (o,h,f)->f.Nodup∧∀b,b∈f->w.heap.size<=b∧b<w'.heap.size)
 (hd:∀x y o h f o' h' f',x≠y->N x=some (o,h,f)->N y=some (o',h',f')->∀b,b∈f->b ∉ f')
 (ho:∀x q,N x=some q->bv (sur C (g.many N) σ' w') (g.many N).fp x):Rel C (g.many N) σ' a w':=by
 have hs:=Shift.many (C:=C) (g:=g) hb hN hσ hh fun x o h f hq b hbm=>((hf x o h f hq).2 b hbm).1
 have old:∀y b,b∈g.fp y->b<w.heap.size:=fun y b hm=>(R.alw y b hm).2
 have fpo:∀y,N y=none->(g.many N).fp y=g.fp y:=fun y hy=>by simp only[Gh.many,hy]
 have fpn:∀y o h f,N y=some (o,h,f)->(g.many N).fp y=f:=fun y o h f hy=>by simp only[Gh.many,hy]
 refine R.move ht hs (fun y=> ?_) (fun y=> ?_) (fun y z hyz b hy hz=> ?_) (fun y b hy=> ?_) (R.fr.below hb)
 · cases hy:N y with
   |some q=>exact ho y q hy
   |none=>
    refine(R.objs y).shift hs ?_ ?_ (fpo y hy) fun b hm=>hb.block b (old y b hm)
    · show σ'.obj y=σ.obj y
      rw[hσ,hy]
    · show(g.many N).hd y=g.hd y
      simp only[Gh.many,hy]
 · cases hy:N y with
   |some q=>obtain⟨o,h,f⟩:=q;rw[fpn y o h f hy];exact(hf y o h f hy).1
   |none=>rw[fpo y hy];exact R.own y
 · cases hy':N y with
   |some q=>
    obtain⟨o,h,f⟩:=q
    rw[fpn y o h f hy'] at hy
    cases hz':N z with
    |some q'=>
     obtain⟨o',h',f'⟩:=q'
     rw[fpn z o' h' f' hz'] at hz
     exact hd y z o h f o' h' f' hyz hy' hz' b hy hz
    |none=>
     rw[fpo z hz'] at hz
     have:=((hf y o h f hy').2 b hy).1
     have:=old z b hz
     omega
   |none=>
    rw[fpo y hy'] at hy
    cases hz':N z with
    |some q'=>
     obtain⟨o',h',f'⟩:=q'
     rw[fpn z o' h' f' hz'] at hz
     have:=((hf z o' h' f' hz').2 b hz).1
     have:=old y b hy
     omega
    |none=>
     rw[fpo z hz'] at hz
     exact R.apart y z hyz b hy hz
 · cases hy':N y with
   |some q=>
    obtain⟨o,h,f⟩:=q
    rw[fpn y o h f hy'] at hy
    have:=(hf y o h f hy').2 b hy
    exact⟨.inl (le_trans R.fr.size this.1),this.2⟩
   |none=>
    rw[fpo y hy'] at hy
    exact⟨(R.alw y b hy).1,lt_of_lt_of_le (R.alw y b hy).2 hb.size⟩
theorem Rel.below{C:Cx}{g:Gh}{σ:St}{a:Act}{w w':World}(R:Rel C g σ a w)(hb:Below w.heap.size w w'):Rel C g σ a w':=
 R.many (N:=fun _=>none) hb rfl (fun _ _ h=>by cases h) (fun _=>rfl) (fun _ _ _ _ h=>by cases h) (fun _ _ _ _ h=>by cases h) (fun _ _ _ _ _ _ _ _ _ h=>by cases h) (fun _ _ h=>by cases h)
def bU(w:World)(M:Nat->Nat->Prop)(e:TypeId)(ks:List K)(dp:Bool)(v:Value)(xs:List (List D))(F:List Nat):Prop:=
 ∃(vss:List (List Value)) (fps:List (List Nat)),w.ownsRow 0 e ks.length v xs.length vss.flatten∧xs.length<=al∧
    vss.length=xs.length∧fps.length=xs.length∧F=v.ownBlock.toList++fps.flatten∧
    (∀(i:Nat)(row:List D)(vs:List Value)(f:List Nat),xs[i]? =some row->vss[i]? =some vs->fps[i]? =some f->
      if dp then bj w ks vs row f else(aP w M ks vs row∧f=[]))
inductive RC where
 |im (k:K)
 |own (e:TypeId) (ks:List K) (dp:Bool)
 deriving Inhabited
def ch(w:World)(M:Nat->Nat->Prop):List RC->List Value->List D->List (List Nat)->Prop
 |[],vs,_,Fs=>vs=[]∧Fs=[]
 | .im k::cs,vs,ds,Fs=>∃v vs',vs=v::vs'∧bV w M k v (ds.headD default)∧ch w M cs vs' ds.tail Fs
 | .own e ks dp::cs,vs,ds,Fs=>∃v vs' F Fs',vs=v::vs'∧Fs=F::Fs'∧bU w M e ks dp v (ds.headD default).ae F∧ch w M cs vs' ds.tail Fs'
inductive ASh where
 |one (k:K)
 |agg (ks:List K)
 /-- a pointer to a row that nobody writes -/
 |pim (ks:List K)
 deriving Inhabited
inductive RSh where
 |one (c:RC)
 |agg (cs:List RC)
 deriving Inhabited
def kE(w:World)(M:Nat->Nat->Prop):ASh->Value->D->Prop
 | .one k,v,d=>bV w M k v d
 | .agg ks,v,d=>∃vs,v= .agg (toArray vs)∧aP w M ks vs d.row
 | .pim ks,v,d=>∃b o vs,v= .pointer (some ⟨b,o,none⟩)∧Row w b o vs∧(∀j,j<ks.length->¬M b (o+j))∧aP w M ks vs d.row
def fg(w:World)(M:Nat->Nat->Prop):List ASh->List Value->List D->Prop
 |[],vs,ds=>vs=[]∧ds=[]
 |s::ss,vs,ds=>∃v vs' d ds',vs=v::vs'∧ds=d::ds'∧kE w M s v d∧fg w M ss vs' ds'
end Go.Vx
namespace Go.Vx
open Go.RowKit (Below)
theorem bV.mono{w:World}{M M':Nat->Nat->Prop}(h:∀b o,M' b o->M b o) {k:K} {v:Value} {d:D} (hr:bV w M k v d):bV w M' k v d:=
 hr.keeps (fun _ _ _ hc hn=>⟨hc,fun hm=>hn (h _ _ hm)⟩)
theorem aP.mono{w:World}{M M':Nat->Nat->Prop}(h:∀b o,M' b o->M b o) {ks:List K} {vs:List Value} {ds:List D} (hr:aP w M ks vs ds):aP w M' ks vs ds:=
 hr.keeps (fun _ _ _ hc hn=>⟨hc,fun hm=>hn (h _ _ hm)⟩)
def RC.head:RC->Value->List Nat
 | .own _ _ _,v=>v.ownBlock.toList
 | .im _,_=>[]
def bD:List RC->List Value->List Nat
 |c::cs,v::vs=>c.head v++bD cs vs
 |_,_=>[]
def MeH(M:Nat->Nat->Prop)(hs:List Nat)(b o:Nat):Prop:=M b o∨b∈hs
def RSh.cells:RSh->List RC
 | .one c=>[c]
 | .agg cs=>cs
def RSh.mk:RSh->List Value->Value
 | .one _,vs=>vs.headD undef
 | .agg _,vs=>.agg vs.toArray
def RSh.ds(r:RSh)(d:D):List D:=match r with
 | .one _=>[d]
 | .agg cs=>(List.range cs.length).map fun j=>d.row.getD j default
def ky:List RSh->List Value->List Value
 |[],_=>[]
 |r::rs,vs=>r.mk (vs.take r.cells.length)::ky rs (vs.drop r.cells.length)
def jt(ax:List RSh)(vs:List Value):Value:=match ax with
 |[r]=>r.mk vs
 |rs=>.tuple (ky rs vs).toArray
def dG(φ:Nat->D):Nat->List RSh->List D
 |_,[]=>[]
 |c,r::rs=>r.ds (φ c)++dG φ (c+1) rs
def BS(P:Program)(f:FuncId)(args:List ASh)(ax:List RSh)(φ:Nat->List D->D):Prop:=
 ∀(w:World)(M:Nat->Nat->Prop)(vs:List Value)(ds:List D),(∀b o,M b o->b<w.heap.size)->glob P w->fg w M args vs ds->(φ 1000 ds).ZZ=true->
  Calls P f vs.toArray w fun e w'=>∃us Fs,e= .returned (jt ax us)∧Below w.heap.size w w'∧
   ch w' (MeH M (bD (ax.flatMap RSh.cells) us)) (ax.flatMap RSh.cells) us (dG (fun c=>φ c ds) 0 ax) Fs∧
   Fs.flatten.Nodup∧∀b,b∈Fs.flatten->w.heap.size<=b∧b<w'.heap.size
def Does(C:Cx)(a:Act)(w:World)(o:Oper)(u:AV)(σ':St):Prop:=
 ∀(next:Act->World->Prop)(Q:Exit->Act->World->Prop),(∀v w' g',bB (sur C g' σ' w') u v->Rel C g' σ' a w'->next (a.put o.dst v) w')->o.wp C.P a w next Q
theorem Did.does{C:Cx}{a:Act}{w:World}{o:Oper}{u:AV}{σ':St}(h:Did C a w o u σ'):Does C a w o u σ':=fun next Q hn=>by
 obtain⟨nx,w',g',h1,h2,h3⟩:=h
 unfold Oper.wp
 rw[h1]
 rcases h2 with ⟨v,rfl,h2⟩|⟨rfl,rfl⟩
 · exact hn v w' g' h2 h3
 · exact hn undef w' g' trivial h3
theorem ka{C:Cx}{g:Gh}{σ:St}{a:Act}{w:World}{o:Oper}(R:Rel C g σ a w){f:FuncId}{c:Call}{fn:Func}(hfn:C.P.funcs[f]? =some fn)(hb:fn.body≠none)
 (hname:fn.name≠ "runtime.NumGoroutine") (ho:o.op= .call c) (hc:c.callee= .value (.func f)) {u:AV} {σ':St}
 (h:Calls C.P f (c.args.map a.eval) w fun e w'=>∃v g',e= .returned v∧bB (sur C g' σ' w') u v∧Rel C g' σ' a w'):Does C a w o u σ':=fun next Q hn=>by
 unfold Oper.wp
 have he:(execOp a.eval o).run C.P w= .ok (.enter f (c.args.map a.eval)) w:=by
  simp[execOp,ho,resolve,hc,Act.eval,Deferred.ofValue,invoke,callFunc,hfn,hb,hname]
 rw[he,Oper.upon_enter]
 refine h.mono fun e w' ⟨v,g',he,h1,h2⟩=> ?_
 subst he
 exact hn v w' g' h1 h2
def WFD:K->D->Prop
 | .int k,d=>inR k d.ZY
 | .bool,_=>True
 | .str,d=>d.ao.size<=al
 | .sl _ _,d=>d.ae.length<=al
theorem bV.wf{w:World}{M:Nat->Nat->Prop}{k:K}{v:Value}{d:D}(h:bV w M k v d):WFD k d:=by
 cases k with
 |int k=>exact h.2
 |bool=>trivial
 |str=>exact h.2
 |sl e ks=>obtain⟨_,_,_,_,h,_⟩:=h;exact h
inductive XSh where
 |im (s:ASh)
 |one (c:RC)
 |agg (cs:List RC)
 deriving Inhabited
def kW(w:World)(M:Nat->Nat->Prop):List XSh->List Value->List D->List (List Nat)->Prop
 |[],vs,ds,Fs=>vs=[]∧ds=[]∧Fs=[]
 | .im sh::ss,vs,ds,Fs=>∃v vs' d ds',vs=v::vs'∧ds=d::ds'∧kE w M sh v d∧kW w M ss vs' ds' Fs
 | .one c::ss,vs,ds,Fs=>∃v vs' d ds' F Fs',vs=v::vs'∧ds=d::ds'∧Fs=F++Fs'∧ch w M [c] [v] [d] F∧kW w M ss vs' ds' Fs'
 | .agg cs::ss,vs,ds,Fs=>∃us vs' d ds' F Fs',vs= .agg (toArray us)::vs'∧ds=d::ds'∧Fs=F++Fs'∧ch w M cs us d.row F∧kW w M ss vs' ds' Fs'
def Gn:List RC->List Value->List (TypeId×List K×Value)
 | .own t ks _::cs,v::vs=>(t,ks,v)::Gn cs vs
 | .im _::cs,_::vs=>Gn cs vs
 |_,_=>[]
def zl:List XSh->List Value->List (TypeId×List K×Value)
 | .im _::ss,_::vs=>zl ss vs
 | .one c::ss,v::vs=>Gn [c] [v]++zl ss vs
 | .agg cs::ss,.agg us::vs=>Gn cs us.toList++zl ss vs
 |_,_=>[]
def uu(w w':World):Nat->List (TypeId×List K×Value)->(Nat->D)->List (List Nat)->Prop
 |_,[],_,Gs=>Gs=[]
 |n,(t,ks,v)::l,φ,Gs=>∃G Gs',Gs=G::Gs'∧mx w' (.sl t ks) v (.sl (φ n).ae) G∧(∀i j u,fK w ks v i j u->fK w' ks v i j u)∧uu w w' (n+1) l φ Gs'
def XSh.deep:XSh->Bool
 | .im _=>true
 | .one c=>match c with| .own _ _ dp=>dp|_=>true
 | .agg cs=>cs.all fun c=>match c with| .own _ _ dp=>dp|_=>true
def Hy(P:Program)(f:FuncId)(args:List XSh)(ax:List RSh)(φ:Nat->List D->D):Prop:=
 ∀(w:World)(M:Nat->Nat->Prop)(vs:List Value)(ds:List D)(Fs:List (List Nat)),(∀b o,M b o->b<w.heap.size∧b ∉ Fs.flatten)->(∀w',Fr w Fs.flatten w'->glob P w')->kW w (fun b o=>M b o∨b∈Fs.flatten) args vs ds Fs->
  Fs.flatten.Nodup->(∀b,b∈Fs.flatten->b<w.heap.size)->(φ 1000 ds).ZZ=true->
  Calls P f vs.toArray w fun e w'=>∃us Gs,e= .returned (jt ax us)∧Fr w Fs.flatten w'∧ch w' (fun _ _=>False) (ax.flatMap RSh.cells) us (dG (fun c=>φ c ds) 0 ax) []∧
   uu w w' 0 (zl args vs) (fun n=>φ (2000+n) ds) Gs∧Gs.flatten.Nodup∧∀b,b∈Gs.flatten->(w.heap.size<=b∨b∈Fs.flatten)∧b<w'.heap.size
end Go.Vx
namespace Go.Vx
open Go.RowKit (Below)
def jP(s:SSt)(k:K)(c:SC):Option (E×Bool):=match c with
 | .dat k' e=>bif K.eqb k' k then some (e,false) else none
 | .nil t ks=>bif K.eqb (.sl t ks) k then some (.nl,false) else none
 | .ref z p=>match s.obj z with
   |some (.arr t ks _ xs)=>bif K.eqb (.sl t ks) k then some (rp xs p,true) else none
   |some (.sealed t ks xs)=>bif K.eqb (.sl t ks) k then some (rp xs p,false) else none
   |some (.arx t ks xs)=>bif K.eqb (.sl t ks) k&&p.isNone then some (.op .asl [xs],true) else none
   |_=>none
 | .dead=>none
def eQ(s:SSt):List K->List SC->Option (List E×Bool)
 |[],[]=>some ([],false)
 |k::ks,c::cs=>match jP s k c,eQ s ks cs with
  |some (e,b),some (es,b')=>some (e::es,b||b')
  |_,_=>none
 |_,_=>none
def wd(e:E):Nat->List E->Bool
 |_,[]=>true
 |j,.op (.fld i) [e']::es=>i==j&&(E.eqb e e'&&wd e (j+1) es)
 |_,_=>false
def FK(es:List E):E:=match es with
 | .op (.fld 0) [e]::_=>bif wd e 0 es then e else .op .mk es
 |_=>.op .mk es
def rb(T:TypeId->TI)(s:SSt)(ty:TypeId)(x:Operand):ASh->Option (E×Bool)
 | .one k=>match sev T ty s x with
   | .one c=>jP s k c
   |_=>none
 | .agg ks=>match sev T ty s x with
   | .agg cs=>match eQ s ks cs with
     |some (es,b)=>some (FK es,b)
     |none=>none
   |_=>none
 | .pim _=>none
def lN(T:TypeId->TI)(s:SSt):List ASh->List TypeId->List Operand->Option (List E×Bool)
 |[],[],[]=>some ([],false)
 |h::hs,t::ts,x::xs=>match rb T s t x h,lN T s hs ts xs with
  |some (e,b),some (es,b')=>some (e::es,b||b')
  |_,_=>none
 |_,_,_=>none
def gP(live:Bool)(me:Nat->Nat->Prop)(b o:Nat):Prop:=live=false∧me b o
theorem mv{l l':Bool}{me:Nat->Nat->Prop}{b o:Nat}(h:gP (l||l') me b o):gP l me b o∧gP l' me b o:=by
 obtain⟨h1,h2⟩:=h
 simp only[Bool.or_eq_false_iff] at h1
 exact⟨⟨h1.1,h2⟩,⟨h1.2,h2⟩⟩
theorem kE.mono{w:World}{M M':Nat->Nat->Prop}(h:∀b o,M' b o->M b o) {sh:ASh} {v:Value} {d:D} (hr:kE w M sh v d):kE w M' sh v d:=by
 cases sh with
 |one k=>exact bV.mono h hr
 |agg ks=>obtain⟨vs,e,hr⟩:=hr;exact⟨vs,e,hr.mono h⟩
 |pim ks=>obtain⟨b,o,vs,e,h1,h2,hr⟩:=hr;exact⟨b,o,vs,e,h1,fun j hj hm=>h2 j hj (h _ _ hm),hr.mono h⟩
theorem fg.mono{w:World}{M M':Nat->Nat->Prop}(h:∀b o,M' b o->M b o):∀{ss:List ASh}{vs:List Value}{ds:List D},fg w M ss vs ds->fg w M' ss vs ds
 |[],_,_,hr=>hr
 |_::_,_,_,⟨v,vs',d,ds',e1,e2,h1,h2⟩=>⟨v,vs',d,ds',e1,e2,h1.mono h,fg.mono h h2⟩
section
variable {Φ:Fns} {env:List D} {C:Cx} {g:Gh} {s:SSt} {a:Act} {w:World} {o:Oper}
theorem r7(R:Rel C g (s.den Φ env) a w){k:K}{c:SC}{v:Value}(hv:iN (sur C g (s.den Φ env) w) (c.den Φ env) v){e:E}{b:Bool}(h:jP s k c=some (e,b)):
 bV w (gP b (Me C.M (s.den Φ env).obj g.hd g.fp)) k v (e.den Φ env):=by
 have weak:∀(b:Bool)(c o:Nat),gP b (Me C.M (s.den Φ env).obj g.hd g.fp) c o->Me C.M (s.den Φ env).obj g.hd g.fp c o:=fun _ _ _ h=>h.2
 cases c with
 |dat k' e'=>
  obtain⟨h1,h2⟩:=ak h
  have h3:=K.aY h1
  subst h3
  simp only[Option.some.injEq,Prod.mk.injEq] at h2
  obtain⟨rfl,rfl⟩:=h2
  exact bV.mono (weak _) hv
 |nil t ks=>
  obtain⟨h1,h2⟩:=ak h
  have h3:=K.aY h1
  subst h3
  simp only[Option.some.injEq,Prod.mk.injEq] at h2
  obtain⟨rfl,rfl⟩:=h2
  have:=iN.dn hv
  exact bV.mono (weak _) this
 |ref z p=>
  simp only[jP] at h
  have hr:aB (sur C g (s.den Φ env) w) z (jK Φ env p) v:=hv
  split at h
  · rename_i t ks dp xs hz
    obtain⟨h1,h2⟩:=ak h
    have h3:=K.aY h1
    subst h3
    simp only[Option.some.injEq,Prod.mk.injEq] at h2
    obtain⟨rfl,rfl⟩:=h2
    rw[eV]
    exact R.ue (aT hz) hr _ (fun _ _ _ hc hn=>⟨hc,fun hm=>by cases hm.1⟩) (fun _ _ _ hm=>by cases hm.1)
  · rename_i t ks xs hz
    obtain⟨h1,h2⟩:=ak h
    have h3:=K.aY h1
    subst h3
    simp only[Option.some.injEq,Prod.mk.injEq] at h2
    obtain⟨rfl,rfl⟩:=h2
    rw[eV]
    unfold aB at hr
    have ho:(sur C g (s.den Φ env) w).obj z=_:=aT (Φ:=Φ) (env:=env) hz
    rw[ho] at hr
    exact bV.mono (weak _) hr.2
  · rename_i t ks xs hz
    obtain⟨h1,h2⟩:=ak h
    simp only[and_eq_true] at h1
    have h3:=K.aY h1.1
    subst h3
    have hp:p=none:=by simpa using h1.2
    subst hp
    simp only[Option.some.injEq,Prod.mk.injEq] at h2
    obtain⟨rfl,rfl⟩:=h2
    have ho:(sur C g (s.den Φ env) w).obj z=_:=aT (Φ:=Φ) (env:=env) hz
    unfold aB at hr
    rw[ho] at hr
    have hv:v=g.hd z:=hr
    subst hv
    exact(R.yV (aT hz)).toC fun _ _ _ hm=>by cases hm.1
  · cases h
 |dead=>simp[jP] at h
theorem uT(R:Rel C g (s.den Φ env) a w):∀{ks:List K}{cs:List SC}{vs:List Value}{es:List E}{b:Bool},aE (sur C g (s.den Φ env) w) (cs.map (SC.den Φ env)) vs->eQ s ks cs=some (es,b)->
 aP w (gP b (Me C.M (s.den Φ env).obj g.hd g.fp)) ks vs (es.map (E.den Φ env))
 |[],[],vs,es,b,hv,h=>by simp only[eQ,Option.some.injEq,Prod.mk.injEq] at h;obtain⟨rfl,rfl⟩:=h;exact hv
 |[],_::_,_,_,_,_,h=>by simp[eQ] at h
 |_::_,[],_,_,_,_,h=>by simp[eQ] at h
 |k::ks,c::cs,vs,es,b,hv,h=>by
  obtain⟨v,vs',rfl,_,hc,hr⟩:=hv
  simp only[eQ] at h
  split at h
  · rename_i e b1 es1 b2 h1 h2
    simp only[Option.some.injEq,Prod.mk.injEq] at h
    obtain⟨rfl,rfl⟩:=h
    exact⟨v,vs',rfl,bV.mono (fun _ _ hm=>(mv hm).1) (r7 R hc h1),aP.mono (fun _ _ hm=>(mv hm).2) (uT R hr h2)⟩
  · cases h
theorem aP.ext{w:World}{M:Nat->Nat->Prop}:∀{ks:List K}{vs:List Value}{ds ds':List D},aP w M ks vs ds->(∀j,j<ks.length->ds.getD j default=ds'.getD j default)->aP w M ks vs ds'
 |[],_,_,_,h,_=>h
 |k::ks,vs,ds,ds',h,he=>by
  obtain⟨v,vs',e,hc,hr⟩:=h
  have h0:ds.headD default=ds'.headD default:=by
   have:=he 0 (by simp)
   simp only[List.headD_eq_head?_getD,getD_eq_getElem?_getD,List.head?_eq_getElem?] at this⊢
   exact this
  refine⟨v,vs',e,by rw[<-h0];exact hc,hr.ext fun j hj=> ?_⟩
  have:=he (j+1) (by simpa using hj)
  simp only[getD_eq_getElem?_getD,getElem?_tail] at this⊢
  exact this
theorem pt:∀{ks:List K}{cs:List SC}{es:List E}{b:Bool},eQ s ks cs=some (es,b)->es.length=ks.length
 |[],[],es,b,h=>by simp only[eQ,Option.some.injEq,Prod.mk.injEq] at h;obtain⟨rfl,rfl⟩:=h;rfl
 |[],_::_,_,_,h=>by simp[eQ] at h
 |_::_,[],_,_,h=>by simp[eQ] at h
 |k::ks,c::cs,es,b,h=>by
  simp only[eQ] at h
  split at h
  · rename_i e b1 es1 b2 h1 h2
    simp only[Option.some.injEq,Prod.mk.injEq] at h
    obtain⟨rfl,rfl⟩:=h
    simp[pt h2]
  · cases h
theorem vm{e:E}:∀{es:List E}{j:Nat},wd e j es=true->∀i,i<es.length->(es.map (E.den Φ env)).getD i default=(e.den Φ env).row.getD (j+i) default
 |[],_,_,i,hi=>by simp at hi
 |x::es,j,h,i,hi=>by
  unfold wd at h
  split at h
  · rename_i heq;cases heq
  · rename_i j' i' e' es' heq
    simp only[List.cons.injEq] at heq
    obtain⟨rfl,rfl⟩:=heq
    simp only[and_eq_true,beq_iff_eq] at h
    obtain⟨rfl,h2,h3⟩:=h
    have h4:=E.aY h2
    subst h4
    cases i with
    |zero=>simp[E.den,E.bC,opD]
    |succ i=>
     have:=vm h3 i (by simpa using hi)
     simp only[map_cons,getD_cons_succ]
     rw[this]
     congr 1
     omega
  · cases h
theorem og(es:List E)(i:Nat)(hi:i<es.length):(es.map (E.den Φ env)).getD i default=((FK es).den Φ env).row.getD i default:=by
 unfold FK
 split
 · rename_i e es'
   cases hf:wd e 0 (.op (.fld 0) [e]::es') with
   |true=>
    simp only[cond_true]
    have:=vm (Φ:=Φ) (env:=env) hf i hi
    rwa[Nat.zero_add] at this
   |false=>simp[E.den,E.ck,opD,D.row,D.ae]
 · simp[E.den,E.ck,opD,D.row,D.ae]
theorem Ag(R:Rel C g (s.den Φ env) a w){ty:TypeId}{x:Operand}{sh:ASh}{e:E}{b:Bool}(h:rb C.T s ty x sh=some (e,b)):
 kE w (gP b (Me C.M (s.den Φ env).obj g.hd g.fp)) sh (a.eval x) (e.den Φ env):=by
 have hr:=bG R ty x
 cases sh with
 |one k=>
  simp only[rb] at h
  split at h
  · rename_i c hx
    rw[cd hx] at hr
    exact r7 R hr.1 h
  · cases h
 |agg ks=>
  simp only[rb] at h
  split at h
  · rename_i cs hx
    rw[cd hx] at hr
    obtain⟨vs,e1,hr⟩:=hr
    split at h
    · rename_i es b1 h1
      simp only[Option.some.injEq,Prod.mk.injEq] at h
      obtain⟨rfl,rfl⟩:=h
      refine⟨vs,e1,?_⟩
      have:=uT R hr h1
      exact this.ext fun j hj=>og es j (by rw[pt h1];exact hj)
    · cases h
  · cases h
 |pim ks=>simp[rb] at h
theorem rU(R:Rel C g (s.den Φ env) a w):∀{hs:List ASh}{ts:List TypeId}{xs:List Operand}{es:List E}{b:Bool},lN C.T s hs ts xs=some (es,b)->
 fg w (gP b (Me C.M (s.den Φ env).obj g.hd g.fp)) hs (xs.map a.eval) (es.map (E.den Φ env))
 |[],[],[],es,b,h=>by simp only[lN,Option.some.injEq,Prod.mk.injEq] at h;obtain⟨rfl,rfl⟩:=h;exact⟨rfl,rfl⟩
 |h::hs,t::ts,x::xs,es,b,hh=>by
  simp only[lN] at hh
  split at hh
  · rename_i e b1 es1 b2 h1 h2
    simp only[Option.some.injEq,Prod.mk.injEq] at hh
    obtain⟨rfl,rfl⟩:=hh
    exact⟨_,_,_,_,rfl,rfl,kE.mono (fun _ _ hm=>(mv hm).1) (Ag R h1),fg.mono (fun _ _ hm=>(mv hm).2) (rU R h2)⟩
  · cases hh
 |[],[],_::_,_,_,h=>by simp[lN] at h
 |[],_::_,_,_,_,h=>by simp[lN] at h
 |_::_,[],_,_,_,h=>by simp[lN] at h
 |_::_,_::_,[],_,_,h=>by simp[lN] at h
end
end Go.Vx
namespace Go.Vx
open Go.RowKit (Below)
def iu:Nat->List RC->List E->List SC
 |key,.im k::cs,e::es=>.dat k e::iu (key+1) cs es
 |key,.own _ _ _::cs,_::es=>.ref key none::iu (key+1) cs es
 |_,_,_=>[]
def mkO(ex:Bool)(t:TypeId)(ks:List K)(dp:Bool)(e:E):SOb:=bif ex&&dp then .arx t ks e else .arr t ks dp e
def Bb(ex:Bool)(t:TypeId)(ks:List K)(dp:Bool)(xs:List (List D)):Ob:=bif ex&&dp then .arx t ks xs else .arr t ks dp xs
def cM(ex:Bool):Nat->List RC->List E->List (Nat×SOb)
 |key,.im _::cs,_::es=>cM ex (key+1) cs es
 |key,.own t ks dp::cs,e::es=>(key,mkO ex t ks dp e)::cM ex (key+1) cs es
 |_,_,_=>[]
def fv(ex:Bool):Nat->List RC->List Value->List D->List (List Nat)->New
 |key,.im _::cs,_::vs,ds,Fs,x=>fv ex (key+1) cs vs ds.tail Fs x
 |key,.own t ks dp::cs,v::vs,ds,F::Fs,x=>if x=key then some (Bb ex t ks dp (ds.headD default).ae,v,F) else fv ex (key+1) cs vs ds.tail Fs x
 |_,_,_,_,_,_=>none
theorem KY(ex:Bool)(t:TypeId)(ks:List K)(dp:Bool)(e:E){Φ:Fns}{env:List D}:(mkO ex t ks dp e).den Φ env=Bb ex t ks dp (e.den Φ env).ae:=by
 unfold mkO Bb
 cases ex&&dp<;>rfl
theorem eU{ex:Bool}{w:World}{M:Nat->Nat->Prop}:∀(cs:List RC){key:Nat}{vs:List Value}{ds:List D}{Fs:List (List Nat)},ch w M cs vs ds Fs->∀{x:Nat}{o:Ob}{h:Value}{f:List Nat},
 fv ex key cs vs ds Fs x=some (o,h,f)->key<=x∧(∃t ks dp xs,o=Bb ex t ks dp xs∧bU w M t ks dp h xs f)∧f∈Fs∧∀b,h.ownBlock=some b->b∈bD cs vs
 |[],key,vs,ds,Fs,_,x,o,h,f,hn=>by simp[fv] at hn
 | .im k::cs,key,vs,ds,Fs,hr,x,o,h,f,hn=>by
   obtain⟨v,vs',rfl,_,hr⟩:=hr
   simp only[fv] at hn
   obtain⟨q1,q2,q3,q4⟩:=eU cs hr hn
   exact⟨by omega,q2,q3,fun b hb=>by simpa[bD,RC.head] using q4 b hb⟩
 | .own t ks dp::cs,key,vs,ds,Fs,hr,x,o,h,f,hn=>by
   obtain⟨v,vs',F,Fs',rfl,rfl,ho,hr⟩:=hr
   simp only[fv] at hn
   split at hn
   · rename_i hx
     simp only[Option.some.injEq,Prod.mk.injEq] at hn
     obtain⟨rfl,rfl,rfl⟩:=hn
     exact⟨by omega,⟨t,ks,dp,_,rfl,ho⟩,by simp,fun b hb=>by simp[bD,RC.head,hb]⟩
   · obtain⟨q1,q2,q3,q4⟩:=eU cs hr hn
     exact⟨by omega,q2,by simp[q3],fun b hb=>by simp only[bD,mem_append];exact .inr (q4 b hb)⟩
theorem pL{ex:Bool}{w:World}{M:Nat->Nat->Prop}:∀(cs:List RC){key:Nat}{vs:List Value}{ds:List D}{Fs:List (List Nat)},ch w M cs vs ds Fs->Fs.flatten.Nodup->∀{x y:Nat}{o o':Ob}{h h':Value}{f f':List Nat},
 x≠y->fv ex key cs vs ds Fs x=some (o,h,f)->fv ex key cs vs ds Fs y=some (o',h',f')->∀b,b∈f->b ∉ f'
 |[],key,vs,ds,Fs,_,_,x,y,o,o',h,h',f,f',_,hn,_=>by simp[fv] at hn
 | .im k::cs,key,vs,ds,Fs,hr,hd,x,y,o,o',h,h',f,f',hxy,hn,hn'=>by
   obtain⟨v,vs',rfl,_,hr⟩:=hr
   simp only[fv] at hn hn'
   exact pL cs hr hd hxy hn hn'
 | .own t ks dp::cs,key,vs,ds,Fs,hr,hd,x,y,o,o',h,h',f,f',hxy,hn,hn'=>by
   obtain⟨v,vs',F,Fs',rfl,rfl,ho,hr⟩:=hr
   rw[flatten_cons] at hd
   obtain⟨d1,d2,d3⟩:=nodup_append.1 hd
   simp only[fv] at hn hn'
   split at hn
   · rename_i hx
     simp only[Option.some.injEq,Prod.mk.injEq] at hn
     obtain⟨rfl,rfl,rfl⟩:=hn
     rw[if_neg (by omega)] at hn'
     have:=(eU cs hr hn').2.2.1
     exact fun b hb hb'=>d3 b hb b (mem_flatten.2 ⟨_,this,hb'⟩) rfl
   · split at hn'
     · simp only[Option.some.injEq,Prod.mk.injEq] at hn'
       obtain⟨rfl,rfl,rfl⟩:=hn'
       have:=(eU cs hr hn).2.2.1
       exact fun b hb hb'=>d3 b hb' b (mem_flatten.2 ⟨_,this,hb⟩) rfl
     · exact pL cs hr d2 hxy hn hn'
theorem px{ex:Bool}:∀(cs:List RC)(key:Nat)(es:List E)(x:Nat),x<key->((cM ex key cs es).all fun p=> !(p.1==x))=true
 |[],_,_,_,_=>by simp[cM]
 | .im k::cs,key,[],_,_=>by simp[cM]
 | .own t ks dp::cs,key,[],_,_=>by simp[cM]
 | .im k::cs,key,e::es,x,h=>by simp only[cM];exact px cs (key+1) es x (by omega)
 | .own t ks dp::cs,key,e::es,x,h=>by
   simp only[cM,all_cons,and_eq_true,not_eq_true',beq_eq_false_iff_ne,ne_eq]
   exact⟨by omega,px cs (key+1) es x (by omega)⟩
theorem SSt.fD:∀(l:List (Nat×SOb))(s:SSt),(s.bg l).tmps=s.tmps
 |[],_=>rfl
 |(x,o)::l,s=>by rw[show s.bg ((x,o)::l)=(s.aU x o).bg l from rfl,SSt.fD l];rfl
section
variable {Φ:Fns} {env:List D}
theorem sI{ex:Bool}{w:World}{M:Nat->Nat->Prop}:∀(cs:List RC){key:Nat}{vs:List Value}{es:List E}{Fs:List (List Nat)}(s:SSt),ch w M cs vs (es.map (E.den Φ env)) Fs->es.length=cs.length->∀x,
 ((s.bg (cM ex key cs es)).den Φ env).obj x=match fv ex key cs vs (es.map (E.den Φ env)) Fs x with|some (o,_,_)=>some o|none=>(s.den Φ env).obj x
 |[],key,vs,es,Fs,s,_,_,x=>by simp[cM,fv,SSt.bg]
 | .im k::cs,key,vs,[],Fs,s,_,hl,x=>by simp at hl
 | .own t ks dp::cs,key,vs,[],Fs,s,_,hl,x=>by simp at hl
 | .im k::cs,key,vs,e::es,Fs,s,hr,hl,x=>by
   obtain⟨v,vs',rfl,_,hr⟩:=hr
   simp only[cM,fv,map_cons,tail_cons]
   exact sI cs s hr (by simpa using hl) x
 | .own t ks dp::cs,key,vs,e::es,Fs,s,hr,hl,x=>by
   obtain⟨v,vs',F,Fs',rfl,rfl,ho,hr⟩:=hr
   simp only[cM,fv,map_cons,tail_cons,headD_cons]
   rw[show s.bg ((key,mkO ex t ks dp e)::cM ex (key+1) cs es)=(s.aU key (mkO ex t ks dp e)).bg (cM ex (key+1) cs es) from rfl]
   by_cases hx:x=key
   · subst hx
     rw[if_pos rfl,wz _ _ _ (px cs (x+1) es x (by omega)),SSt.bK,St.ap,if_pos rfl,KY]
   · rw[if_neg hx,sI cs _ hr (by simpa using hl) x,SSt.bK,St.ap,if_neg hx]
theorem kO{ex:Bool}{w:World}{M:Nat->Nat->Prop}{S:Sur}(hw:S.w=w)(hM:S.me=M):∀(cs:List RC){key:Nat}{vs:List Value}{es:List E}{Fs:List (List Nat)},ch w M cs vs (es.map (E.den Φ env)) Fs->es.length=cs.length->
 (∀x o h f,fv ex key cs vs (es.map (E.den Φ env)) Fs x=some (o,h,f)->S.obj x=some o∧S.hd x=h)->aE S ((iu key cs es).map (SC.den Φ env)) vs
 |[],key,vs,es,Fs,hr,hl,_=>by
  have:es=[]:=List.eq_nil_of_length_eq_zero hl
  subst this
  simp only[iu,map_nil]
  exact hr.1
 | .im k::cs,key,vs,[],Fs,_,hl,_=>by simp at hl
 | .own t ks dp::cs,key,vs,[],Fs,_,hl,_=>by simp at hl
 | .im k::cs,key,vs,e::es,Fs,hr,hl,hN=>by
   obtain⟨v,vs',rfl,hc,hr⟩:=hr
   simp only[fv,map_cons,tail_cons] at hN
   refine⟨v,vs',rfl,hc.jU,?_,kO hw hM cs hr (by simpa using hl) hN⟩
   show bV S.w S.me k v _
   rw[hw,hM]
   exact hc
 | .own t ks dp::cs,key,vs,e::es,Fs,hr,hl,hN=>by
   obtain⟨v,vs',F,Fs',rfl,rfl,ho,hr⟩:=hr
   simp only[fv,map_cons,tail_cons,headD_cons] at hN
   obtain⟨h1,h2⟩:=hN key _ _ _ (if_pos rfl)
   refine⟨v,vs',rfl,?_,?_,kO (ex:=ex) hw hM cs hr (by simpa using hl) fun x o h f hx=> ?_⟩
   · obtain⟨vss,fps,hown,_⟩:=ho
     rcases be hown with ⟨e1,_⟩|⟨b,c,e1,_⟩<;>rw[e1]<;>rfl
   · show aB S key none v
     unfold aB
     rw[h1]
     unfold Bb
     cases ex&&dp with
     |true=>exact h2.symm
     |false=>exact⟨trivial,h2.symm⟩
   · refine hN x o h f ?_
     have:=(eU cs hr hx).1
     rw[if_neg (by omega)]
     exact hx
end
def RC.solid:RC->Bool
 | .im k=>k.plain
 | .own _ ks dp=>dp||eO ks
theorem bV.Du{w:World}{M M':Nat->Nat->Prop}{k:K}{v:Value}{d:D}(h:bV w M k v d)(hp:k.plain=true):bV w M' k v d:=by
 cases k with
 |sl _ _=>simp[K.plain] at hp
 |_=>exact h
theorem bU.to{w:World}{M M':Nat->Nat->Prop}{t:TypeId}{ks:List K}{dp:Bool}{v:Value}{xs:List (List D)}{F:List Nat}(h:bU w M t ks dp v xs F)
 (hm:(∀b o,M' b o->M b o)∨(dp||eO ks)=true):bU w M' t ks dp v xs F:=by
 obtain⟨vss,fps,h1,h2,h3,h4,h5,h6⟩:=h
 refine⟨vss,fps,h1,h2,h3,h4,h5,fun i row vs f e1 e2 e3=> ?_⟩
 have:=h6 i row vs f e1 e2 e3
 split at this
 · rename_i hd;rw[if_pos hd];exact this
 · rename_i hd
   rw[if_neg hd]
   refine⟨?_,this.2⟩
   rcases hm with hm|hm
   · exact this.1.mono hm
   · simp only[Bool.not_eq_true] at hd
     rw[hd,Bool.false_or] at hm
     exact(this.1.plain hm).toC (fun b hb=>by simp at hb)
theorem ch.to{w:World}{M M':Nat->Nat->Prop}:∀{cs:List RC}{vs:List Value}{ds:List D}{Fs:List (List Nat)},ch w M cs vs ds Fs->((∀b o,M' b o->M b o)∨cs.all RC.solid=true)->ch w M' cs vs ds Fs
 |[],_,_,_,h,_=>h
 | .im k::cs,_,_,_,⟨v,vs',e,hc,hr⟩,hm=>⟨v,vs',e,by
    rcases hm with hm|hm
    · exact hc.mono hm
    · simp only[all_cons,and_eq_true] at hm
      exact hc.Du hm.1,hr.to (hm.imp id fun h=>by simp only[all_cons,and_eq_true] at h;exact h.2)⟩
 | .own t ks dp::cs,_,_,_,⟨v,vs',F,Fs',e1,e2,ho,hr⟩,hm=>⟨v,vs',F,Fs',e1,e2,ho.to (hm.imp id fun h=>by simp only[all_cons,and_eq_true] at h;exact h.1),
    hr.to (hm.imp id fun h=>by simp only[all_cons,and_eq_true] at h;exact h.2)⟩
end Go.Vx
namespace Go.Vx
open Go.RowKit (Below)
theorem Fr.trans{w0 w w':World}{X F:List Nat}(h:Fr w0 X w)(h':Fr w F w')(hF:∀b,b∈F->w0.heap.size<=b∨b∈X):Fr w0 X w':=
 ⟨h'.os.trans h.os,h'.tape.trans h.tape,h'.output.trans h.output,le_trans h.size h'.size,fun k hk hx=>by
  have:k ∉ F:=fun hf=>by
   rcases hF k hf with q|q
   · omega
   · exact hx q
  rw[h'.block k (lt_of_lt_of_le hk h.size) this]
  exact h.block k hk hx⟩
inductive Turn (σ:St) (g:Gh) (σ':St) (g':Gh) (w w':World) (x:Nat):Prop where
 |new (h:σ.obj x=none) (o:Ob) (h':σ'.obj x=some o)
 |gone (h:σ'.obj x=some .gone)
 |box (T:TypeId) (cs:List AC) (h:σ.obj x=some (.box T cs)) (T':TypeId) (cs':List AC) (h':σ'.obj x=some (.box T' cs')) (hh:g'.hd x=g.hd x)
 |arr (t:TypeId) (ks:List K) (dp:Bool) (xs:List (List D)) (h:σ.obj x=some (.arr t ks dp xs)) (xs':List (List D)) (h':σ'.obj x=some (.arr t ks dp xs')) (hh:g'.hd x=g.hd x) (hl:xs'.length=xs.length)
 |pin (t:TypeId) (ks:List K) (xs:List (List D)) (h:σ.obj x=some (.arx t ks xs)) (xs':List (List D)) (h':σ'.obj x=some (.arx t ks xs')) (hh:g'.hd x=g.hd x)
   (hl:∀i j u,fK w ks (g.hd x) i j u->fK w' ks (g.hd x) i j u)
section
variable {C:Cx} {g:Gh} {σ:St} {a:Act} {w:World}
theorem Rel.turn(R:Rel C g σ a w){σ':St}{g':Gh}{w':World}{X:List Nat}(Z:Nat->Prop)(hfr:Fr w X w')(ht:σ'.tmps=σ.tmps)
 (hX:∀b,b∈X->(∀o,Me C.M σ.obj g.hd g.fp b o)∧(C.w0.heap.size<=b∨b∈C.X))
 (hout:∀x,¬Z x->σ'.obj x=σ.obj x∧g'.hd x=g.hd x∧g'.fp x=g.fp x∧∀b,b∈g.fp x->b ∉ X)
 (hin:∀x,Z x->Turn σ g σ' g' w w' x)
 (hrep:Shift (sur C g σ w) (sur C g' σ' w')->∀x,Z x->bv (sur C g' σ' w') g'.fp x)
 (hme:∀x,Z x->∀b o,(Ob.live (σ'.obj x)=true∧bq (g'.hd x)=some b∨Ob.isX (σ'.obj x)=true∧b∈g'.fp x)->Me C.M σ.obj g.hd g.fp b o∨w.heap.size<=b)
 (hnd:∀x,Z x->(g'.fp x).Nodup)
 (hfp:∀x,Z x->∀b,b∈g'.fp x->((∃z,Z z∧b∈g.fp z)∨w.heap.size<=b)∧b<w'.heap.size)
 (hap:∀x y,Z x->Z y->x≠y->∀b,b∈g'.fp x->b ∉ g'.fp y):Rel C g' σ' a w':=by
 have hcell:∀b o,b<w.heap.size->b ∉ X->w'.cell? ⟨b,o,none⟩=w.cell? ⟨b,o,none⟩:=fun b o hb hn=>World.cell?_of_block (w:=w) (a:=⟨b,o,none⟩) (hfr.block b hb hn)
 have hkeep:Keeps w (Me C.M σ.obj g.hd g.fp) w' (Me C.M σ'.obj g'.hd g'.fp):=fun b o v hc hn=>by
  have hlt:=fw hc
  have hnX:b ∉ X:=fun hb=>hn ((hX b hb).1 o)
  refine⟨by rw[hcell b o hlt hnX];exact hc,?_⟩
  rintro(hM|⟨x,hl,hx⟩|⟨x,hl,hx⟩)
  · exact hn (.inl hM)
  · by_cases hz:Z x
    · rcases hme x hz b o (.inl ⟨hl,hx⟩) with q|q
      · exact hn q
      · omega
    · obtain⟨h1,h2,_⟩:=hout x hz
      rw[h1] at hl;rw[h2] at hx
      exact hn (.inr (.inl ⟨x,hl,hx⟩))
  · by_cases hz:Z x
    · rcases hme x hz b o (.inr ⟨hl,hx⟩) with q|q
      · exact hn q
      · omega
    · obtain⟨h1,_,h2,_⟩:=hout x hz
      rw[h1] at hl;rw[h2] at hx
      exact hn (.inr (.inr ⟨x,hl,hx⟩))
 have hs:Shift (sur C g σ w) (sur C g' σ' w'):=by
  refine⟨hkeep,fun x p v h=> ?_,fun x i j v h=> ?_,fun x i j v h=> ?_,fun x o h=> ?_⟩
  · unfold aB at h⊢
    simp only[sur] at h⊢
    by_cases hz:Z x
    · cases hin x hz with
      |new h0 o h'=>rw[h0] at h;exact h.elim
      |gone h'=>rw[h'];trivial
      |box T cs h0 T' cs' h' hh=>rw[h0] at h;exact h.elim
      |arr t ks dp xs h0 xs' h' hh hl=>
       rw[h0] at h
       rw[h',hh]
       refine⟨?_,h.2⟩
       cases p with
       |none=>trivial
       |some p=>simp only[Ai,hl];exact h.1
      |pin t ks xs h0 xs' h' hh hl=>
       rw[h0] at h
       rw[h']
       cases p with
       |none=>simp only at h⊢;rw[hh];exact h
       |some p=>trivial
    · obtain⟨h1,h2,_⟩:=hout x hz
      rw[h1,h2]
      cases he:σ.obj x with
      |none=>rw[he] at h;exact h
      |some q=>
       rw[he] at h
       cases q with
       |«sealed» _ _ _=>exact⟨h.1,h.2.keeps hkeep⟩
       |_=>exact h
  · unfold aV at h⊢
    simp only[sur] at h⊢
    by_cases hz:Z x
    · cases hin x hz with
      |new h0 o h'=>rw[h0] at h;exact h.elim
      |gone h'=>rw[h'];trivial
      |box T cs h0 T' cs' h' hh=>rw[h0] at h;rw[h',hh];exact h
      |arr t ks dp xs h0 xs' h' hh hl=>rw[h0] at h;rw[h',hh];exact h
      |pin t ks xs h0 xs' h' hh hl=>rw[h0] at h;rw[h',hh];exact h
    · obtain⟨h1,h2,_⟩:=hout x hz
      rw[h1,h2];exact h
  · by_cases hz:Z x
    · unfold cB at h⊢
      simp only[sur] at h⊢
      cases hin x hz with
      |new h0 o h'=>rw[h0] at h;exact h.elim
      |gone h'=>rw[h'];trivial
      |box T cs h0 T' cs' h' hh=>rw[h'];trivial
      |arr t ks dp xs h0 xs' h' hh hl=>rw[h'];trivial
      |pin t ks xs h0 xs' h' hh hl=>rw[h0] at h;rw[h',hh];exact hl i j v h
    · obtain⟨h1,h2,_,h4⟩:=hout x hz
      unfold cB at h⊢
      simp only[sur] at h⊢
      rw[h1,h2]
      cases he:σ.obj x with
      |none=>rw[he] at h;exact h
      |some q=>
       rw[he] at h
       cases q with
       |arx t ks xs=>
        refine fK.keep h fun b o u hu hb=> ?_
        have hm:b∈g.fp x:=R.Gj (by rw[he];rfl) hb
        rw[hcell b o (fw hu) (h4 b hm)]
        exact hu
       |_=>trivial
  · simp only[sur] at h
    by_cases hz:Z x
    · cases hin x hz with
      |new h0 o' h'=>rw[h0] at h;cases h
      |gone h'=>exact⟨_,by simp only[sur];exact h',fun e ks xs' e1=>by cases e1⟩
      |box T cs h0 T' cs' h' hh=>exact⟨_,by simp only[sur];exact h',fun e ks xs' e1=>by cases e1⟩
      |arr t ks dp xs h0 xs' h' hh hl=>exact⟨_,by simp only[sur];exact h',fun e ks xs' e1=>by cases e1⟩
      |pin t ks xs h0 xs' h' hh hl=>
       rw[h0] at h
       simp only[Option.some.injEq] at h
       subst h
       refine⟨_,by simp only[sur];exact h',fun e ks2 ys e1=>⟨⟨xs,?_⟩,hh⟩⟩
       simp only[Ob.arx.injEq] at e1
       obtain⟨rfl,rfl,rfl⟩:=e1
       rfl
    · obtain⟨h1,h2,_⟩:=hout x hz
      exact⟨o,by simp only[sur];rw[h1];exact h,fun e ks xs' e1=>⟨⟨xs',e1⟩,h2⟩⟩
 have hold:∀z b,b∈g.fp z->b<w.heap.size:=fun z b hb=>(R.alw z b hb).2
 refine R.move ht hs (fun x=> ?_) (fun x=> ?_) (fun x y hxy b hb hb'=> ?_) (fun x b hb=> ?_) (R.fr.trans hfr fun b hb=>(hX b hb).2)
 · by_cases hz:Z x
   · exact hrep hs x hz
   · obtain⟨h1,h2,h3,h4⟩:=hout x hz
     exact(R.objs x).shift hs h1 h2 h3 fun b hb=>hfr.block b (hold x b hb) (h4 b hb)
 · by_cases hz:Z x
   · exact hnd x hz
   · rw[(hout x hz).2.2.1];exact R.own x
 · by_cases hz:Z x
   · by_cases hy:Z y
     · exact hap x y hz hy hxy b hb hb'
     · rw[(hout y hy).2.2.1] at hb'
       rcases(hfp x hz b hb).1 with ⟨z,hZ,hbz⟩|q
       · exact R.apart z y (fun e=>hy (e▸hZ)) b hbz hb'
       · have:=hold y b hb';omega
   · rw[(hout x hz).2.2.1] at hb
     by_cases hy:Z y
     · rcases(hfp y hy b hb').1 with ⟨z,hZ,hbz⟩|q
       · exact R.apart z x (fun e=>hz (e▸hZ)) b hbz hb
       · have:=hold x b hb;omega
     · rw[(hout y hy).2.2.1] at hb'
       exact R.apart x y hxy b hb hb'
 · by_cases hz:Z x
   · obtain⟨h5,h6⟩:=hfp x hz b hb
     refine⟨?_,h6⟩
     rcases h5 with ⟨z,_,hbz⟩|q
     · exact(R.alw z b hbz).1
     · exact .inl (le_trans R.fr.size q)
   · obtain⟨h1,h2,h3,h4⟩:=hout x hz
     rw[h3] at hb
     exact⟨(R.alw x b hb).1,lt_of_lt_of_le (hold x b hb) hfr.size⟩
end
structure Itm where
 key:Nat
 ob:SOb
 hd:Value
 fp:List Nat
def fM(x:Nat):List Itm->Option Itm
 |[]=>none
 |i::l=>if x=i.key then some i else fM x l
def Gh.eX(g:Gh)(l:List Itm):Gh:=⟨fun x=>match fM x l with|some i=>i.hd|none=>g.hd x,fun x=>match fM x l with|some i=>i.fp|none=>g.fp x⟩
theorem gD{i:Itm}:∀{l:List Itm},(l.map Itm.key).Nodup->i∈l->fM i.key l=some i
 |j::l,hn,h=>by
  simp only[map_cons] at hn
  obtain⟨n1,n2⟩:=nodup_cons.1 hn
  simp only[fM]
  rcases mem_cons.1 h with rfl|h
  · rw[if_pos rfl]
  · rw[if_neg fun(e:i.key=j.key)=>n1 (by rw[<-e];exact mem_map.2 ⟨i,h,rfl⟩)]
    exact gD n2 h
theorem fY{x:Nat}:∀{l:List Itm},fM x l=none↔x ∉ l.map Itm.key
 |[]=>by simp[fM]
 |j::l=>by
  simp only[fM]
  split
  · rename_i e;simp[e]
  · rename_i e
    rw[fY]
    simp only[map_cons,mem_cons,not_or]
    exact⟨fun h=>⟨e,h⟩,fun h=>h.2⟩
section
variable {Φ:Fns} {env:List D} {C:Cx} {g:Gh} {s:SSt} {a:Act} {w:World}
theorem gE(x:Nat):∀(l:List Itm)(s:SSt),(l.map Itm.key).Nodup->((s.bg (l.map fun i=>(i.key,i.ob))).den Φ env).obj x=match fM x l with|some i=>some (i.ob.den Φ env)|none=>(s.den Φ env).obj x
 |[],s,_=>rfl
 |i::l,s,h=>by
  simp only[map_cons] at h
  obtain⟨n1,n2⟩:=nodup_cons.1 h
  rw[map_cons,show s.bg ((i.key,i.ob)::l.map fun i=>(i.key,i.ob))=(s.aU i.key i.ob).bg (l.map fun i=>(i.key,i.ob)) from rfl,gE x l _ n2]
  simp only[fM]
  by_cases hx:x=i.key
  · rw[if_pos hx,fY.2 (hx▸n1)]
    simp only[SSt.bK,St.ap,if_pos hx]
  · rw[if_neg hx]
    cases fM x l with
    |some j=>rfl
    |none=>simp only[SSt.bK,St.ap,if_neg hx]
theorem Rel.Tt(R:Rel C g (s.den Φ env) a w){w':World}{X:List Nat}(l:List Itm)(hfr:Fr w X w')(hn:(l.map Itm.key).Nodup)
 (hX:∀b,b∈X->(∀o,Me C.M (s.den Φ env).obj g.hd g.fp b o)∧∃z,z∈l.map Itm.key∧b∈g.fp z)
 (hin:∀i,i∈l->Turn (s.den Φ env) g ((s.bg (l.map fun i=>(i.key,i.ob))).den Φ env) (g.eX l) w w' i.key)
 (hrep:Shift (sur C g (s.den Φ env) w) (sur C (g.eX l) ((s.bg (l.map fun i=>(i.key,i.ob))).den Φ env) w')->∀i,i∈l->bv (sur C (g.eX l) ((s.bg (l.map fun i=>(i.key,i.ob))).den Φ env) w') (g.eX l).fp i.key)
 (hme:∀i,i∈l->∀b,(Ob.live (some (i.ob.den Φ env))=true∧bq i.hd=some b∨Ob.isX (some (i.ob.den Φ env))=true∧b∈i.fp)->b∈X∨w.heap.size<=b)
 (hnd:(l.flatMap Itm.fp).Nodup) (hfp:∀b,b∈l.flatMap Itm.fp->(b∈X∨w.heap.size<=b)∧b<w'.heap.size):
 Rel C (g.eX l) ((s.bg (l.map fun i=>(i.key,i.ob))).den Φ env) a w':=by
 have hobj:∀i,i∈l->((s.bg (l.map fun i=>(i.key,i.ob))).den Φ env).obj i.key=some (i.ob.den Φ env):=fun i hi=>by rw[gE _ _ _ hn,gD hn hi]
 have hfpe:∀i,i∈l->(g.eX l).fp i.key=i.fp:=fun i hi=>by simp only[Gh.eX,gD hn hi]
 have hhde:∀i,i∈l->(g.eX l).hd i.key=i.hd:=fun i hi=>by simp only[Gh.eX,gD hn hi]
 have hpw:=pairwise_flatten.1 (by rw[<-List.flatMap_def];exact hnd:(l.map Itm.fp).flatten.Nodup)
 refine R.turn (fun x=>x∈l.map Itm.key) hfr (by simp[SSt.den,SSt.fD]) (fun b hb=>⟨(hX b hb).1,?_⟩) (fun x hx=> ?_) (fun x hx=> ?_) (fun hs x hx=> ?_) (fun x hx b o h=> ?_) (fun x hx=> ?_) (fun x hx b hb=> ?_) (fun x y hx hy hxy b hb hb'=> ?_)
 · obtain⟨z,_,hz⟩:=(hX b hb).2
   exact(R.alw z b hz).1
 · have h0:=fY.2 hx
   refine⟨by rw[gE _ _ _ hn,h0],by simp only[Gh.eX,h0],by simp only[Gh.eX,h0],fun b hb hbX=> ?_⟩
   obtain⟨z,hz,hbz⟩:=(hX b hbX).2
   exact R.apart x z (fun e=>hx (by rw[e];exact hz)) b hb hbz
 · obtain⟨i,hi,rfl⟩:=mem_map.1 hx
   exact hin i hi
 · obtain⟨i,hi,rfl⟩:=mem_map.1 hx
   exact hrep hs i hi
 · obtain⟨i,hi,rfl⟩:=mem_map.1 hx
   rw[hobj i hi,hfpe i hi,hhde i hi] at h
   rcases hme i hi b h with q|q
   · exact .inl ((hX b q).1 o)
   · exact .inr q
 · obtain⟨i,hi,rfl⟩:=mem_map.1 hx
   rw[hfpe i hi]
   exact hpw.1 _ (mem_map.2 ⟨i,hi,rfl⟩)
 · obtain⟨i,hi,rfl⟩:=mem_map.1 hx
   rw[hfpe i hi] at hb
   obtain⟨h1,h2⟩:=hfp b (mem_flatMap.2 ⟨i,hi,hb⟩)
   refine⟨?_,h2⟩
   rcases h1 with h1|h1
   · obtain⟨z,hz,hbz⟩:=(hX b h1).2
     exact .inl ⟨z,hz,hbz⟩
   · exact .inr h1
 · obtain⟨i,hi,rfl⟩:=mem_map.1 hx
   obtain⟨j,hj,rfl⟩:=mem_map.1 hy
   rw[hfpe i hi] at hb
   rw[hfpe j hj] at hb'
   obtain⟨p,hp,rfl⟩:=getElem_of_mem hi
   obtain⟨q,hq,rfl⟩:=getElem_of_mem hj
   have hpq:p≠q:=fun e=>hxy (by subst e;rfl)
   have hP:=List.pairwise_iff_getElem.1 hpw.2
   rcases Nat.lt_or_gt_of_ne hpq with h|h
   · exact hP p q (by simpa using hp) (by simpa using hq) h b (by simpa using hb) b (by simpa using hb') rfl
   · exact hP q p (by simpa using hq) (by simpa using hp) h b (by simpa using hb') b (by simpa using hb) rfl
end
end Go.Vx
namespace Go.Vx
open Go.RowKit (Below)
inductive BC where
 |keep (k:K)
 |im (k:K)
 |own (e:TypeId) (ks:List K)
 /-- pinned:its head stays -/
 |ex (e:TypeId) (ks:List K) (pin:Bool)
 deriving Inhabited
inductive BSh where
 |im (s:ASh)
 |one (c:BC)
 |agg (cs:List BC)
 /-- a pointer to a box -/
 |box (T:TypeId) (cs:List BC)
 deriving Inhabited
def BC.rc:BC->RC
 | .keep k=>.im k
 | .im k=>.im k
 | .own e ks=>.own e ks false
 | .ex e ks _=>.own e ks true
def nV(w:World)(M:Nat->Nat->Prop):List BSh->List Value->List D->List (List Nat)->Prop
 |[],vs,ds,Fs=>vs=[]∧ds=[]∧Fs=[]
 | .im sh::ss,vs,ds,Fs=>∃v vs' d ds',vs=v::vs'∧ds=d::ds'∧kE w M sh v d∧nV w M ss vs' ds' Fs
 | .one c::ss,vs,ds,Fs=>∃v vs' d ds' F Fs',vs=v::vs'∧ds=d::ds'∧Fs=F++Fs'∧ch w M [c.rc] [v] [d] F∧nV w M ss vs' ds' Fs'
 | .agg cs::ss,vs,ds,Fs=>∃us vs' d ds' F Fs',vs= .agg (toArray us)::vs'∧ds=d::ds'∧Fs=F++Fs'∧ch w M (cs.map BC.rc) us d.row F∧nV w M ss vs' ds' Fs'
 | .box T cs::ss,vs,ds,Fs=>∃b us vs' d ds' F Fs',vs= .pointer (some ⟨b,0,none⟩)::vs'∧ds=d::ds'∧Fs=[b]::(F++Fs')∧w.heap[b]? =some (.cells (toArray us) T (0,0))∧
    ch w M (cs.map BC.rc) us d.row F∧nV w M ss vs' ds' Fs'
def lF(w w':World)(M:Nat->Nat->Prop):List BC->List Value->List Value->List D->List (List Nat)->Prop
 |[],_,us,_,Gs=>us=[]∧Gs=[]
 | .keep _::cs,vs,us,ds,Gs=>∃v vs' us',vs=v::vs'∧us=v::us'∧lF w w' M cs vs' us' ds.tail Gs
 | .im k::cs,vs,us,ds,Gs=>∃v vs' u us',vs=v::vs'∧us=u::us'∧bV w' M k u (ds.headD default)∧lF w w' M cs vs' us' ds.tail Gs
 | .own e ks::cs,vs,us,ds,Gs=>∃v vs' u us' G Gs',vs=v::vs'∧us=u::us'∧Gs=G::Gs'∧bU w' M e ks false u (ds.headD default).ae G∧lF w w' M cs vs' us' ds.tail Gs'
 | .ex e ks pin::cs,vs,us,ds,Gs=>∃v vs' u us' G Gs',vs=v::vs'∧us=u::us'∧Gs=G::Gs'∧bU w' M e ks true u (ds.headD default).ae G∧
    (pin=true->u=v∧∀i j x,fK w ks v i j x->fK w' ks v i j x)∧lF w w' M cs vs' us' ds.tail Gs'
def cHD:List BC->List Value->List (List Nat)->List Nat
 | .keep _::cs,_::us,Gs=>cHD cs us Gs
 | .im _::cs,_::us,Gs=>cHD cs us Gs
 | .own _ _::cs,u::us,_::Gs=>u.ownBlock.toList++cHD cs us Gs
 | .ex _ _ _::cs,_::us,G::Gs=>G++cHD cs us Gs
 |_,_,_=>[]
def nt(w w':World)(M:Nat->Nat->Prop):Nat->List BSh->List Value->(Nat->D)->List (List Value)->List (List (List Nat))->Prop
 |_,[],_,_,Bs,Gs=>Bs=[]∧Gs=[]
 |n,.box T cs::ss,vs,φ,Bs,Gs=>∃b us0 vs' us Bs' G Gs',vs= .pointer (some ⟨b,0,none⟩)::vs'∧w.heap[b]? =some (.cells (toArray us0) T (0,0))∧Bs=us::Bs'∧Gs=G::Gs'∧
   w'.heap[b]? =some (.cells (toArray us) T (0,0))∧lF w w' M cs us0 us (φ n).row G∧nt w w' M (n+1) ss vs' φ Bs' Gs'
 |n,.im _::ss,vs,φ,Bs,Gs=>nt w w' M n ss vs.tail φ Bs Gs
 |n,.one _::ss,vs,φ,Bs,Gs=>nt w w' M n ss vs.tail φ Bs Gs
 |n,.agg _::ss,vs,φ,Bs,Gs=>nt w w' M n ss vs.tail φ Bs Gs
def bHD:List BSh->List Value->List (List Value)->List (List (List Nat))->List Nat
 | .box _ cs::ss,v::vs,us::Bs,G::Gs=>(bq v).toList++(cHD cs us G++bHD ss vs Bs Gs)
 | .im _::ss,_::vs,Bs,Gs=>bHD ss vs Bs Gs
 | .one _::ss,_::vs,Bs,Gs=>bHD ss vs Bs Gs
 | .agg _::ss,_::vs,Bs,Gs=>bHD ss vs Bs Gs
 |_,_,_,_=>[]
def bFp:List BSh->List Value->List (List (List Nat))->List Nat
 | .box _ _::ss,v::vs,G::Gs=>(bq v).toList++(G.flatten++bFp ss vs Gs)
 | .im _::ss,_::vs,Gs=>bFp ss vs Gs
 | .one _::ss,_::vs,Gs=>bFp ss vs Gs
 | .agg _::ss,_::vs,Gs=>bFp ss vs Gs
 |_,_,_=>[]
def Fz(P:Program)(f:FuncId)(args:List BSh)(ax:List RSh)(φ:Nat->List D->D):Prop:=
 ∀(w:World)(M:Nat->Nat->Prop)(vs:List Value)(ds:List D)(Fs:List (List Nat)),(∀b o,M b o->b<w.heap.size∧b ∉ Fs.flatten)->(∀w',Fr w Fs.flatten w'->glob P w')->nV w (fun b o=>M b o∨b∈Fs.flatten) args vs ds Fs->
  Fs.flatten.Nodup->(∀b,b∈Fs.flatten->b<w.heap.size)->(φ 1000 ds).ZZ=true->
  Calls P f vs.toArray w fun e w'=>∃us Rs Bs Gs,e= .returned (jt ax us)∧Fr w Fs.flatten w'∧
   ch w' (MeH M (bD (ax.flatMap RSh.cells) us++bHD args vs Bs Gs)) (ax.flatMap RSh.cells) us (dG (fun c=>φ c ds) 0 ax) Rs∧
   nt w w' (MeH M (bD (ax.flatMap RSh.cells) us++bHD args vs Bs Gs)) 0 args vs (fun n=>φ (2000+n) ds) Bs Gs∧
   (Rs.flatten++bFp args vs Gs).Nodup∧∀b,b∈Rs.flatten++bFp args vs Gs->(w.heap.size<=b∨b∈Fs.flatten)∧b<w'.heap.size
def Oj(P:Program)(f:FuncId)(t:TypeId)(ks:List K)(φ:Nat->List D->D):Prop:=
 ∀(w:World)(M:Nat->Nat->Prop)(dp:Bool)(v:Value)(xs:List (List D))(F:List Nat),(∀b,v.ownBlock=some b->∀o,M b o)->(∀w',Fr w v.ownBlock.toList w'->glob P w')->bU w M t ks dp v xs F->F.Nodup->(∀b,b∈F->b<w.heap.size)->(φ 1000 [.sl xs]).ZZ=true->
  Calls P f #[v] w fun e w'=>e= .returned v∧Fr w v.ownBlock.toList w'∧(φ 0 [.sl xs]).ae.length=xs.length∧∃F',bU w' M t ks dp v (φ 0 [.sl xs]).ae F'∧F'.Perm F
def Vt(P:Program)(f:FuncId)(args:List ASh)(T:TypeId)(ks:List K)(φ:Nat->List D->D):Prop:=
 ∀(w:World)(M:Nat->Nat->Prop)(vs:List Value)(ds:List D),(∀b o,M b o->b<w.heap.size)->glob P w->fg w M args vs ds->(φ 1000 ds).ZZ=true->
  Calls P f vs.toArray w fun e w'=>∃b us,e= .returned (.pointer (some ⟨b,0,none⟩))∧Below w.heap.size w w'∧w.heap.size<=b∧w'.heap[b]? =some (.cells (toArray us) T (0,0))∧aP w' (fun c o=>M c o∨c=b) ks us (φ 0 ds).row
end Go.Vx
namespace Go.Vx
open Go.RowKit (Below)
structure Sig where
 args:List ASh
 ax:List RSh
 /-- nobody else is to look into what it makes -/
 ex:Bool:=false
 /-- it writes what it is handed -/
 xs:Option (List XSh):=none
 /-- it is handed boxes,or arrays to keep -/
 bs:Option (List BSh):=none
 /-- it puts rows into another order -/
 so:Option (TypeId×List K):=none
 /-- .. but for these -/
 exn:List Nat:=[]
 /-- it makes a variable and hands back a pointer to it -/
 nb:Option (TypeId×List K):=none
 deriving Inhabited
def Sig.lM(sg:Sig)(key:Nat):Bool:=sg.ex&& !(sg.exn.any fun k=>k==key)
def RSh.smk:RSh->List SC->SV
 | .one _,cs=>.one (cs.headD .dead)
 | .agg _,cs=>.agg cs
def zb:List RSh->List SC->List SV
 |[],_=>[]
 |r::rs,cs=>r.smk (cs.take r.cells.length)::zb rs (cs.drop r.cells.length)
def n7(ax:List RSh)(cs:List SC):SV:=match ax with
 |[r]=>r.smk cs
 |rs=>.tup (zb rs cs)
def RSh.es(r:RSh)(e:E):List E:=match r with
 | .one _=>[e]
 | .agg cs=>(List.range cs.length).map fun j=>.op (.fld j) [e]
def fU(f:Nat)(es:List E):Nat->List RSh->List E
 |_,[]=>[]
 |c,r::rs=>r.es (.op (.fn f c) es)++fU f es (c+1) rs
def tq(T:TypeId->TI)(CT:Nat->Option Sig)(key:Nat)(s:SSt)(f:Nat)(ts:List TypeId)(xs:List Operand):Option Res:=
 match CT f with
 |some sg=>match lN T s sg.args ts xs with
  |some (es,live)=>bif ((!live&& !sg.lM key)||(sg.ax.flatMap RSh.cells).all RC.solid)&&(cM (sg.lM key) key (sg.ax.flatMap RSh.cells) (fU f es 0 sg.ax)).all fun p=>(s.obj p.1).isNone then
    some ⟨[.op (.fn f 1000) es],n7 sg.ax (iu key (sg.ax.flatMap RSh.cells) (fU f es 0 sg.ax)),cM (sg.lM key) key (sg.ax.flatMap RSh.cells) (fU f es 0 sg.ax)⟩
   else none
  |none=>none
 |none=>none
theorem gM:∀(cs:List RC)(key:Nat)(es:List E),es.length=cs.length->(iu key cs es).length=cs.length
 |[],_,[],_=>rfl
 |[],_,_::_,h=>by simp at h
 | .im _::cs,key,[],h=>by simp at h
 | .own _ _ _::cs,key,[],h=>by simp at h
 | .im _::cs,key,e::es,h=>by simp[iu,gM cs (key+1) es (by simpa using h)]
 | .own _ _ _::cs,key,e::es,h=>by simp[iu,gM cs (key+1) es (by simpa using h)]
theorem iF(f:Nat)(es:List E):∀(rs:List RSh)(c:Nat),(fU f es c rs).length=(rs.flatMap RSh.cells).length
 |[],_=>rfl
 |r::rs,c=>by
  simp only[fU,length_append,iF f es rs (c+1),flatMap_cons]
  cases r<;>simp[RSh.es,RSh.cells]
section
variable {Φ:Fns} {env:List D}
theorem lZ(f:Nat)(es:List E):∀(rs:List RSh)(c:Nat),(fU f es c rs).map (E.den Φ env)=dG (fun c=>Φ f c (es.map (E.den Φ env))) c rs
 |[],_=>rfl
 |r::rs,c=>by
  simp only[fU,dG,map_append,lZ f es rs (c+1)]
  congr 1
  cases r<;>simp[RSh.es,RSh.ds,E.den,E.bC,E.ck,opD,Function.comp_def]
theorem uC{ex:Bool}:∀(cs:List RC){key:Nat}{vs:List Value}{es:List E}{Fs:List (List Nat)}{x:Nat}{q:Ob×Value×List Nat},es.length=cs.length->fv ex key cs vs (es.map (E.den Φ env)) Fs x=some q->∃o,(x,o)∈cM ex key cs es
 |[],_,_,_,_,_,_,_,h=>by simp[fv] at h
 | .im _::cs,key,vs,[],_,_,_,hl,_=>by simp at hl
 | .own _ _ _::cs,key,vs,[],_,_,_,hl,_=>by simp at hl
 | .im _::cs,key,[],e::es,Fs,x,q,hl,h=>by simp[fv] at h
 | .im _::cs,key,v::vs,e::es,Fs,x,q,hl,h=>by
   simp only[fv,map_cons,tail_cons] at h
   simp only[cM]
   exact uC cs (by simpa using hl) h
 | .own _ _ _::cs,key,[],e::es,Fs,x,q,hl,h=>by simp[fv] at h
 | .own _ _ _::cs,key,v::vs,e::es,[],x,q,hl,h=>by simp[fv] at h
 | .own _ _ _::cs,key,v::vs,e::es,F::Fs,x,q,hl,h=>by
   simp only[fv,map_cons,tail_cons] at h
   simp only[cM,mem_cons,Prod.mk.injEq]
   split at h
   · rename_i hx;exact⟨_,.inl ⟨hx,rfl⟩⟩
   · obtain⟨o,ho⟩:=uC cs (by simpa using hl) h
     exact⟨o,.inr ho⟩
theorem RSh.Eu{S:Sur}(r:RSh){cs:List SC}{vs:List Value}(h:aE S (cs.map (SC.den Φ env)) vs)(hl:cs.length=r.cells.length):bB S ((r.smk cs).den Φ env) (r.mk vs):=by
 cases r with
 |one c=>
  obtain⟨c',rfl⟩:=length_eq_one_iff.1 (show cs.length=1 from hl)
  obtain⟨v,vs',rfl,ho,hc,_⟩:=h
  exact⟨hc,ho⟩
 |agg rc=>exact⟨vs,rfl,h⟩
theorem nO{S:Sur}:∀(rs:List RSh){cs:List SC}{vs:List Value},aE S (cs.map (SC.den Φ env)) vs->cs.length=(rs.flatMap RSh.cells).length->f9 S ((zb rs cs).map (SV.den Φ env)) (ky rs vs)
 |[],_,_,_,_=>rfl
 |r::rs,cs,vs,h,hl=>by
  simp only[flatMap_cons,length_append] at hl
  refine⟨_,_,rfl,RSh.Eu r (by rw[map_take];exact aE.take _ h) (by rw[length_take];omega),nO rs (by rw[map_drop];exact aE.drop _ h) (by rw[List.length_drop];omega)⟩
theorem pH{S:Sur}(rs:List RSh){cs:List SC}{vs:List Value}(h:aE S (cs.map (SC.den Φ env)) vs)(hl:cs.length=(rs.flatMap RSh.cells).length):bB S ((n7 rs cs).den Φ env) (jt rs vs):=by
 rcases rs with _|⟨r,_|⟨r2,rs⟩⟩
 · exact⟨_,rfl,by rw[SV.ck];exact nO [] h hl⟩
 · exact RSh.Eu r h (by simpa using hl)
 · exact⟨_,rfl,by rw[SV.ck];exact nO (r::r2::rs) h hl⟩
end
section
variable {Φ:Fns} {env:List D} {C:Cx} {g:Gh} {s:SSt} {a:Act} {w:World} {o:Oper} {key:Nat}
theorem yd(R:Rel C g (s.den Φ env) a w){CT:Nat->Option Sig}{f:FuncId}(hCT:∀sg,CT f=some sg->BS C.P f sg.args sg.ax (Φ f)∧∃fn,C.P.funcs[f]? =some fn∧fn.body≠none∧fn.name≠ "runtime.NumGoroutine")
 {c:Call} (ho:o.op= .call c) (hc:c.callee= .value (.func f)) {r:Res} (h:tq C.T CT key s f c.argTypes.toList c.args.toList=some r) (hr:holds Φ env r.cs):
 Does C a w o (r.v.den Φ env) ((s.bg r.upd).den Φ env):=by
 unfold tq at h
 split at h
 · rename_i sg hsg
   split at h
   · rename_i es live hes
     obtain⟨h1,h2⟩:=ak h
     clear h
     simp only[Option.some.injEq] at h2
     subst h2
     simp only[and_eq_true,Bool.or_eq_true,not_eq_true'] at h1
     obtain⟨hlive,hfree⟩:=h1
     obtain⟨hF,fn,hfn,hb,hname⟩:=hCT sg hsg
     generalize hcells:sg.ax.flatMap RSh.cells=cells at*
     have hel:(fU f es 0 sg.ax).length=cells.length:=by rw[iF,hcells]
     have hden:=lZ (Φ:=Φ) (env:=env) f es sg.ax 0
     generalize fU f es 0 sg.ax=rE at*
     have hpre:=hr (.op (.fn f 1000) es) (by simp)
     simp only[E.den,E.ck,opD] at hpre
     have hMe:∀b o,Me C.M (s.den Φ env).obj g.hd g.fp b o->b<w.heap.size:=by
      rintro b o (hM|⟨x,hl,hx⟩|⟨x,hl,hx⟩)
      · exact lt_of_lt_of_le (C.oL b o hM).1 R.fr.size
      · exact(R.alw x b (R.er hl hx)).2
      · exact(R.alw x b hx).2
     have hcall:=hF w (gP live (Me C.M (s.den Φ env).obj g.hd g.fp)) _ _ (fun b o hm=>hMe b o hm.2) (C.gl w R.fr) (rU R hes) hpre
     refine ka R hfn hb hname ho hc ?_
     have harr:(c.args.toList.map a.eval).toArray=c.args.map a.eval:=by apply ext';simp
     rw[harr] at hcall
     refine hcall.mono fun e w' ⟨us,Fs,he,hbel,hret,hnd,hfresh⟩=> ?_
     rw[hcells,<-hden] at hret
     have hNfree:∀x q,fv (sg.lM key) key cells us (rE.map (E.den Φ env)) Fs x=some q->(s.den Φ env).obj x=none:=fun x q hq=>by
      obtain⟨ob,hm⟩:=uC cells hel hq
      have:=all_eq_true.1 hfree (x,ob) hm
      exact fZ (by simpa using this)
     have hσ:=sI (ex:=sg.lM key) (Φ:=Φ) (env:=env) cells (key:=key) s hret hel
     have hown:∀x ob h f,fv (sg.lM key) key cells us (rE.map (E.den Φ env)) Fs x=some (ob,h,f)->bq h=h.ownBlock∧∀b,h.ownBlock=some b->b∈f:=fun x ob h f hq=>by
      obtain⟨_,⟨t,ks,dp,xs,_,ho⟩,_,_⟩:=eU cells hret hq
      obtain⟨vss,fps,h1,_,_,_,h5,_⟩:=ho
      exact⟨fe h1,fun b hb=>by rw[h5,hb];simp⟩
     have hsub:sg.lM key=false->∀b o,Me C.M ((s.bg (cM (sg.lM key) key cells rE)).den Φ env).obj (g.many (fv (sg.lM key) key cells us (rE.map (E.den Φ env)) Fs)).hd (g.many (fv (sg.lM key) key cells us (rE.map (E.den Φ env)) Fs)).fp b o->MeH (Me C.M (s.den Φ env).obj g.hd g.fp) (bD cells us) b o:=by
      rintro hex b o (hM|⟨x,hl,hx⟩|⟨x,hl,hx⟩)
      · exact .inl (.inl hM)
      · cases hq:fv (sg.lM key) key cells us (rE.map (E.den Φ env)) Fs x with
        |none=>
         rw[hσ,hq] at hl
         simp only[Gh.many,hq] at hx
         exact .inl (.inr (.inl ⟨x,hl,hx⟩))
        |some q=>
         obtain⟨ob,h,f⟩:=q
         simp only[Gh.many,hq] at hx
         rw[(hown x ob h f hq).1] at hx
         exact .inr ((eU cells hret hq).2.2.2 b hx)
      · cases hq:fv (sg.lM key) key cells us (rE.map (E.den Φ env)) Fs x with
        |none=>
         rw[hσ,hq] at hl
         simp only[Gh.many,hq] at hx
         exact .inl (.inr (.inr ⟨x,hl,hx⟩))
        |some q=>
         obtain⟨ob,h,f⟩:=q
         rw[hσ,hq] at hl
         obtain⟨_,⟨t,ks,dp,xs,rfl,_⟩,_,_⟩:=eU cells hret hq
         simp only[Bb,hex,Bool.false_and,cond_false] at hl
         simp[Ob.isX] at hl
     have hret':ch w' (Me C.M ((s.bg (cM (sg.lM key) key cells rE)).den Φ env).obj (g.many (fv (sg.lM key) key cells us (rE.map (E.den Φ env)) Fs)).hd (g.many (fv (sg.lM key) key cells us (rE.map (E.den Φ env)) Fs)).fp) cells us (rE.map (E.den Φ env)) Fs:=by
      refine hret.to ?_
      rcases hlive with hl|hl
      · left
        intro b o hm
        rcases hsub hl.2 b o hm with q|q
        · exact .inl ⟨hl.1,q⟩
        · exact .inr q
      · exact .inr hl
     have hN:Rel C (g.many (fv (sg.lM key) key cells us (rE.map (E.den Φ env)) Fs)) ((s.bg (cM (sg.lM key) key cells rE)).den Φ env) a w':=by
      refine R.many hbel (by simp[SSt.den,SSt.fD]) hNfree hσ (fun x ob h f hq b hb=> ?_) (fun x ob h f hq=> ?_) (fun x y ob h f ob' h' f' hxy hq hq'=>pL cells hret hnd hxy hq hq') (fun x q hq=> ?_)
      · obtain⟨e1,e2⟩:=hown x ob h f hq
        rw[e1] at hb
        exact(hfresh b (mem_flatten.2 ⟨f,(eU cells hret hq).2.2.1,e2 b hb⟩)).1
      · have hm:=(eU cells hret hq).2.2.1
        exact⟨(pairwise_flatten.1 hnd).1 _ hm,fun b hb=>hfresh b (mem_flatten.2 ⟨f,hm,hb⟩)⟩
      · obtain⟨ob,h,f⟩:=q
        obtain⟨_,⟨t,ks,dp,xs,rfl,hO⟩,_,_⟩:=eU cells hret' hq
        unfold bv
        simp only[sur,hσ,hq]
        obtain⟨vss,fps,h1,h2,h3,h4,h5,h6⟩:=hO
        unfold Bb
        cases hed:sg.lM key&&dp with
        |true=>
         have hdp:dp=true:=by simp only[and_eq_true] at hed;exact hed.2
         subst hdp
         refine⟨vss,fps,?_,h2,h3,h4,?_,fun i row vs f e1 e2 e3=>by have:=h6 i row vs f e1 e2 e3;rwa[if_pos rfl] at this⟩
         · simp only[Gh.many,hq];exact h1
         · simp only[Gh.many,hq];exact h5
        |false=>
         refine⟨vss,fps,?_,h2,h3,h4,?_,h6⟩
         · simp only[Gh.many,hq];exact h1
         · simp only[Gh.many,hq];exact h5
     refine⟨_,_,he,?_,hN⟩
     refine pH sg.ax (kO (ex:=sg.lM key) rfl rfl cells hret' hel fun x ob h f hq=>⟨?_,?_⟩) (by rw[gM _ _ _ hel,hcells])
     · show((s.bg (cM (sg.lM key) key cells rE)).den Φ env).obj x=_
       rw[hσ,hq]
     · show(g.many _).hd x=h
       simp only[Gh.many,hq]
   · cases h
 · cases h
end
section
variable {C:Cx} {g:Gh} {σ:St} {a:Act} {w:World}
theorem Rel.RK(R:Rel C g σ a w){σ':St}{g':Gh}{w':World}{F:List Nat}(hfr:Fr w F w')(ht:σ'.tmps=σ.tmps)(hhd:∀x,g'.hd x=g.hd x)
 (hF:∀b,b∈F->∃x,Ob.isX (σ.obj x)=true∧b∈g.fp x)
 (hob:∀x,(σ'.obj x=σ.obj x∧g'.fp x=g.fp x∧∀b,b∈g.fp x->b ∉ F)∨
   ∃t ks xs xs',σ.obj x=some (.arx t ks xs)∧σ'.obj x=some (.arx t ks xs')∧mx w' (.sl t ks) (g.hd x) (.sl xs') (g'.fp x)∧(g'.fp x).Nodup∧
    (∀b,b∈g'.fp x->(b∈g.fp x∨b∈F∨w.heap.size<=b)∧b<w'.heap.size)∧∀i j u,fK w ks (g.hd x) i j u->fK w' ks (g.hd x) i j u)
 (hap:∀x y,x≠y->∀b,b∈g'.fp x->b ∉ g'.fp y):Rel C g' σ' a w':=by
 have hcell:∀b o,b<w.heap.size->b ∉ F->w'.cell? ⟨b,o,none⟩=w.cell? ⟨b,o,none⟩:=fun b o hb hn=>World.cell?_of_block (w:=w) (a:=⟨b,o,none⟩) (hfr.block b hb hn)
 have hlive:∀x,Ob.live (σ'.obj x)=true->Ob.live (σ.obj x)=true∧σ'.obj x=σ.obj x:=fun x hl=>by
  rcases hob x with ⟨h,_,_⟩|⟨t,ks,xs,xs',h1,h2,_⟩
  · rw[h] at hl;exact⟨hl,h⟩
  · rw[h2] at hl;simp[Ob.live] at hl
 have hkeep:Keeps w (Me C.M σ.obj g.hd g.fp) w' (Me C.M σ'.obj g'.hd g'.fp):=fun b o v hc hn=>by
  have hlt:=fw hc
  have hnF:b ∉ F:=fun hf=>by
   obtain⟨x,h1,h2⟩:=hF b hf
   exact hn (.inr (.inr ⟨x,h1,h2⟩))
  refine⟨by rw[hcell b o hlt hnF];exact hc,?_⟩
  rintro(hM|⟨x,hl,hx⟩|⟨x,hl,hx⟩)
  · exact hn (.inl hM)
  · rw[hhd] at hx
    exact hn (.inr (.inl ⟨x,(hlive x hl).1,hx⟩))
  · rcases hob x with ⟨h,hf,_⟩|⟨t,ks,xs,xs',h1,h2,_,_,h3,_⟩
    · rw[h] at hl;rw[hf] at hx
      exact hn (.inr (.inr ⟨x,hl,hx⟩))
    · rcases(h3 b hx).1 with q|q|q
      · exact hn (.inr (.inr ⟨x,by rw[h1];rfl,q⟩))
      · exact hnF q
      · omega
 have hs:Shift (sur C g σ w) (sur C g' σ' w'):=by
  refine⟨hkeep,fun x p v h=> ?_,fun x i j v h=> ?_,fun x i j v h=> ?_,fun x o h=> ?_⟩
  · unfold aB at h⊢
    simp only[sur,hhd] at h⊢
    rcases hob x with ⟨e,_,_⟩|⟨t,ks,xs,xs',h1,h2,_⟩
    · rw[e]
      cases he:σ.obj x with
      |none=>rw[he] at h;exact h
      |some q=>
       rw[he] at h
       cases q with
       |«sealed» _ _ _=>exact⟨h.1,h.2.keeps hkeep⟩
       |_=>exact h
    · rw[h2];rw[h1] at h;exact h
  · unfold aV at h⊢
    simp only[sur,hhd] at h⊢
    rcases hob x with ⟨e,_,_⟩|⟨t,ks,xs,xs',h1,h2,_⟩
    · rw[e];exact h
    · rw[h2];rw[h1] at h;exact h
  · rcases hob x with ⟨e,_,hd⟩|⟨t,ks,xs,xs',h1,h2,_,_,_,hL⟩
    · unfold cB at h⊢
      simp only[sur,hhd] at h⊢
      rw[e]
      cases he:σ.obj x with
      |none=>rw[he] at h;exact h
      |some q=>
       rw[he] at h
       cases q with
       |arx t ks xs=>
        refine fK.keep h fun b o u hu hb=> ?_
        have hm:b∈g.fp x:=R.Gj (by rw[he];rfl) hb
        rw[hcell b o (fw hu) (hd b hm)]
        exact hu
       |_=>trivial
    · unfold cB at h⊢
      simp only[sur,hhd] at h⊢
      rw[h2];rw[h1] at h
      exact hL i j v h
  · simp only[sur] at h
    rcases hob x with ⟨e,_,_⟩|⟨t,ks,xs,xs',h1,h2,_⟩
    · exact⟨o,by simp only[sur];rw[e];exact h,fun e' ks' ys' e1=>⟨⟨ys',e1⟩,hhd x⟩⟩
    · refine⟨_,by simp only[sur];exact h2,fun e' ks' ys' e1=>⟨⟨xs,?_⟩,hhd x⟩⟩
      rw[h1] at h
      simp only[Option.some.injEq] at h
      subst h
      simp only[Ob.arx.injEq] at e1
      obtain⟨rfl,rfl,rfl⟩:=e1
      rfl
 have hFold:∀b,b∈F->C.w0.heap.size<=b∨b∈C.X:=fun b hb=>by
  obtain⟨x,_,h2⟩:=hF b hb
  exact(R.alw x b h2).1
 refine R.move ht hs (fun x=> ?_) (fun x=> ?_) hap (fun x b hb=> ?_) (R.fr.trans hfr hFold)
 · rcases hob x with ⟨e,hf,hd⟩|⟨t,ks,xs,xs',h1,h2,h3,_⟩
   · exact(R.objs x).shift hs e (hhd x) hf fun b hb=>hfr.block b (R.alw x b hb).2 (hd b hb)
   · unfold bv
     simp only[sur,h2,hhd]
     obtain⟨vss,fps,q1,q2,q3,q4,q5,q6⟩:=h3
     exact⟨vss,fps,q1,q2,q3,q4,q5,q6⟩
 · rcases hob x with ⟨e,hf,hd⟩|⟨t,ks,xs,xs',h1,h2,h3,h4,_⟩
   · rw[hf];exact R.own x
   · exact h4
 · rcases hob x with ⟨e,hf,hd⟩|⟨t,ks,xs,xs',h1,h2,h3,_,h4,_⟩
   · rw[hf] at hb
     exact⟨(R.alw x b hb).1,lt_of_lt_of_le (R.alw x b hb).2 hfr.size⟩
   · obtain⟨h5,h6⟩:=h4 b hb
     refine⟨?_,h6⟩
     rcases h5 with h5|h5|h5
     · exact(R.alw x b h5).1
     · exact hFold b h5
     · exact .inl (le_trans R.fr.size h5)
end
abbrev oj:=List (Nat×TypeId×List K)
def oO(s:SSt):RC->SC->Option (E×oj)
 | .im k,c=>match jP s k c with
   |some (e,false)=>some (e,[])
   |_=>none
 | .own t ks dp,.ref z none=>match s.obj z with
   |some (.arx t' ks' xs)=>bif dp&&(t'==t&&K.ct ks' ks) then some (.op .asl [xs],[(z,t,ks)]) else none
   |_=>none
 |_,_=>none
def jJ(s:SSt):List RC->List SC->Option (List E×oj)
 |[],[]=>some ([],[])
 |c::cs,x::xs=>match oO s c x,jJ s cs xs with
  |some (e,z),some (es,zs)=>some (e::es,z++zs)
  |_,_=>none
 |_,_=>none
def xarg(T:TypeId->TI)(s:SSt)(ty:TypeId)(x:Operand):XSh->Option (E×oj)
 | .im sh=>match rb T s ty x sh with
   |some (e,false)=>some (e,[])
   |_=>none
 | .one c=>match sev T ty s x with
   | .one d=>oO s c d
   |_=>none
 | .agg cs=>match sev T ty s x with
   | .agg ds=>match jJ s cs ds with
     |some (es,zs)=>some (FK es,zs)
     |none=>none
   |_=>none
def jN(T:TypeId->TI)(s:SSt):List XSh->List TypeId->List Operand->Option (List E×oj)
 |[],[],[]=>some ([],[])
 |h::hs,t::ts,x::xs=>match xarg T s t x h,jN T s hs ts xs with
  |some (e,z),some (es,zs)=>some (e::es,z++zs)
  |_,_=>none
 |_,_,_=>none
def vO(f:Nat)(es:List E):Nat->oj->List (Nat×SOb)
 |_,[]=>[]
 |n,(z,t,ks)::zs=>(z,.arx t ks (.op (.fn f (2000+n)) es))::vO f es (n+1) zs
def RC.nh:RC->Bool
 | .im k=>k.plain
 |_=>false
section
variable {Φ:Fns} {env:List D} {C:Cx} {g:Gh} {s:SSt} {a:Act} {w:World} {o:Oper}
theorem kW.mono{w:World}{M M':Nat->Nat->Prop}(h:∀b o,M' b o->M b o):∀{ss:List XSh}{vs:List Value}{ds:List D}{Fs:List (List Nat)},kW w M ss vs ds Fs->kW w M' ss vs ds Fs
 |[],_,_,_,hr=>hr
 | .im sh::_,_,_,_,⟨v,vs',d,ds',e1,e2,h1,h2⟩=>⟨v,vs',d,ds',e1,e2,h1.mono h,kW.mono h h2⟩
 | .one c::_,_,_,_,⟨v,vs',d,ds',F,Fs',e1,e2,e3,h1,h2⟩=>⟨v,vs',d,ds',F,Fs',e1,e2,e3,h1.to (.inl h),kW.mono h h2⟩
 | .agg cs::_,_,_,_,⟨us,vs',d,ds',F,Fs',e1,e2,e3,h1,h2⟩=>⟨us,vs',d,ds',F,Fs',e1,e2,e3,h1.to (.inl h),kW.mono h h2⟩
theorem ch.ext{w:World}{M:Nat->Nat->Prop}:∀{cs:List RC}{vs:List Value}{ds ds':List D}{Fs:List (List Nat)},ch w M cs vs ds Fs->(∀j,j<cs.length->ds.getD j default=ds'.getD j default)->ch w M cs vs ds' Fs
 |[],_,_,_,_,h,_=>h
 |c::cs,vs,ds,ds',Fs,h,he=>by
  have h0:ds.headD default=ds'.headD default:=by
   have:=he 0 (by simp)
   simp only[List.headD_eq_head?_getD,getD_eq_getElem?_getD,List.head?_eq_getElem?] at this⊢
   exact this
  have h1:∀j,j<cs.length->ds.tail.getD j default=ds'.tail.getD j default:=fun j hj=>by
   have:=he (j+1) (by simpa using hj)
   simp only[getD_eq_getElem?_getD,getElem?_tail] at this⊢
   exact this
  cases c with
  |im k=>
   obtain⟨v,vs',e,hc,hr⟩:=h
   exact⟨v,vs',e,by rw[<-h0];exact hc,hr.ext h1⟩
  |own t ks dp=>
   obtain⟨v,vs',F,Fs',e1,e2,hc,hr⟩:=h
   exact⟨v,vs',F,Fs',e1,e2,by rw[<-h0];exact hc,hr.ext h1⟩
abbrev tgF(g:Gh)(zs:oj):List (List Nat):=zs.map fun q=>g.fp q.1
abbrev tgV(g:Gh)(zs:oj):List (TypeId×List K×Value):=zs.map fun q=>(q.2.1,q.2.2,g.hd q.1)
def Tg(σ:St)(zs:oj):Prop:=∀q∈zs,∃xs,σ.obj q.1=some (.arx q.2.1 q.2.2 xs)
theorem pg{me:Nat->Nat->Prop}{b o:Nat}(h:me b o):gP false me b o:=⟨rfl,h⟩
theorem pw(R:Rel C g (s.den Φ env) a w):∀{cs:List RC}{xs:List SC}{vs:List Value}{es:List E}{zs:oj},aE (sur C g (s.den Φ env) w) (xs.map (SC.den Φ env)) vs->jJ s cs xs=some (es,zs)->
 ch w (Me C.M (s.den Φ env).obj g.hd g.fp) cs vs (es.map (E.den Φ env)) (tgF g zs)∧Gn cs vs=tgV g zs∧Tg (s.den Φ env) zs∧es.length=cs.length
 |[],[],vs,es,zs,hv,h=>by
  simp only[jJ,Option.some.injEq,Prod.mk.injEq] at h
  obtain⟨rfl,rfl⟩:=h
  have hv:vs=[]:=hv
  subst hv
  exact⟨⟨rfl,rfl⟩,rfl,fun q hq=>by simp at hq,rfl⟩
 |[],_::_,_,_,_,_,h=>by simp[jJ] at h
 |_::_,[],_,_,_,_,h=>by simp[jJ] at h
 |c::cs,x::xs,vs,es,zs,hv,h=>by
  obtain⟨v,vs',rfl,_,hc,hr⟩:=hv
  simp only[jJ] at h
  split at h
  · rename_i e z es1 zs1 h1 h2
    simp only[Option.some.injEq,Prod.mk.injEq] at h
    obtain⟨rfl,rfl⟩:=h
    obtain⟨i1,i2,i3,i4⟩:=pw R hr h2
    cases c with
    |im k=>
     simp only[oO] at h1
     split at h1
     · rename_i e' hs
       simp only[Option.some.injEq,Prod.mk.injEq] at h1
       obtain⟨rfl,rfl⟩:=h1
       exact⟨⟨v,vs',rfl,bV.mono (fun _ _=>pg) (r7 R hc hs),i1⟩,i2,i3,by simp[i4]⟩
     · cases h1
    |own t ks dp=>
     cases x with
     |ref z p=>
      cases p with
      |some p=>simp[oO] at h1
      |none=>
       simp only[oO] at h1
       split at h1
       · rename_i t' ks' ys hz
         obtain⟨h3,h4⟩:=ak h1
         simp only[and_eq_true,beq_iff_eq] at h3
         obtain⟨rfl,rfl,h5⟩:=h3
         have h6:=K.bp h5
         subst h6
         simp only[Option.some.injEq,Prod.mk.injEq] at h4
         obtain⟨rfl,rfl⟩:=h4
         have hz':=aT (Φ:=Φ) (env:=env) hz
         have hr':aB (sur C g (s.den Φ env) w) z none v:=hc
         unfold aB at hr'
         simp only[sur,hz',SOb.den] at hr'
         subst hr'
         obtain⟨vss,fps,q1,q2,q3,q4,q5,q6⟩:=R.yV hz'
         refine⟨⟨_,vs',_,_,rfl,rfl,⟨vss,fps,q1,q2,q3,q4,q5,fun i row us f e1 e2 e3=>by rw[if_pos rfl];exact q6 i row us f e1 e2 e3⟩,i1⟩,?_,?_,by simp[i4]⟩
         · simp only[Gn,i2,tgV,cons_append,nil_append,map_cons]
         · intro q hq
           rcases mem_append.1 hq with hq|hq
           · simp only[mem_singleton] at hq
             subst hq
             exact⟨_,hz'⟩
           · exact i3 q hq
       · cases h1
     |_=>simp[oO] at h1
  · cases h
theorem sA(R:Rel C g (s.den Φ env) a w):∀{hs:List XSh}{ts:List TypeId}{xs:List Operand}{es:List E}{zs:oj},jN C.T s hs ts xs=some (es,zs)->
 kW w (Me C.M (s.den Φ env).obj g.hd g.fp) hs (xs.map a.eval) (es.map (E.den Φ env)) (tgF g zs)∧zl hs (xs.map a.eval)=tgV g zs∧Tg (s.den Φ env) zs
 |[],[],[],es,zs,h=>by
  simp only[jN,Option.some.injEq,Prod.mk.injEq] at h
  obtain⟨rfl,rfl⟩:=h
  exact⟨⟨rfl,rfl,rfl⟩,rfl,fun q hq=>by simp at hq⟩
 |h::hs,t::ts,x::xs,es,zs,hh=>by
  simp only[jN] at hh
  split at hh
  · rename_i e z es1 zs1 h1 h2
    simp only[Option.some.injEq,Prod.mk.injEq] at hh
    obtain⟨rfl,rfl⟩:=hh
    obtain⟨i1,i2,i3⟩:=sA R h2
    have hr:=bG R t x
    have hT:∀{z:oj},Tg (s.den Φ env) z->Tg (s.den Φ env) (z++zs1):=fun hz q hq=>by
     rcases mem_append.1 hq with hq|hq
     · exact hz q hq
     · exact i3 q hq
    cases h with
    |im sh=>
     simp only[xarg] at h1
     split at h1
     · rename_i e' hs'
       simp only[Option.some.injEq,Prod.mk.injEq] at h1
       obtain⟨rfl,rfl⟩:=h1
       exact⟨⟨_,_,_,_,rfl,rfl,kE.mono (fun _ _=>pg) (Ag R hs'),i1⟩,i2,i3⟩
     · cases h1
    |one c=>
     simp only[xarg] at h1
     split at h1
     · rename_i d hx
       rw[cd hx] at hr
       have h1':jJ s [c] [d]=some ([e],z):=by simp[jJ,h1]
       obtain⟨j1,j2,j3,_⟩:=pw (xs:=[d]) (vs:=[a.eval x]) R ⟨_,_,rfl,hr.2,hr.1,rfl⟩ h1'
       refine⟨⟨_,_,_,_,_,_,rfl,rfl,?_,j1,i1⟩,?_,hT j3⟩
       · simp[tgF]
       · simp only[map_cons,zl,j2,i2,tgV,map_append]
     · cases h1
    |agg cs=>
     simp only[xarg] at h1
     split at h1
     · rename_i ds hx
       rw[cd hx] at hr
       obtain⟨us,e1,hr⟩:=hr
       split at h1
       · rename_i es2 zs2 h3
         simp only[Option.some.injEq,Prod.mk.injEq] at h1
         obtain⟨rfl,rfl⟩:=h1
         obtain⟨j1,j2,j3,j4⟩:=pw R hr h3
         refine⟨⟨us,_,_,_,_,_,by rw[map_cons,e1],rfl,?_,j1.ext fun j hj=>og es2 j (by omega),i1⟩,?_,hT j3⟩
         · simp[tgF]
         · simp only[map_cons,e1,zl,j2,i2,tgV,map_append]
       · cases h1
     · cases h1
  · cases hh
 |[],[],_::_,_,_,h=>by simp[jN] at h
 |[],_::_,_,_,_,h=>by simp[jN] at h
 |_::_,[],_,_,_,h=>by simp[jN] at h
 |_::_,_::_,[],_,_,h=>by simp[jN] at h
def nZ:oj->List (List Nat)->(Nat->List Nat)->Nat->List Nat
 |(z,_,_)::zs,G::Gs,f,x=>if x=z then G else nZ zs Gs f x
 |_,_,f,x=>f x
theorem BO{w w':World}{φ:Nat->D}:∀{l:List (TypeId×List K×Value)}{n:Nat}{Gs:List (List Nat)},uu w w' n l φ Gs->Gs.length=l.length
 |[],_,_,h=>by rw[show _=[] from h];rfl
 |(t,ks,v)::l,n,_,h=>by
  obtain⟨G,Gs',rfl,_,_,h'⟩:=h
  simp[BO h']
theorem AO{w':World}{f:Nat}{es:List E}:∀{zs:oj}{n:Nat}{Gs:List (List Nat)}(s:SSt),uu w w' n (tgV g zs) (fun n=>Φ f (2000+n) (es.map (E.den Φ env))) Gs->(zs.map (·.1)).Nodup->∀x,
 (x ∉ zs.map (·.1)∧((s.bg (vO f es n zs)).den Φ env).obj x=(s.den Φ env).obj x∧nZ zs Gs g.fp x=g.fp x)∨
 ∃t ks d,(x,t,ks)∈zs∧((s.bg (vO f es n zs)).den Φ env).obj x=some (.arx t ks d)∧mx w' (.sl t ks) (g.hd x) (.sl d) (nZ zs Gs g.fp x)∧(∀i j u,fK w ks (g.hd x) i j u->fK w' ks (g.hd x) i j u)∧nZ zs Gs g.fp x∈Gs
 |[],n,Gs,s,h,_,x=>.inl ⟨by simp,rfl,rfl⟩
 |(z,t,ks)::zs,n,_,s,h,hnd,x=>by
  obtain⟨G,Gs',rfl,h1,h2,h3⟩:=h
  simp only[map_cons] at hnd
  obtain⟨n1,n2⟩:=nodup_cons.1 hnd
  have ih:=AO (s.aU z (.arx t ks (.op (.fn f (2000+n)) es))) h3 n2 x
  have e0:s.bg (vO f es n ((z,t,ks)::zs))=(s.aU z (.arx t ks (.op (.fn f (2000+n)) es))).bg (vO f es (n+1) zs):=rfl
  rw[e0]
  by_cases hx:x=z
  · subst hx
    right
    rcases ih with ⟨_,e1,_⟩|⟨t',ks',d,hm,_⟩
    · refine⟨t,ks,(Φ f (2000+n) (es.map (E.den Φ env))).ae,by simp,?_,?_,h2,by simp[nZ]⟩
      · rw[e1,SSt.bK,St.ap,if_pos rfl]
        simp only[SOb.den,E.den,E.ck,opD]
      · simp only[nZ,if_pos]
        exact h1
    · exact absurd (mem_map.2 ⟨_,hm,rfl⟩) n1
  · rcases ih with ⟨e0,e1,e2⟩|⟨t',ks',d,hm,e1,e2,e3,e4⟩
    · left
      refine⟨by simp only[map_cons,mem_cons,not_or];exact⟨hx,e0⟩,?_,?_⟩
      · rw[e1,SSt.bK,St.ap,if_neg hx]
      · simp only[nZ,if_neg hx];exact e2
    · right
      refine⟨t',ks',d,by simp[hm],e1,?_,e3,?_⟩
      · simp only[nZ,if_neg hx];exact e2
      · simp only[nZ,if_neg hx];exact mem_cons_of_mem _ e4
theorem uV{fp:Nat->List Nat}:∀{zs:oj}{Gs:List (List Nat)},Gs.length=zs.length->Gs.flatten.Nodup->∀{x y:Nat},x≠y->x∈zs.map (·.1)->y∈zs.map (·.1)->∀b,b∈nZ zs Gs fp x->b ∉ nZ zs Gs fp y
 |[],_,_,_,x,y,_,hx,_=>by simp at hx
 |(z,t,ks)::zs,[],hl,_,_,_,_,_,_=>by simp at hl
 |(z,t,ks)::zs,G::Gs,hl,hnd,x,y,hxy,hx,hy=>by
  rw[flatten_cons] at hnd
  obtain⟨d1,d2,d3⟩:=nodup_append.1 hnd
  have hl':Gs.length=zs.length:=by simpa using hl
  have hin:∀{zs:oj}{Gs:List (List Nat)}{x:Nat},Gs.length=zs.length->x∈zs.map (·.1)->nZ zs Gs fp x∈Gs:=by
   intro zs
   induction zs with
   |nil=>intro Gs x _ hx;simp at hx
   |cons q zs ih=>
    intro Gs x hl hx
    cases Gs with
    |nil=>simp at hl
    |cons G Gs=>
     simp only[nZ]
     split
     · simp
     · rename_i hn
       simp only[map_cons,mem_cons] at hx
       exact mem_cons_of_mem _ (ih (by simpa using hl) (hx.resolve_left hn))
  simp only[map_cons,mem_cons] at hx hy
  simp only[nZ]
  intro b hb hb'
  split at hb
  · rename_i e
    rw[if_neg (by omega)] at hb'
    exact d3 b hb b (mem_flatten.2 ⟨_,hin hl' (hy.resolve_left (by omega)),hb'⟩) rfl
  · rename_i e
    split at hb'
    · exact d3 b hb' b (mem_flatten.2 ⟨_,hin hl' (hx.resolve_left e),hb⟩) rfl
    · rename_i e'
      exact uV hl' d2 hxy (hx.resolve_left e) (hy.resolve_left e') b hb hb'
end
def iA:List Nat->Bool
 |[]=>true
 |x::l=>(l.all fun y=> !(y==x))&&iA l
theorem gU:∀{l:List Nat},iA l=true->l.Nodup
 |[],_=>List.nodup_nil
 |x::l,h=>by
  simp only[iA,and_eq_true,all_eq_true,not_eq_true',beq_eq_false_iff_ne] at h
  exact nodup_cons.2 ⟨fun hm=>h.1 x hm rfl,gU h.2⟩
def sQ(T:TypeId->TI)(args:List XSh)(ax:List RSh)(s:SSt)(f:Nat)(ts:List TypeId)(xs:List Operand):Option Res:=
 bif (ax.flatMap RSh.cells).all RC.nh then match jN T s args ts xs with
  |some (es,zs)=>bif iA (zs.map (·.1)) then some ⟨[.op (.fn f 1000) es],n7 ax (iu 0 (ax.flatMap RSh.cells) (fU f es 0 ax)),vO f es 0 zs⟩ else none
  |none=>match args,ts,xs with
   | .one (.own t ks dp)::ss,ty::ts,x::xs=>match sev T ty s x with
     | .lod y i j=>match s.obj y with
       |some (.arx t0 ks0 e0)=>match ks0[j]?,jN T s ss ts xs with
        |some k,some (es,[])=>bif dp&&(K.eqb k (.sl t ks)&&okR ks0.length 64 (gu e0 i).2) then
          some ⟨[.op .ltlen [i,(gu e0 i).1],.op (.rowlen ks0.length) [nF 64 (gu e0 i).2],.op (.fn f 1000) (.op .asl [An j 64 (gu e0 i).2]::es)],
           n7 ax (iu 0 (ax.flatMap RSh.cells) (fU f (.op .asl [An j 64 (gu e0 i).2]::es) 0 ax)),
           [(y,.arx t0 ks0 (.op .fT [(gu e0 i).1,i,.op (.rput j) [(gu e0 i).2,.op (.fn f 2000) (.op .asl [An j 64 (gu e0 i).2]::es)]]))]⟩ else none
        |_,_=>none
       |_=>none
     |_=>none
   |_,_,_=>none
  else none
section
variable {Φ:Fns} {env:List D} {C:Cx} {g:Gh} {s:SSt} {a:Act} {w:World} {o:Oper}
theorem yC(R:Rel C g (s.den Φ env) a w):∀{zs:oj},(zs.map (·.1)).Nodup->(tgF g zs).flatten.Nodup
 |[],_=>List.nodup_nil
 |q::zs,h=>by
  simp only[map_cons] at h
  obtain⟨h1,h2⟩:=nodup_cons.1 h
  simp only[tgF,map_cons,flatten_cons]
  refine nodup_append.2 ⟨R.own q.1,yC R h2,fun b hb c hc e=> ?_⟩
  subst e
  obtain⟨F,hF,hb'⟩:=mem_flatten.1 hc
  obtain⟨y,hy,rfl⟩:=mem_map.1 hF
  exact R.apart q.1 y.1 (fun e=>h1 (e▸mem_map.2 ⟨y,hy,rfl⟩)) b hb hb'
theorem A5{ex:Bool}:∀(cs:List RC){key:Nat}{vs:List Value}{ds:List D}{x:Nat},fv ex key cs vs ds [] x=none
 |[],_,_,_,_=>rfl
 | .im _::cs,_,[],_,_=>rfl
 | .im _::cs,key,v::vs,ds,x=>A5 cs
 | .own _ _ _::cs,_,[],_,_=>rfl
 | .own _ _ _::cs,_,_::_,_,_=>rfl
theorem yW{cs:List RC}(h:cs.all RC.nh=true):cs.all RC.solid=true:=by
 rw[all_eq_true] at h⊢
 intro c hc
 have:=h c hc
 cases c with
 |im k=>exact this
 |own _ _ _=>simp[RC.nh] at this
theorem A1{S:Sur}{w':World}(hw:S.w=w'){ax:List RSh}(hfl:(ax.flatMap RSh.cells).all RC.nh=true){f:Nat}{es:List E}{us:List Value}
 (h:ch w' (fun _ _=>False) (ax.flatMap RSh.cells) us (dG (fun c=>Φ f c (es.map (E.den Φ env))) 0 ax) []):
 bB S ((n7 ax (iu 0 (ax.flatMap RSh.cells) (fU f es 0 ax))).den Φ env) (jt ax us):=by
 have hel:(fU f es 0 ax).length=(ax.flatMap RSh.cells).length:=iF f es ax 0
 rw[<-lZ] at h
 have h2:=h.to (M':=S.me) (.inr (yW hfl))
 exact pH ax (kO (ex:=false) hw rfl _ h2 hel fun x ob h f hx=>by rw[A5] at hx;cases hx) (gM _ _ _ hel)
theorem tN(R:Rel C g (s.den Φ env) a w){f:FuncId}{args:List XSh}{ax:List RSh}(hF:Hy C.P f args ax (Φ f))(hfn:∃fn,C.P.funcs[f]? =some fn∧fn.body≠none∧fn.name≠ "runtime.NumGoroutine")
 {c:Call} (ho:o.op= .call c) (hc:c.callee= .value (.func f)) {es:List E} {zs:oj} (hx:jN C.T s args c.argTypes.toList c.args.toList=some (es,zs)) (hnd:iA (zs.map (·.1))=true)
 (hfl:(ax.flatMap RSh.cells).all RC.nh=true) (hpre:(E.den Φ env (.op (.fn f 1000) es)).ZZ=true):
 Does C a w o ((n7 ax (iu 0 (ax.flatMap RSh.cells) (fU f es 0 ax))).den Φ env) ((s.bg (vO f es 0 zs)).den Φ env):=by
 obtain⟨fn,hfn,hb,hname⟩:=hfn
 obtain⟨x1,x2,x3⟩:=sA R hx
 have hnd':=gU hnd
 have hFn:=yC R hnd'
 have hFx:∀b,b∈(tgF g zs).flatten->∃x,x∈zs.map (·.1)∧Ob.isX ((s.den Φ env).obj x)=true∧b∈g.fp x:=fun b hbm=>by
  obtain⟨F,hF,hb'⟩:=mem_flatten.1 hbm
  obtain⟨q,hq,rfl⟩:=mem_map.1 hF
  obtain⟨xs,hxs⟩:=x3 q hq
  exact⟨q.1,mem_map.2 ⟨q,hq,rfl⟩,by rw[hxs];rfl,hb'⟩
 have hMe:∀b o,Me C.M (s.den Φ env).obj g.hd g.fp b o->b<w.heap.size:=by
  rintro b o (hM|⟨x,hl,hx⟩|⟨x,hl,hx⟩)
  · exact lt_of_lt_of_le (C.oL b o hM).1 R.fr.size
  · exact(R.alw x b (R.er hl hx)).2
  · exact(R.alw x b hx).2
 simp only[E.den,E.ck,opD] at hpre
 have hcall:=hF w (fun b o=>Me C.M (s.den Φ env).obj g.hd g.fp b o∧b ∉ (tgF g zs).flatten) _ _ _ (fun b o hm=>⟨hMe b o hm.1,hm.2⟩) (fun w' hfr=>C.gl w' (R.fr.trans hfr fun b hb=>by
  obtain⟨x,_,_,h2⟩:=hFx b hb
  exact(R.alw x b h2).1)) (x1.mono fun b o hm=>by
  rcases hm with hm|hm
  · exact hm.1
  · obtain⟨x,_,h1,h2⟩:=hFx b hm
    exact .inr (.inr ⟨x,h1,h2⟩)) hFn (fun b hb=>by
    obtain⟨x,_,_,h2⟩:=hFx b hb
    exact(R.alw x b h2).2) hpre
 refine ka R hfn hb hname ho hc ?_
 have harr:(c.args.toList.map a.eval).toArray=c.args.map a.eval:=by apply ext';simp
 rw[harr] at hcall
 refine hcall.mono fun e w' ⟨us,Gs,he,hfr,hret,hout,hGn,hGb⟩=> ?_
 rw[x2] at hout
 have hob:=AO (Φ:=Φ) (env:=env) (f:=f) (es:=es) s hout hnd'
 have hGl:Gs.length=zs.length:=by rw[BO hout];simp
 refine⟨_,⟨g.hd,nZ zs Gs g.fp⟩,he,A1 rfl hfl hret,?_⟩
 refine R.RK hfr (by simp[SSt.den,SSt.fD]) (fun _=>rfl) (fun b hb=>by obtain⟨x,_,h1,h2⟩:=hFx b hb;exact⟨x,h1,h2⟩) (fun x=> ?_) (fun x y hxy b hb hb'=> ?_)
 · rcases hob x with ⟨h0,h1,h2⟩|⟨t,ks,d,hm,h1,h2,h3,h4⟩
   · refine .inl ⟨h1,h2,fun b hb hbF=> ?_⟩
     obtain⟨y,hy,_,hb'⟩:=hFx b hbF
     exact R.apart x y (fun e=>h0 (e▸hy)) b hb hb'
   · obtain⟨xs,hxs⟩:=x3 _ hm
     refine .inr ⟨t,ks,xs,d,hxs,h1,h2,(pairwise_flatten.1 hGn).1 _ h4,fun b hb=> ?_,h3⟩
     obtain⟨q1,q2⟩:=hGb b (mem_flatten.2 ⟨_,h4,hb⟩)
     refine⟨?_,q2⟩
     rcases q1 with q1|q1
     · exact .inr (.inr q1)
     · exact .inr (.inl q1)
 · -- apart
   have one:∀{x y:Nat},x≠y->(∃G,G∈Gs∧nZ zs Gs g.fp x=G)->x∈zs.map (·.1)->y ∉ zs.map (·.1)->∀b,b∈nZ zs Gs g.fp x->b ∉ g.fp y:=fun{x y} hxy ⟨G,hG,e⟩ hx hy b hb hb'=>by
    rw[e] at hb
    rcases(hGb b (mem_flatten.2 ⟨G,hG,hb⟩)).1 with q|q
    · have:=(R.alw y b hb').2
      omega
    · obtain⟨z,hz,_,hbz⟩:=hFx b q
      exact R.apart z y (fun e=>hy (e▸hz)) b hbz hb'
   rcases hob x with ⟨h0,h1,h2⟩|⟨t,ks,d,hm,h1,h2,h3,h4⟩
   · rcases hob y with ⟨k0,k1,k2⟩|⟨t',ks',d',km,k1,k2,k3,k4⟩
     · simp only[h2] at hb
       simp only[k2] at hb'
       exact R.apart x y hxy b hb hb'
     · simp only[h2] at hb
       exact one (Ne.symm hxy) ⟨_,k4,rfl⟩ (mem_map.2 ⟨_,km,rfl⟩) h0 b hb' hb
   · rcases hob y with ⟨k0,k1,k2⟩|⟨t',ks',d',km,k1,k2,k3,k4⟩
     · simp only[k2] at hb'
       exact one hxy ⟨_,h4,rfl⟩ (mem_map.2 ⟨_,hm,rfl⟩) k0 b hb hb'
     · exact uV hGl hGn hxy (mem_map.2 ⟨_,hm,rfl⟩) (mem_map.2 ⟨_,km,rfl⟩) b hb hb'
theorem tT(R:Rel C g (s.den Φ env) a w){f:FuncId}{args:List XSh}{ax:List RSh}(hF:Hy C.P f args ax (Φ f))(hfn:∃fn,C.P.funcs[f]? =some fn∧fn.body≠none∧fn.name≠ "runtime.NumGoroutine")
 {c:Call} (ho:o.op= .call c) (hc:c.callee= .value (.func f)) {t:TypeId} {ks:List K} {ss:List XSh} (hsg:args= .one (.own t ks true)::ss) {ty:TypeId} {ts:List TypeId} {x:Operand} {xs:List Operand}
 (hts:c.argTypes.toList=ty::ts) (hxs:c.args.toList=x::xs) {y:Nat} {i:E} {j:Nat} (hsx:sev C.T ty s x= .lod y i j) {t0:TypeId} {ks0:List K} {e0:E} (hy:s.obj y=some (.arx t0 ks0 e0))
 (hk:ks0[j]? =some (.sl t ks)) {es:List E} (hes:jN C.T s ss ts xs=some (es,[])) (hfl:(ax.flatMap RSh.cells).all RC.nh=true)
 {dE nE:E} (hdE:dE.den Φ env=((e0.den Φ env).ae.getD (i.den Φ env).n []).getD j default) (hnE:(nE.den Φ env).ae=(e0.den Φ env).ae.set (i.den Φ env).n (((e0.den Φ env).ae.getD (i.den Φ env).n []).take j++[Φ f 2000 ((E.op .asl [dE]::es).map (E.den Φ env))]++((e0.den Φ env).ae.getD (i.den Φ env).n []).drop (j+1)))
 (hi:(i.den Φ env).n<(e0.den Φ env).ae.length) (hrow:((e0.den Φ env).ae.getD (i.den Φ env).n []).length=ks0.length)
 (hpre:(E.den Φ env (.op (.fn f 1000) (.op .asl [dE]::es))).ZZ=true):
 Does C a w o ((n7 ax (iu 0 (ax.flatMap RSh.cells) (fU f (.op .asl [dE]::es) 0 ax))).den Φ env)
  ((s.bg [(y,.arx t0 ks0 nE)]).den Φ env):=by
 obtain⟨fn,hfn,hb,hname⟩:=hfn
 generalize hI:(i.den Φ env).n=I at hi hrow hdE hnE
 generalize hL:(e0.den Φ env).ae=L at hi hrow hdE hnE
 have hy':=aT (Φ:=Φ) (env:=env) hy
 simp only[SOb.den,hL] at hy'
 have hr:=bG R ty x
 rw[cd hsx] at hr
 simp only[SV.den,hI] at hr
 have hr:cB (sur C g (s.den Φ env) w) y I j (a.eval x):=hr
 unfold cB at hr
 simp only[sur,hy'] at hr
 obtain⟨bb,nn,cap,hhd,_,hcell⟩:=hr
 obtain⟨vss,fps,h1,h2,h3,h4,h5,hlen,h6⟩:=R.wD hy'
 have hvi:vss[I]? =some vss[I]:=getElem?_eq_getElem (by omega)
 have hfi:fps[I]? =some fps[I]:=getElem?_eq_getElem (by omega)
 have hxi:L[I]? =some (L.getD I []):=by simp[List.getD,hi]
 have c2:=h6 I _ _ _ hxi hvi hfi
 have hlvi:vss[I].length=ks0.length:=c2.length
 have hjl:=(List.getElem?_eq_some_iff.1 hk).1
 obtain⟨F1,F2,hF12,r1,r2⟩:=bj.split j c2
 have hkd:ks0.drop j= .sl t ks::ks0.drop (j+1):=by
  rw[List.drop_eq_getElem_cons hjl]
  rw[getElem?_eq_getElem hjl] at hk
  simp only[Option.some.injEq] at hk
  rw[hk]
 rw[hkd] at r2
 obtain⟨v,vs',f1,f2,ev1,ef,rc,rc'⟩:=r2
 have hvj:v=vss[I][j]'(by omega):=by
  rw[List.drop_eq_getElem_cons (by omega:j<vss[I].length)] at ev1
  simp only[List.cons.injEq] at ev1
  exact ev1.1.symm
 have hrowm:Row w bb (I*ks0.length) vss[I]:=hU h1 hlen (by rw[hhd];rfl) hvi
 have hav:a.eval x=v:=by
  have:=hrowm.get j _ (getElem?_eq_getElem (by omega))
  rw[hcell] at this
  simp only[Option.some.injEq] at this
  rw[this,hvj]
 have hd0:((L.getD I []).drop j).headD default=(L.getD I []).getD j default:=by simp[getD_eq_getElem?_getD,List.headD_eq_head?_getD]
 rw[hd0] at rc
 have hfsub:∀b,b∈f1->b∈fps[I]:=fun b hb=>by rw[hF12,ef];simp[hb]
 have hfflat:∀b,b∈f1->b∈fps.flatten:=fun b hb=>mem_flatten.2 ⟨_,mem_of_getElem? hfi,hfsub b hb⟩
 have hffp:∀b,b∈f1->b∈g.fp y:=fun b hb=>by rw[h5];exact mem_append.2 (.inr (hfflat b hb))
 have hown:=R.own y
 rw[h5] at hown
 obtain⟨o1,o2,o3⟩:=nodup_append.1 hown
 have hni:=(pairwise_flatten.1 o2).1 _ (mem_of_getElem? hfi)
 rw[hF12,ef] at hni
 obtain⟨m1,m2,m3⟩:=nodup_append.1 hni
 obtain⟨m4,m5,m6⟩:=nodup_append.1 m2
 have hMe:∀b o,Me C.M (s.den Φ env).obj g.hd g.fp b o->b<w.heap.size:=by
  rintro b o (hM|⟨x,hl,hx⟩|⟨x,hl,hx⟩)
  · exact lt_of_lt_of_le (C.oL b o hM).1 R.fr.size
  · exact(R.alw x b (R.er hl hx)).2
  · exact(R.alw x b hx).2
 have hyX:Ob.isX ((s.den Φ env).obj y)=true:=by rw[hy'];rfl
 obtain⟨x1,x2,x3⟩:=sA R hes
 simp only[tgF,map_nil] at x1
 have hrcS:=rc
 obtain⟨vssI,fpsI,k1,k2,k3,k4,k5,k6⟩:=hrcS
 have hfld:E.den Φ env (.op .asl [dE])= .sl ((L.getD I []).getD j default).ae:=by
  simp only[E.den,E.bC,opD,getD_cons_zero,hdE]
 have hX:kW w (fun b o=>(Me C.M (s.den Φ env).obj g.hd g.fp b o∧b ∉ [f1].flatten)∨b∈[f1].flatten) args (c.args.toList.map a.eval) ((.op .asl [dE]::es).map (E.den Φ env)) [f1]:=by
  rw[hsg,hxs]
  refine⟨a.eval x,_,_,_,[f1],[],rfl,rfl,rfl,⟨_,_,_,_,rfl,rfl,?_,rfl,rfl⟩,x1.mono fun b o hm=> ?_⟩
  · rw[hfld,hav]
    exact⟨vssI,fpsI,k1,k2,k3,k4,k5,fun q row us f' e1 e2 e3=>by rw[if_pos rfl];exact k6 q row us f' e1 e2 e3⟩
  · rcases hm with hm|hm
    · exact hm.1
    · simp only[flatten_cons,List.flatten_nil,append_nil] at hm
      exact .inr (.inr ⟨y,hyX,hffp b hm⟩)
 simp only[E.den,E.ck,opD] at hpre
 have hcall:=hF w (fun b o=>Me C.M (s.den Φ env).obj g.hd g.fp b o∧b ∉ [f1].flatten) _ _ _ (fun b o hm=>⟨hMe b o hm.1,hm.2⟩) (fun w' hfr=>C.gl w' (R.fr.trans hfr fun b hb=>(R.alw y b (hffp b (by simpa using hb))).1)) hX (by simpa using m4) (fun b hb=>(R.alw y b (hffp b (by simpa using hb))).2) (by simpa[E.den,E.bC,E.ck,opD] using hpre)
 refine ka R hfn hb hname ho hc ?_
 have harr:(c.args.toList.map a.eval).toArray=c.args.map a.eval:=by apply ext';simp
 rw[harr] at hcall
 refine hcall.mono fun e w' ⟨us,Gs,he,hfr,hret,hout,hGn,hGb⟩=> ?_
 rw[hsg,hxs,show zl (.one (.own t ks true)::ss) ((x::xs).map a.eval)=(t,ks,a.eval x)::zl ss (xs.map a.eval) from rfl,x2] at hout
 simp only[tgV,map_nil] at hout
 obtain⟨G,Gs',rfl,hG1,hG2,hG3⟩:=hout
 have hG3:Gs'=[]:=hG3
 subst hG3
 simp only[flatten_cons,List.flatten_nil,append_nil] at hfr hGn hGb
 rw[hav] at hG1
 have hfx:∀b,b∈f1->∃x,Ob.isX ((s.den Φ env).obj x)=true∧b∈g.fp x:=fun b hb=>⟨y,hyX,hffp b hb⟩
 have hblk:∀b,b∈g.fp y->b ∉ f1->w'.heap[b]? =w.heap[b]? :=fun b hb hn=>hfr.block b (R.alw y b hb).2 hn
 have hbb:bb∈g.fp y:=by rw[h5,hhd];simp[Value.ownBlock]
 have hbn:bb ∉ f1:=fun hm=>o3 bb (by rw[hhd];simp[Value.ownBlock]) bb (hfflat bb hm) rfl
 have hden:((SOb.arx t0 ks0 (nE)).den Φ env)=
  .arx t0 ks0 (L.set I ((L.getD I []).take j++[Φ f 2000 ((.op .asl [dE]::es).map (E.den Φ env))]++(L.getD I []).drop (j+1))):=by
  simp only[SOb.den,hnE]
 have hσ:∀z,((s.bg [(y,.arx t0 ks0 nE)]).den Φ env).obj z=
  if z=y then some (.arx t0 ks0 (L.set I ((L.getD I []).take j++[Φ f 2000 ((.op .asl [dE]::es).map (E.den Φ env))]++(L.getD I []).drop (j+1)))) else(s.den Φ env).obj z:=fun z=>by
  rw[show ∀ob,s.bg [(y,ob)]=s.aU y ob from fun _=>rfl,SSt.bK,St.ap,hden]
 have hG1':mx w' (.sl t ks) v (Φ f 2000 ((.op .asl [dE]::es).map (E.den Φ env))) G:=by
  obtain⟨p1,p2,p3⟩:=hG1
  exact⟨p1,p2,p3⟩
 generalize Φ f 2000 ((.op .asl [dE]::es).map (E.den Φ env))=d' at hσ hG1'
 have hGflat:∀b,b∈G->b∈f1∨w.heap.size<=b:=fun b hb=>(hGb b hb).1.symm
 have hnew:∀b,b∈F1++(G++f2)->b∈fps[I]∨b ∉ fps.flatten:=fun b hb=>by
  rcases mem_append.1 hb with hb|hb
  · left;rw[hF12];simp[hb]
  · rcases mem_append.1 hb with hb|hb
    · rcases hGflat b hb with q|q
      · exact .inl (hfsub b q)
      · right
        intro hm
        have:=(R.alw y b (by rw[h5];exact mem_append.2 (.inr hm))).2
        omega
    · left;rw[hF12,ef];simp[hb]
 have hold:∀b,b∈fps.flatten->b<w.heap.size:=fun b hm=>(R.alw y b (by rw[h5];exact mem_append.2 (.inr hm))).2
 have hnd':(F1++(G++f2)).Nodup:=by
  refine nodup_append.2 ⟨m1,nodup_append.2 ⟨hGn,m5,fun b hb c hc e=> ?_⟩,fun b hb c hc e=> ?_⟩
  · subst e
    rcases hGflat b hb with q|q
    · exact m6 b q b hc rfl
    · have:=hold b (mem_flatten.2 ⟨_,mem_of_getElem? hfi,by rw[hF12,ef];simp[hc]⟩)
      omega
  · subst e
    rcases mem_append.1 hc with hc|hc
    · rcases hGflat b hc with q|q
      · exact m3 b hb b (by simp[ef,q]) rfl
      · have:=hold b (mem_flatten.2 ⟨_,mem_of_getElem? hfi,by rw[hF12];simp[hb]⟩)
        omega
    · exact m3 b hb b (by simp[ef,hc]) rfl
 have hset:=sv fps I fps[I] (F1++(G++f2)) o2 hfi hnew hnd'
 refine⟨_,g.upd y (g.hd y) ((g.hd y).ownBlock.toList++(fps.set I (F1++(G++f2))).flatten),he,A1 rfl hfl hret,?_⟩
 have hfpy:(g.upd y (g.hd y) ((g.hd y).ownBlock.toList++(fps.set I (F1++(G++f2))).flatten)).fp y=(g.hd y).ownBlock.toList++(fps.set I (F1++(G++f2))).flatten:=bh _ _ _
 have hfpz:∀z,z≠y->(g.upd y (g.hd y) ((g.hd y).ownBlock.toList++(fps.set I (F1++(G++f2))).flatten)).fp z=g.fp z:=fun z hz=>aW _ _ hz
 have hmemy:∀b,b∈(g.hd y).ownBlock.toList++(fps.set I (F1++(G++f2))).flatten->b∈g.fp y∨b∈f1∨w.heap.size<=b:=fun b hb=>by
  rcases mem_append.1 hb with hb|hb
  · left;rw[h5];exact mem_append.2 (.inl hb)
  · rcases fB hb with hb|hb
    · left;rw[h5];exact mem_append.2 (.inr hb)
    · rcases mem_append.1 hb with hb|hb
      · left;rw[h5];exact mem_append.2 (.inr (mem_flatten.2 ⟨_,mem_of_getElem? hfi,by rw[hF12];simp[hb]⟩))
      · rcases mem_append.1 hb with hb|hb
        · exact .inr (hGflat b hb)
        · left;rw[h5];exact mem_append.2 (.inr (mem_flatten.2 ⟨_,mem_of_getElem? hfi,by rw[hF12,ef];simp[hb]⟩))
 refine R.RK hfr rfl (fun z=> ?_) hfx (fun z=> ?_) (fun z z' hzz b hb hb'=> ?_)
 · show upd g.hd y (g.hd y) z=g.hd z
   unfold upd;split
   · rename_i e;rw[e]
   · rfl
 · by_cases hz:z=y
   · subst hz
     right
     refine⟨t0,ks0,L,_,hy',by rw[hσ,if_pos rfl],?_,?_,fun b hb=> ?_,fun p q u hu=> ?_⟩
     · rw[hfpy]
       refine⟨vss,fps.set I (F1++(G++f2)),?_,?_,?_,?_,rfl,fun q row vs ff e1 e2 e3=> ?_⟩
       · rw[show(D.sl (L.set I ((L.getD I []).take j++[d']++(L.getD I []).drop (j+1)))).ae.length=L.length by simp[D.ae]]
         refine⟨h1.1,h1.2.imp id ?_⟩
         rintro⟨gb,cap',cur,e1,e2,e3,e4⟩
         rw[hhd] at e1
         simp only[Value.slice.injEq,Option.some.injEq,Addr.mk.injEq,and_true,true_and] at e1
         obtain⟨rfl,_,rfl⟩:=e1
         exact⟨bb,cap,cur,by rw[hhd];simp_all,e2,by rw[hblk bb hbb hbn];exact e3,e4⟩
       · simpa[D.ae] using h2
       · simpa[D.ae] using h3
       · simpa[D.ae] using h4
       · simp only[D.ae] at e1
         by_cases hq:q=I
         · subst hq
           rw[List.getElem?_set_self (by omega)] at e1 e3
           rw[hvi] at e2
           simp only[Option.some.injEq] at e1 e2 e3
           subst e1 e2 e3
           have keep1:∀b,b∈F1->w'.heap[b]? =w.heap[b]? :=fun b hb=>hblk b (by rw[h5];exact mem_append.2 (.inr (mem_flatten.2 ⟨_,mem_of_getElem? hfi,by rw[hF12];simp[hb]⟩))) fun hm=>m3 b hb b (by simp[ef,hm]) rfl
           have keep2:∀b,b∈f2->w'.heap[b]? =w.heap[b]? :=fun b hb=>hblk b (by rw[h5];exact mem_append.2 (.inr (mem_flatten.2 ⟨_,mem_of_getElem? hfi,by rw[hF12,ef];simp[hb]⟩))) fun hm=>m6 b hm b hb rfl
           have q1:=r1.keeps keep1
           have q2:=rc'.keeps keep2
           rw[show((L.getD q []).drop j).tail=(L.getD q []).drop (j+1) by rw[List.tail_drop]] at q2
           have qd:bj w' (.sl t ks::ks0.drop (j+1)) (v::vs') (d'::(L.getD q []).drop (j+1)) (G++f2):=⟨v,vs',G,f2,rfl,rfl,hG1',q2⟩
           have:=bj.append (by rw[length_take,length_take,hrow]) q1 qd
           rw[<-hkd,List.take_append_drop,<-ev1,List.take_append_drop] at this
           simpa using this
         · rw[List.getElem?_set_ne (fun h=>hq h.symm)] at e1 e3
           refine(h6 q row vs ff e1 e2 e3).keeps fun b hb=>hblk b (by rw[h5];exact mem_append.2 (.inr (mem_flatten.2 ⟨_,mem_of_getElem? e3,hb⟩))) fun hm=> ?_
           have hq2:=(List.getElem?_eq_some_iff.1 e3).1
           have hq3:=(List.getElem?_eq_some_iff.1 e3).2
           have hIl:=(List.getElem?_eq_some_iff.1 hfi).1
           have hp:=(pairwise_flatten.1 o2).2
           rcases Nat.lt_or_gt_of_ne hq with hlt|hlt
           · exact List.pairwise_iff_getElem.1 hp q I hq2 hIl hlt b (by rw[hq3];exact hb) b (hfsub b hm) rfl
           · exact List.pairwise_iff_getElem.1 hp I q hIl hq2 hlt b (hfsub b hm) b (by rw[hq3];exact hb) rfl
     · rw[hfpy]
       refine nodup_append.2 ⟨o1,hset,fun b hb c hc e=> ?_⟩
       subst e
       have hbb':b=bb:=by rw[hhd] at hb;simpa[Value.ownBlock] using hb
       subst hbb'
       rcases fB hc with hc|hc
       · exact o3 b hb b hc rfl
       · rcases mem_append.1 hc with hc|hc
         · exact o3 b hb b (mem_flatten.2 ⟨_,mem_of_getElem? hfi,by rw[hF12];simp[hc]⟩) rfl
         · rcases mem_append.1 hc with hc|hc
           · rcases hGflat b hc with q|q
             · exact hbn q
             · have:=(R.alw _ b hbb).2
               omega
           · exact o3 b hb b (mem_flatten.2 ⟨_,mem_of_getElem? hfi,by rw[hF12,ef];simp[hc]⟩) rfl
     · rw[hfpy] at hb
       refine⟨hmemy b hb,?_⟩
       rcases mem_append.1 hb with hb|hb
       · exact lt_of_lt_of_le (R.alw _ b (by rw[h5];exact mem_append.2 (.inl hb))).2 hfr.size
       · rcases fB hb with hb|hb
         · exact lt_of_lt_of_le (hold b hb) hfr.size
         · rcases mem_append.1 hb with hb|hb
           · exact lt_of_lt_of_le (hold b (mem_flatten.2 ⟨_,mem_of_getElem? hfi,by rw[hF12];simp[hb]⟩)) hfr.size
           · rcases mem_append.1 hb with hb|hb
             · exact(hGb b hb).2
             · exact lt_of_lt_of_le (hold b (mem_flatten.2 ⟨_,mem_of_getElem? hfi,by rw[hF12,ef];simp[hb]⟩)) hfr.size
     · refine hu.keep fun b o u' hu' hbk=> ?_
       have:b=bb:=by rw[hhd] at hbk;simpa[bq] using hbk.symm
       subst this
       rw[World.cell?_of_block (w:=w) (a:=⟨b,o,none⟩) (hblk b hbb hbn)]
       exact hu'
   · left
     refine⟨by rw[hσ,if_neg hz],hfpz z hz,fun b hb hm=>R.apart z y hz b hb (hffp b hm)⟩
 · have side:∀z,z≠y->∀b,b∈(g.hd y).ownBlock.toList++(fps.set I (F1++(G++f2))).flatten->b ∉ g.fp z:=fun z hz b hb hb'=>by
    rcases hmemy b hb with q|q|q
    · exact R.apart y z (Ne.symm hz) b q hb'
    · exact R.apart y z (Ne.symm hz) b (hffp b q) hb'
    · have:=(R.alw z b hb').2
      omega
   by_cases hz:z=y
   · subst hz
     rw[hfpy] at hb
     rw[hfpz z' (Ne.symm hzz)] at hb'
     exact side z' (Ne.symm hzz) b hb hb'
   · rw[hfpz z hz] at hb
     by_cases hz':z'=y
     · subst hz'
       rw[hfpy] at hb'
       exact side z hz b hb' hb
     · rw[hfpz z' hz'] at hb'
       exact R.apart z z' hzz b hb hb'
theorem DG(R:Rel C g (s.den Φ env) a w){f:FuncId}{args:List XSh}{ax:List RSh}(hF:Hy C.P f args ax (Φ f))(hfn:∃fn,C.P.funcs[f]? =some fn∧fn.body≠none∧fn.name≠ "runtime.NumGoroutine")
 {c:Call} (ho:o.op= .call c) (hc:c.callee= .value (.func f)) {r:Res} (h:sQ C.T args ax s f c.argTypes.toList c.args.toList=some r) (hr:holds Φ env r.cs):
 Does C a w o (r.v.den Φ env) ((s.bg r.upd).den Φ env):=by
 unfold sQ at h
 have hfl:=(ak h).1
 replace h:=(ak h).2
 split at h
 · rename_i es zs hx
   obtain⟨hnd,h⟩:=ak h
   simp only[Option.some.injEq] at h
   subst h
   exact tN R hF hfn ho hc hx hnd hfl (hr _ (by simp))
 · split at h
   · rename_i t ks dp ss ty ts x xs hts hxs hnone
     split at h
     · rename_i y i j hsx
       split at h
       · rename_i t0 ks0 e0 hy
         split at h
         · rename_i k es hk hes
           obtain⟨h1,hh⟩:=ak h
           clear h
           simp only[and_eq_true] at h1
           obtain⟨rfl,h1,hok⟩:=h1
           have h2:=K.aY h1
           subst h2
           simp only[Option.some.injEq] at hh
           subst hh
           have c0:=hr (.op .ltlen [i,(gu e0 i).1]) (by simp)
           have c1:=hr (.op (.rowlen ks0.length) [nF 64 (gu e0 i).2]) (by simp)
           simp only[E.den,E.bC,opD,D.ZZ,decide_eq_true_eq,getD_cons_zero,getD_cons_succ] at c0 c1
           obtain⟨x1,x2,x3⟩:=uk (Φ:=Φ) (env:=env) e0 i c0
           have x4:=y0 (Φ:=Φ) (env:=env) 64 (gu e0 i).2 hok c1
           have x5:=Et (Φ:=Φ) (env:=env) (j:=j) 64 (gu e0 i).2 hok c1
           rw[x2] at x4 x5
           refine tT R hF hfn ho hc rfl hts hxs hsx hy hk hes hfl x5 ?_ (by rw[<-x1];exact c0) x4 (hr _ (by simp))
           rw[<-x3,<-x2]
           simp only[E.den,E.bC,E.ck,opD,getD_cons_zero,getD_cons_succ,D.aQ,D.row,headD_cons,map_cons,List.length_singleton]
         · cases h
       · cases h
     · cases h
   · cases h
end
end Go.Vx
namespace Go.Vx
open Go.RowKit (Below)
def lY(s:SSt):SC->List Nat
 | .ref z _=>match s.obj z with
   |some (.arr _ _ _ _)=>[z]
   |some (.arx _ _ _)=>[z]
   |_=>[]
 |_=>[]
def BG(s:SSt):SV->List Nat
 | .one c=>lY s c
 | .agg cs=>cs.flatMap (lY s)
 |_=>[]
structure Tk where
 es:List E
 ls:List Nat
 kx:List (Nat×Bool)
 zs:List Nat
 bx:List (Nat×TypeId×List BC×List SC)
def Tk.nil:Tk:=⟨[],[],[],[],[]⟩
def Tk.app(a b:Tk):Tk:=⟨a.es++b.es,a.ls++b.ls,a.kx++b.kx,a.zs++b.zs,a.bx++b.bx⟩
def eI(s:SSt):BC->SC->Option Tk
 | .keep k,c=>match jP s k c with
   |some (e,_)=>some ⟨[e],lY s c,[],[],[]⟩
   |none=>none
 | .im k,c=>match jP s k c with
   |some (e,_)=>some ⟨[e],lY s c,[],[],[]⟩
   |none=>none
 | .own t ks,.nil t' ks'=>bif t'==t&&K.ct ks' ks then some ⟨[.nl],[],[],[],[]⟩ else none
 | .ex t ks _,.nil t' ks'=>bif t'==t&&K.ct ks' ks then some ⟨[.nl],[],[],[],[]⟩ else none
 | .own t ks,.ref z none=>match s.obj z with
   |some (.arr t' ks' _ xs)=>bif t'==t&&K.ct ks' ks then some ⟨[.op .asl [xs]],[],[(z,false)],[z],[]⟩ else none
   |some (.arx t' ks' xs)=>bif t'==t&&K.ct ks' ks then some ⟨[.op .asl [xs]],[],[(z,false)],[z],[]⟩ else none
   |_=>none
 | .ex t ks pin,.ref z none=>match s.obj z with
   |some (.arx t' ks' xs)=>bif t'==t&&K.ct ks' ks then some ⟨[.op .asl [xs]],[],[(z,true)],bif pin then[] else[z],[]⟩ else none
   |_=>none
 |_,_=>none
def dL(s:SSt):List BC->List SC->Option Tk
 |[],[]=>some .nil
 |c::cs,x::xs=>match eI s c x,dL s cs xs with
  |some t,some u=>some (t.app u)
  |_,_=>none
 |_,_=>none
def Ad(T:TypeId->TI)(s:SSt)(ty:TypeId)(x:Operand):BSh->Option Tk
 | .im sh=>match rb T s ty x sh with
   |some (e,_)=>some ⟨[e],BG s (sev T ty s x),[],[],[]⟩
   |none=>none
 | .one c=>match sev T ty s x with
   | .one d=>eI s c d
   |_=>none
 | .agg cs=>match sev T ty s x with
   | .agg ds=>match dL s cs ds with
     |some t=>some { t with es:=[FK t.es] }
     |none=>none
   |_=>none
 | .box T' cs=>match sev T ty s x with
   | .ptr y _ j=>match s.obj y with
     |some (.box T'' ds)=>bif j==0&&T''==T' then match dL s cs ds with
       |some t=>some ⟨[FK t.es],t.ls,(y,true)::t.kx,t.zs,[(y,T',cs,ds)]⟩
       |none=>none
      else none
     |_=>none
   |_=>none
def jD(T:TypeId->TI)(s:SSt):List BSh->List TypeId->List Operand->Option Tk
 |[],[],[]=>some .nil
 |h::hs,t::ts,x::xs=>match Ad T s t x h,jD T s hs ts xs with
  |some a,some b=>some (a.app b)
  |_,_=>none
 |_,_,_=>none
def xB(g:Gh)(q:Nat×Bool):List Nat:=if q.2 then g.fp q.1 else(g.hd q.1).ownBlock.toList
section
variable {Φ:Fns} {env:List D} {C:Cx} {g:Gh} {s:SSt} {a:Act} {w:World}
theorem mq(R:Rel C g (s.den Φ env) a w){M0:Nat->Nat->Prop}(hM:∀b o,M0 b o->Me C.M (s.den Φ env).obj g.hd g.fp b o) {k:K} {c:SC} (hL:∀z,z∈lY s c->∀b,b∈g.fp z->∀o,¬M0 b o)
 {v:Value} (hv:iN (sur C g (s.den Φ env) w) (c.den Φ env) v) {e:E} {l:Bool} (h:jP s k c=some (e,l)):bV w M0 k v (e.den Φ env):=by
 cases c with
 |dat k' e'=>
  obtain⟨h1,h2⟩:=ak h
  have h3:=K.aY h1
  subst h3
  simp only[Option.some.injEq,Prod.mk.injEq] at h2
  obtain⟨rfl,rfl⟩:=h2
  exact bV.mono hM hv
 |nil t ks=>
  obtain⟨h1,h2⟩:=ak h
  have h3:=K.aY h1
  subst h3
  simp only[Option.some.injEq,Prod.mk.injEq] at h2
  obtain⟨rfl,rfl⟩:=h2
  exact bV.mono hM (iN.dn hv)
 |ref z p=>
  simp only[jP] at h
  have hr:aB (sur C g (s.den Φ env) w) z (jK Φ env p) v:=hv
  split at h
  · rename_i t ks dp xs hz
    obtain⟨h1,h2⟩:=ak h
    have h3:=K.aY h1
    subst h3
    simp only[Option.some.injEq,Prod.mk.injEq] at h2
    obtain⟨rfl,rfl⟩:=h2
    rw[eV]
    exact R.ue (aT hz) hr _ (fun _ _ _ hc hn=>⟨hc,fun hm=>hn (hM _ _ hm)⟩) (hL z (by simp[lY,hz]))
  · rename_i t ks xs hz
    obtain⟨h1,h2⟩:=ak h
    have h3:=K.aY h1
    subst h3
    simp only[Option.some.injEq,Prod.mk.injEq] at h2
    obtain⟨rfl,rfl⟩:=h2
    rw[eV]
    unfold aB at hr
    have ho:(sur C g (s.den Φ env) w).obj z=_:=aT (Φ:=Φ) (env:=env) hz
    rw[ho] at hr
    exact bV.mono hM hr.2
  · rename_i t ks xs hz
    obtain⟨h1,h2⟩:=ak h
    simp only[and_eq_true] at h1
    have h3:=K.aY h1.1
    subst h3
    have hp:p=none:=by simpa using h1.2
    subst hp
    simp only[Option.some.injEq,Prod.mk.injEq] at h2
    obtain⟨rfl,rfl⟩:=h2
    have ho:(sur C g (s.den Φ env) w).obj z=_:=aT (Φ:=Φ) (env:=env) hz
    unfold aB at hr
    rw[ho] at hr
    have hv:v=g.hd z:=hr
    subst hv
    exact(R.yV (aT hz)).toC (hL z (by simp[lY,hz]))
  · cases h
 |dead=>simp[jP] at h
theorem tp(R:Rel C g (s.den Φ env) a w){M0:Nat->Nat->Prop}(hM:∀b o,M0 b o->Me C.M (s.den Φ env).obj g.hd g.fp b o):∀{ks:List K}{cs:List SC}(_:∀z,z∈cs.flatMap (lY s)->∀b,b∈g.fp z->∀o,¬M0 b o)
 {vs:List Value} {es:List E} {l:Bool},aE (sur C g (s.den Φ env) w) (cs.map (SC.den Φ env)) vs->eQ s ks cs=some (es,l)->aP w M0 ks vs (es.map (E.den Φ env))
 |[],[],_,vs,es,b,hv,h=>by simp only[eQ,Option.some.injEq,Prod.mk.injEq] at h;obtain⟨rfl,rfl⟩:=h;exact hv
 |[],_::_,_,_,_,_,_,h=>by simp[eQ] at h
 |_::_,[],_,_,_,_,_,h=>by simp[eQ] at h
 |k::ks,c::cs,hL,vs,es,b,hv,h=>by
  obtain⟨v,vs',rfl,_,hc,hr⟩:=hv
  simp only[eQ] at h
  split at h
  · rename_i e b1 es1 b2 h1 h2
    simp only[Option.some.injEq,Prod.mk.injEq] at h
    obtain⟨rfl,rfl⟩:=h
    exact⟨v,vs',rfl,mq R hM (fun z hz=>hL z (by simp[hz])) hc h1,tp R hM (fun z hz=>hL z (by rw[flatMap_cons];exact mem_append.2 (.inr hz))) hr h2⟩
  · cases h
theorem FW(R:Rel C g (s.den Φ env) a w){M0:Nat->Nat->Prop}(hM:∀b o,M0 b o->Me C.M (s.den Φ env).obj g.hd g.fp b o) {ty:TypeId} {x:Operand} (hL:∀z,z∈BG s (sev C.T ty s x)->∀b,b∈g.fp z->∀o,¬M0 b o)
 {sh:ASh} {e:E} {l:Bool} (h:rb C.T s ty x sh=some (e,l)):kE w M0 sh (a.eval x) (e.den Φ env):=by
 have hr:=bG R ty x
 cases sh with
 |one k=>
  simp only[rb] at h
  split at h
  · rename_i c hx
    rw[cd hx] at hr
    rw[hx] at hL
    exact mq R hM hL hr.1 h
  · cases h
 |agg ks=>
  simp only[rb] at h
  split at h
  · rename_i cs hx
    rw[cd hx] at hr
    rw[hx] at hL
    obtain⟨vs,e1,hr⟩:=hr
    split at h
    · rename_i es b1 h1
      simp only[Option.some.injEq,Prod.mk.injEq] at h
      obtain⟨rfl,rfl⟩:=h
      refine⟨vs,e1,?_⟩
      have:=tp R hM hL hr h1
      exact this.ext fun j hj=>og es j (by rw[pt h1];exact hj)
    · cases h
  · cases h
 |pim ks=>simp[rb] at h
structure Hand (C:Cx) (g:Gh) (σ:St) (M0:Nat->Nat->Prop) (kx:List (Nat×Bool)):Prop where
 le:∀b o,M0 b o->Me C.M σ.obj g.hd g.fp b o
 /-- nothing of what is handed over is anybody else's,but the blocks handed over themselves -/
 off:∀q,q∈kx->∀b,b∈g.fp q.1->∀o,M0 b o->b∈xB g q
theorem EL(R:Rel C g (s.den Φ env) a w){M0:Nat->Nat->Prop}(hM:∀b o,M0 b o->Me C.M (s.den Φ env).obj g.hd g.fp b o) {z:Nat} {t:TypeId} {ks:List K} {dp:Bool} {xs:E} (hz:s.obj z=some (.arr t ks dp xs)):
 bU w M0 t ks false (g.hd z) (xs.den Φ env).ae (g.hd z).ownBlock.toList:=by
 have hz':=aT (Φ:=Φ) (env:=env) hz
 have ho:=R.objs z
 unfold bv at ho
 simp only[sur,hz',SOb.den] at ho
 obtain⟨vss,fps,h1,h2,h3,h4,h5,h6⟩:=ho
 have hnd:=R.own z
 rw[h5] at hnd
 obtain⟨n1,n2,n3⟩:=nodup_append.1 hnd
 refine⟨vss,replicate (xs.den Φ env).ae.length [],h1,h2,h3,by simp,?_,fun i row vs f e1 e2 e3=> ?_⟩
 · simp
 · rw[if_neg (by simp)]
   have hf:f=[]:=by
    have:=mem_of_getElem? e3
    exact(mem_replicate.1 this).2
   refine⟨?_,hf⟩
   have hlt:=(List.getElem?_eq_some_iff.1 e1).1
   have e4:fps[i]? =some (fps[i]'(by omega)):=getElem?_eq_getElem (by omega)
   have:=h6 i row vs _ e1 e2 e4
   split at this
   · rename_i hd
     refine this.toC fun b hb o hm=> ?_
     have hbz:b∈g.fp z:=by rw[h5];exact mem_append.2 (.inr (mem_flatten.2 ⟨_,mem_of_getElem? e4,hb⟩))
     rcases hM b o hm with hM'|⟨y,hl,hy⟩|⟨y,hl,hy⟩
     · have:=C.oL b o hM'
       rcases(R.alw z b hbz).1 with q|q
       · omega
       · exact this.2 q
     · by_cases e:y=z
       · subst e
         have hbh:b∈(g.hd y).ownBlock.toList:=by
          rw[fe h1] at hy
          simp[hy]
         exact n3 b hbh b (mem_flatten.2 ⟨_,mem_of_getElem? e4,hb⟩) rfl
       · exact R.apart y z e b (R.er hl hy) hbz
     · by_cases e:y=z
       · subst e
         rw[hz'] at hl
         simp[SOb.den,Ob.isX] at hl
       · exact R.apart y z e b hy hbz
   · exact this.1.mono hM
theorem EQ(R:Rel C g (s.den Φ env) a w){M0:Nat->Nat->Prop}{z:Nat}{t:TypeId}{ks:List K}{xs:E}(hz:s.obj z=some (.arx t ks xs))(hoff:∀b,b∈g.fp z->∀o,M0 b o->b∈(g.hd z).ownBlock.toList):
 bU w M0 t ks false (g.hd z) (xs.den Φ env).ae (g.hd z).ownBlock.toList:=by
 have hz':=aT (Φ:=Φ) (env:=env) hz
 have ho:=R.objs z
 unfold bv at ho
 simp only[sur,hz',SOb.den] at ho
 obtain⟨vss,fps,h1,h2,h3,h4,h5,h6⟩:=ho
 have hnd:=R.own z
 rw[h5] at hnd
 obtain⟨n1,n2,n3⟩:=nodup_append.1 hnd
 refine⟨vss,replicate (xs.den Φ env).ae.length [],h1,h2,h3,by simp,?_,fun i row vs f e1 e2 e3=> ?_⟩
 · simp
 · rw[if_neg (by simp)]
   have hf:f=[]:=by
    have:=mem_of_getElem? e3
    exact(mem_replicate.1 this).2
   refine⟨?_,hf⟩
   have hlt:=(List.getElem?_eq_some_iff.1 e1).1
   have e4:fps[i]? =some (fps[i]'(by omega)):=getElem?_eq_getElem (by omega)
   refine(h6 i row vs _ e1 e2 e4).toC fun b hb o hm=> ?_
   have hbf:=mem_flatten.2 ⟨_,mem_of_getElem? e4,hb⟩
   exact n3 b (hoff b (by rw[h5];exact mem_append.2 (.inr hbf)) o hm) b hbf rfl
theorem Dz(R:Rel C g (s.den Φ env) a w){M0:Nat->Nat->Prop}{z:Nat}{t:TypeId}{ks:List K}{xs:E}(hz:s.obj z=some (.arx t ks xs)):
 bU w M0 t ks true (g.hd z) (xs.den Φ env).ae (g.fp z):=by
 obtain⟨vss,fps,q1,q2,q3,q4,q5,q6⟩:=R.yV (aT (Φ:=Φ) (env:=env) hz)
 exact⟨vss,fps,q1,q2,q3,q4,q5,fun i row us f e1 e2 e3=>by rw[if_pos rfl];exact q6 i row us f e1 e2 e3⟩
theorem ud(w:World)(M0:Nat->Nat->Prop)(t:TypeId)(ks:List K)(dp:Bool):bU w M0 t ks dp (.slice none 0 0) [] []:=
 ⟨[],[],World.ownsRow_nil _ _ _ _,by simp[al],rfl,rfl,rfl,fun i row vs f h=>by simp at h⟩
theorem mm(R:Rel C g (s.den Φ env) a w){M0:Nat->Nat->Prop}:∀{cs:List BC}{xs:List SC}{vs:List Value}{t:Tk},aE (sur C g (s.den Φ env) w) (xs.map (SC.den Φ env)) vs->dL s cs xs=some t->
 Hand C g (s.den Φ env) M0 t.kx->(∀z,z∈t.ls->∀b,b∈g.fp z->∀o,¬M0 b o)->
 (∃Fs,ch w M0 (cs.map BC.rc) vs (t.es.map (E.den Φ env)) Fs∧Fs.flatten=t.kx.flatMap (xB g))∧t.es.length=cs.length∧t.bx=[]
 |[],[],vs,t,hv,h,_,_=>by
  simp only[dL,Option.some.injEq] at h
  subst h
  have hv:vs=[]:=hv
  subst hv
  exact⟨⟨[],⟨rfl,rfl⟩,rfl⟩,rfl,rfl⟩
 |[],_::_,_,_,_,h,_,_=>by simp[dL] at h
 |_::_,[],_,_,_,h,_,_=>by simp[dL] at h
 |c::cs,x::xs,vs,t,hv,h,hH,hL=>by
  obtain⟨v,vs',rfl,_,hc,hr⟩:=hv
  simp only[dL] at h
  split at h
  · rename_i t1 t2 h1 h2
    simp only[Option.some.injEq] at h
    subst h
    obtain⟨⟨Fs,i1,i2⟩,i3,i4⟩:=mm R (M0:=M0) hr h2 ⟨hH.le,fun q hq=>hH.off q (mem_append.2 (.inr hq))⟩ (fun z hz=>hL z (mem_append.2 (.inr hz)))
    have im:∀{k:K}{e:E}{l:Bool},jP s k x=some (e,l)->t1=⟨[e],lY s x,[],[],[]⟩->bV w M0 k v (e.den Φ env):=fun hs e1=>by
     subst e1
     exact mq R hH.le (fun z hz=>hL z (mem_append.2 (.inl hz))) hc hs
    cases c with
    |keep k=>
     simp only[eI] at h1
     split at h1
     · rename_i e l hs
       simp only[Option.some.injEq] at h1
       have hx:=im hs h1.symm
       subst h1
       exact⟨⟨Fs,⟨v,vs',rfl,hx,i1⟩,by simpa[Tk.app] using i2⟩,by simp[Tk.app,i3]<;>omega,by simp[Tk.app,i4]⟩
     · cases h1
    |im k=>
     simp only[eI] at h1
     split at h1
     · rename_i e l hs
       simp only[Option.some.injEq] at h1
       have hx:=im hs h1.symm
       subst h1
       exact⟨⟨Fs,⟨v,vs',rfl,hx,i1⟩,by simpa[Tk.app] using i2⟩,by simp[Tk.app,i3]<;>omega,by simp[Tk.app,i4]⟩
     · cases h1
    |own t0 ks=>
     cases x with
     |nil t' ks'=>
      obtain⟨h3,h4⟩:=ak (show(bif t'==t0&&K.ct ks' ks then some (⟨[.nl],[],[],[],[]⟩:Tk) else none)=some t1 from h1)
      simp only[Option.some.injEq] at h4
      subst h4
      have hv:v= .slice none 0 0:=hc
      subst hv
      exact⟨⟨[]::Fs,⟨_,vs',[],Fs,rfl,rfl,ud _ _ _ _ _,i1⟩,by simpa[Tk.app] using i2⟩,by simp[Tk.app,i3]<;>omega,by simp[Tk.app,i4]⟩
     |ref z p=>
      cases p with
      |some p=>simp[eI] at h1
      |none=>
       simp only[eI] at h1
       have hr':aB (sur C g (s.den Φ env) w) z none v:=hc
       split at h1
       · rename_i t' ks' dp ys hz
         obtain⟨h3,h4⟩:=ak h1
         simp only[and_eq_true,beq_iff_eq] at h3
         obtain⟨rfl,h5⟩:=h3
         have h6:=K.bp h5
         subst h6
         simp only[Option.some.injEq] at h4
         subst h4
         have hz':=aT (Φ:=Φ) (env:=env) hz
         unfold aB at hr'
         simp only[sur,hz',SOb.den] at hr'
         have hv:v=g.hd z:=hr'.2
         subst hv
         refine⟨⟨((g.hd z).ownBlock.toList)::Fs,⟨_,vs',((g.hd z).ownBlock.toList),Fs,rfl,rfl,?_,i1⟩,?_⟩,by simp[Tk.app,i3]<;>omega,by simp[Tk.app,i4]⟩
         · have:=EL R hH.le hz
           simpa[Tk.app,E.den,E.bC,opD] using this
         · simp only[Tk.app,flatten_cons,i2,flatMap_append,flatMap_cons,flatMap_nil,append_nil,xB,false_eq_true,if_false]
       · rename_i t' ks' ys hz
         obtain⟨h3,h4⟩:=ak h1
         simp only[and_eq_true,beq_iff_eq] at h3
         obtain⟨rfl,h5⟩:=h3
         have h6:=K.bp h5
         subst h6
         simp only[Option.some.injEq] at h4
         subst h4
         have hz':=aT (Φ:=Φ) (env:=env) hz
         unfold aB at hr'
         simp only[sur,hz',SOb.den] at hr'
         have hv:v=g.hd z:=hr'
         subst hv
         refine⟨⟨((g.hd z).ownBlock.toList)::Fs,⟨_,vs',((g.hd z).ownBlock.toList),Fs,rfl,rfl,?_,i1⟩,?_⟩,by simp[Tk.app,i3]<;>omega,by simp[Tk.app,i4]⟩
         · have:=EQ R (M0:=M0) hz (fun b hb o hm=>by have:=hH.off (z,false) (by simp[Tk.app]) b hb o hm;simpa[xB] using this)
           simpa[Tk.app,E.den,E.bC,opD] using this
         · simp only[Tk.app,flatten_cons,i2,flatMap_append,flatMap_cons,flatMap_nil,append_nil,xB,false_eq_true,if_false]
       · cases h1
     |_=>simp[eI] at h1
    |ex t0 ks pin=>
     cases x with
     |nil t' ks'=>
      obtain⟨h3,h4⟩:=ak (show(bif t'==t0&&K.ct ks' ks then some (⟨[.nl],[],[],[],[]⟩:Tk) else none)=some t1 from h1)
      simp only[Option.some.injEq] at h4
      subst h4
      have hv:v= .slice none 0 0:=hc
      subst hv
      exact⟨⟨[]::Fs,⟨_,vs',[],Fs,rfl,rfl,ud _ _ _ _ _,i1⟩,by simpa[Tk.app] using i2⟩,by simp[Tk.app,i3]<;>omega,by simp[Tk.app,i4]⟩
     |ref z p=>
      cases p with
      |some p=>simp[eI] at h1
      |none=>
       simp only[eI] at h1
       have hr':aB (sur C g (s.den Φ env) w) z none v:=hc
       split at h1
       · rename_i t' ks' ys hz
         obtain⟨h3,h4⟩:=ak h1
         simp only[and_eq_true,beq_iff_eq] at h3
         obtain⟨rfl,h5⟩:=h3
         have h6:=K.bp h5
         subst h6
         simp only[Option.some.injEq] at h4
         subst h4
         have hz':=aT (Φ:=Φ) (env:=env) hz
         unfold aB at hr'
         simp only[sur,hz',SOb.den] at hr'
         have hv:v=g.hd z:=hr'
         subst hv
         refine⟨⟨(g.fp z)::Fs,⟨_,vs',(g.fp z),Fs,rfl,rfl,?_,i1⟩,?_⟩,by simp[Tk.app,i3]<;>omega,by simp[Tk.app,i4]⟩
         · have:=Dz R (M0:=M0) hz
           simpa[Tk.app,E.den,E.bC,opD] using this
         · simp only[Tk.app,flatten_cons,i2,flatMap_append,flatMap_cons,flatMap_nil,append_nil,xB,if_true]
       · cases h1
     |_=>simp[eI] at h1
  · cases h
def zh(s:SSt)(q:Nat×Bool):Prop:=(q.2=false∧∃t ks dp xs,s.obj q.1=some (.arr t ks dp xs))∨(∃t ks xs,s.obj q.1=some (.arx t ks xs))∨(q.2=true∧∃T cs,s.obj q.1=some (.box T cs))
theorem IT{c:BC}{x:SC}{t:Tk}(h:eI s c x=some t):(∀q,q∈t.kx->zh s q)∧∀z,z∈t.zs->z∈t.kx.map (·.1):=by
 have none':∀{es ls},t=⟨es,ls,[],[],[]⟩->(∀q,q∈t.kx->zh s q)∧∀z,z∈t.zs->z∈t.kx.map (·.1):=fun e=>by
  subst e;exact⟨fun q hq=>by simp at hq,fun z hz=>by simp at hz⟩
 cases c with
 |keep k=>
  simp only[eI] at h
  split at h
  · simp only[Option.some.injEq] at h;exact none' h.symm
  · cases h
 |im k=>
  simp only[eI] at h
  split at h
  · simp only[Option.some.injEq] at h;exact none' h.symm
  · cases h
 |own t0 ks=>
  cases x with
  |nil t' ks'=>
   obtain⟨_,h4⟩:=ak (show(bif t'==t0&&K.ct ks' ks then some (⟨[.nl],[],[],[],[]⟩:Tk) else none)=some t from h)
   simp only[Option.some.injEq] at h4;exact none' h4.symm
  |ref z p=>
   cases p with
   |some p=>simp[eI] at h
   |none=>
    simp only[eI] at h
    split at h
    · rename_i hz
      obtain⟨_,h4⟩:=ak h
      simp only[Option.some.injEq] at h4
      subst h4
      refine⟨fun q hq=> ?_,fun z' hz'=>by simpa using hz'⟩
      simp only[mem_singleton] at hq;subst hq
      exact .inl ⟨rfl,_,_,_,_,hz⟩
    · rename_i hz
      obtain⟨_,h4⟩:=ak h
      simp only[Option.some.injEq] at h4
      subst h4
      refine⟨fun q hq=> ?_,fun z' hz'=>by simpa using hz'⟩
      simp only[mem_singleton] at hq;subst hq
      exact .inr (.inl ⟨_,_,_,hz⟩)
    · cases h
  |_=>simp[eI] at h
 |ex t0 ks pin=>
  cases x with
  |nil t' ks'=>
   obtain⟨_,h4⟩:=ak (show(bif t'==t0&&K.ct ks' ks then some (⟨[.nl],[],[],[],[]⟩:Tk) else none)=some t from h)
   simp only[Option.some.injEq] at h4;exact none' h4.symm
  |ref z p=>
   cases p with
   |some p=>simp[eI] at h
   |none=>
    simp only[eI] at h
    split at h
    · rename_i hz
      obtain⟨_,h4⟩:=ak h
      simp only[Option.some.injEq] at h4
      subst h4
      refine⟨fun q hq=> ?_,fun z' hz'=> ?_⟩
      · simp only[mem_singleton] at hq;subst hq
        exact .inr (.inl ⟨_,_,_,hz⟩)
      · cases pin<;>simp_all
    · cases h
  |_=>simp[eI] at h
theorem ot:∀{cs:List BC}{xs:List SC}{t:Tk},dL s cs xs=some t->(∀q,q∈t.kx->zh s q)∧∀z,z∈t.zs->z∈t.kx.map (·.1)
 |[],[],t,h=>by
  simp only[dL,Option.some.injEq] at h
  subst h
  exact⟨fun q hq=>by simp[Tk.nil] at hq,fun z hz=>by simp[Tk.nil] at hz⟩
 |[],_::_,_,h=>by simp[dL] at h
 |_::_,[],_,h=>by simp[dL] at h
 |c::cs,x::xs,t,h=>by
  simp only[dL] at h
  split at h
  · rename_i t1 t2 h1 h2
    simp only[Option.some.injEq] at h
    subst h
    obtain⟨a1,a2⟩:=IT h1
    obtain⟨b1,b2⟩:=ot h2
    refine⟨fun q hq=> ?_,fun z hz=> ?_⟩
    · rcases mem_append.1 hq with hq|hq
      · exact a1 q hq
      · exact b1 q hq
    · simp only[Tk.app,map_append]
      rcases mem_append.1 hz with hz|hz
      · exact mem_append.2 (.inl (a2 z hz))
      · exact mem_append.2 (.inr (b2 z hz))
  · cases h
def BOx(w w':World)(M:Nat->Nat->Prop)(g:Gh):Nat->List (Nat×TypeId×List BC×List SC)->(Nat->D)->List (List Value)->List (List (List Nat))->Prop
 |_,[],_,Bs,Gs=>Bs=[]∧Gs=[]
 |n,(y,T,cs,_)::bx,φ,Bs,Gs=>∃b us0 us Bs' G Gs',g.hd y= .pointer (some ⟨b,0,none⟩)∧w.heap[b]? =some (.cells (toArray us0) T (0,0))∧Bs=us::Bs'∧Gs=G::Gs'∧
   w'.heap[b]? =some (.cells (toArray us) T (0,0))∧lF w w' M cs us0 us (φ n).row G∧BOx w w' M g (n+1) bx φ Bs' Gs'
def xHD(g:Gh):List (Nat×TypeId×List BC×List SC)->List (List Value)->List (List (List Nat))->List Nat
 |(y,_,cs,_)::bx,us::Bs,G::Gs=>(bq (g.hd y)).toList++(cHD cs us G++xHD g bx Bs Gs)
 |_,_,_=>[]
def xFp(g:Gh):List (Nat×TypeId×List BC×List SC)->List (List (List Nat))->List Nat
 |(y,_,_,_)::bx,G::Gs=>(bq (g.hd y)).toList++(G.flatten++xFp g bx Gs)
 |_,_=>[]
theorem su(R:Rel C g (s.den Φ env) a w){M0:Nat->Nat->Prop}:∀{hs:List BSh}{ts:List TypeId}{xs:List Operand}{t:Tk},jD C.T s hs ts xs=some t->
 Hand C g (s.den Φ env) M0 t.kx->(∀z,z∈t.ls->∀b,b∈g.fp z->∀o,¬M0 b o)->
 (∃Fs,nV w M0 hs (xs.map a.eval) (t.es.map (E.den Φ env)) Fs∧Fs.flatten=t.kx.flatMap (xB g))∧
 (∀{w':World}{M:Nat->Nat->Prop}{n:Nat}{φ:Nat->D}{Bs:List (List Value)}{Gs:List (List (List Nat))},nt w w' M n hs (xs.map a.eval) φ Bs Gs->BOx w w' M g n t.bx φ Bs Gs)∧
 (∀(Bs:List (List Value))(Gs:List (List (List Nat))),bHD hs (xs.map a.eval) Bs Gs=xHD g t.bx Bs Gs∧bFp hs (xs.map a.eval) Gs=xFp g t.bx Gs)∧
 (∀q,q∈t.kx->zh s q)∧(∀z,z∈t.zs->z∈t.kx.map (·.1))∧(∀q,q∈t.bx->s.obj q.1=some (.box q.2.1 q.2.2.2)∧(q.1,true)∈t.kx∧∃u,dL s q.2.2.1 q.2.2.2=some u∧∀r,r∈u.kx->r∈t.kx)
 |[],[],[],t,h,_,_=>by
  simp only[jD,Option.some.injEq] at h
  subst h
  exact⟨⟨[],⟨rfl,rfl,rfl⟩,rfl⟩,fun h=>h,fun Bs Gs=>⟨rfl,rfl⟩,fun q hq=>by simp[Tk.nil] at hq,fun q hq=>by simp[Tk.nil] at hq,fun q hq=>by simp[Tk.nil] at hq⟩
 |h::hs,ty::ts,x::xs,t,hh,hH,hL=>by
  simp only[jD] at hh
  split at hh
  · rename_i t1 t2 h1 h2
    simp only[Option.some.injEq] at hh
    subst hh
    have hH1:Hand C g (s.den Φ env) M0 t1.kx:=⟨hH.le,fun q hq=>hH.off q (mem_append.2 (.inl hq))⟩
    have hL1:∀z,z∈t1.ls->∀b,b∈g.fp z->∀o,¬M0 b o:=fun z hz=>hL z (mem_append.2 (.inl hz))
    obtain⟨⟨Fs,i1,i2⟩,i3,i4,i5,i6,i7⟩:=su R (M0:=M0) h2 ⟨hH.le,fun q hq=>hH.off q (mem_append.2 (.inr hq))⟩ (fun z hz=>hL z (mem_append.2 (.inr hz)))
    have i7':∀q,q∈t2.bx->s.obj q.1=some (.box q.2.1 q.2.2.2)∧(q.1,true)∈(t1.app t2).kx∧∃u,dL s q.2.2.1 q.2.2.2=some u∧∀r,r∈u.kx->r∈(t1.app t2).kx:=fun q hq=>by
     obtain⟨j1,j2,u,j3,j4⟩:=i7 q hq
     exact⟨j1,mem_append.2 (.inr j2),u,j3,fun r hr=>mem_append.2 (.inr (j4 r hr))⟩
    have kx:(∀q,q∈t1.kx->zh s q)->∀q,q∈(t1.app t2).kx->zh s q:=fun h1 q hq=>by
     rcases mem_append.1 hq with hq|hq
     · exact h1 q hq
     · exact i5 q hq
    have zs:(∀z,z∈t1.zs->z∈t1.kx.map (·.1))->∀z,z∈(t1.app t2).zs->z∈(t1.app t2).kx.map (·.1):=fun h1 z hz=>by
     simp only[Tk.app,map_append]
     rcases mem_append.1 hz with hz|hz
     · exact mem_append.2 (.inl (h1 z hz))
     · exact mem_append.2 (.inr (i6 z hz))
    have hr:=bG R ty x
    cases h with
    |im sh=>
     simp only[Ad] at h1
     split at h1
     · rename_i e l hs'
       simp only[Option.some.injEq] at h1
       subst h1
       refine⟨⟨Fs,⟨_,_,_,_,rfl,rfl,FW R hH.le hL1 hs',i1⟩,by simpa[Tk.app] using i2⟩,fun hb=>i3 hb,fun Bs Gs=>i4 Bs Gs,kx (fun q hq=>by simp at hq),zs (fun z hz=>by simp at hz),fun q hq=>i7' q (by simpa[Tk.app] using hq)⟩
     · cases h1
    |one c=>
     simp only[Ad] at h1
     split at h1
     · rename_i d hx
       rw[cd hx] at hr
       have h1':dL s [c] [d]=some t1:=by simp[dL,h1,Tk.app,Tk.nil]
       obtain⟨⟨F,j1,j2⟩,j3,j4⟩:=mm (xs:=[d]) (vs:=[a.eval x]) R ⟨_,_,rfl,hr.2,hr.1,rfl⟩ h1' hH1 hL1
       obtain⟨k1,k2⟩:=ot h1'
       obtain⟨e,he⟩:∃e,t1.es=[e]:=length_eq_one_iff.1 (by simpa using j3)
       rw[he] at j1
       refine⟨⟨F++Fs,⟨a.eval x,xs.map a.eval,e.den Φ env,t2.es.map (E.den Φ env),F,Fs,rfl,by simp[Tk.app,he],rfl,j1,i1⟩,by simp[Tk.app,j2,i2]⟩,fun hb=>by simpa[Tk.app,j4] using i3 hb,fun Bs Gs=>by simpa[Tk.app,j4,bHD,bFp] using i4 Bs Gs,kx k1,zs k2,fun q hq=>i7' q (by simpa[Tk.app,j4] using hq)⟩
     · cases h1
    |agg cs=>
     simp only[Ad] at h1
     split at h1
     · rename_i ds hx
       rw[cd hx] at hr
       obtain⟨us,e1,hr⟩:=hr
       split at h1
       · rename_i t0 h3
         simp only[Option.some.injEq] at h1
         subst h1
         obtain⟨⟨F,j1,j2⟩,j3,j4⟩:=mm R hr h3 hH1 hL1
         obtain⟨k1,k2⟩:=ot h3
         refine⟨⟨F++Fs,⟨us,_,_,_,F,Fs,by rw[map_cons,e1],rfl,rfl,j1.ext fun j hj=>og t0.es j (by rw[j3];simpa using hj),i1⟩,by simp[Tk.app,j2,i2]⟩,fun hb=>by simpa[Tk.app,j4] using i3 hb,fun Bs Gs=>by simpa[Tk.app,j4,bHD,bFp] using i4 Bs Gs,kx k1,zs k2,fun q hq=>i7' q (by simpa[Tk.app,j4] using hq)⟩
       · cases h1
     · cases h1
    |box T' cs=>
     simp only[Ad] at h1
     split at h1
     · rename_i y iE j hx
       rw[cd hx] at hr
       split at h1
       · rename_i T'' ds hy
         obtain⟨h3,h4⟩:=ak h1
         clear h1
         simp only[and_eq_true,beq_iff_eq] at h3
         obtain⟨rfl,rfl⟩:=h3
         split at h4
         · rename_i t0 h5
           simp only[Option.some.injEq] at h4
           subst h4
           have hy':=aT (Φ:=Φ) (env:=env) hy
           have hr:aV (sur C g (s.den Φ env) w) y _ 0 (a.eval x):=hr
           unfold aV at hr
           simp only[sur,hy',SOb.den] at hr
           obtain⟨b,hb,ev⟩:=hr
           have ho:=R.objs y
           unfold bv at ho
           simp only[sur,hy',SOb.den] at ho
           obtain⟨b',us,hb',hfp,hh,hcs⟩:=ho
           rw[hb] at hb'
           simp only[Value.pointer.injEq,Option.some.injEq,Addr.mk.injEq,and_true] at hb'
           subst hb'
           obtain⟨⟨F,j1,j2⟩,j3,j4⟩:=mm (M0:=M0) R hcs h5 ⟨hH.le,fun q hq=>hH1.off q (mem_cons_of_mem _ hq)⟩ hL1
           obtain⟨k1,k2⟩:=ot h5
           refine⟨⟨[b]::(F++Fs),⟨b,us,_,_,_,F,Fs,by rw[map_cons,ev],rfl,rfl,hh,j1.ext fun j hj=>og t0.es j (by rw[j3];simpa using hj),i1⟩,?_⟩,fun hbo=> ?_,fun Bs Gs=> ?_,kx (fun q hq=> ?_),zs (fun z hz=> ?_),fun q hq=> ?_⟩
           · simp only[Tk.app,flatten_cons,List.flatten_append,j2,i2,cons_append,flatMap_cons,flatMap_append,xB,if_true,hfp,nil_append]
           · rw[map_cons,ev] at hbo
             obtain⟨b2,us0,vs',us',Bs',G,Gs',q1,q2,q3,q4,q5,q6,q7⟩:=hbo
             simp only[List.cons.injEq,Value.pointer.injEq,Option.some.injEq,Addr.mk.injEq,and_true] at q1
             obtain⟨rfl,rfl⟩:=q1
             exact⟨b,us0,us',Bs',G,Gs',hb,q2,q3,q4,q5,q6,i3 q7⟩
           · have hblk:bq (a.eval x)=bq (g.hd y):=by rw[ev,hb]
             refine⟨?_,?_⟩
             · cases Bs with
               |nil=>rfl
               |cons B Bs=>
                cases Gs with
                |nil=>rfl
                |cons G Gs=>simp only[map_cons,bHD,Tk.app,cons_append,nil_append,xHD,hblk,(i4 Bs Gs).1]
             · cases Gs with
               |nil=>rfl
               |cons G Gs=>simp only[map_cons,bFp,Tk.app,cons_append,nil_append,xFp,hblk,(i4 Bs Gs).2]
           · rcases mem_cons.1 hq with rfl|hq
             · exact .inr (.inr ⟨rfl,_,_,hy⟩)
             · exact k1 q hq
           · exact mem_cons_of_mem _ (k2 z hz)
           · rcases mem_cons.1 (by simpa[Tk.app] using hq:q∈(y,T'',cs,ds)::t2.bx) with rfl|hq
             · exact⟨hy,by simp[Tk.app],t0,h5,fun r hr=>by simp[Tk.app,hr]⟩
             · exact i7' q hq
         · cases h4
       · cases h1
     · cases h1
  · cases hh
 |[],[],_::_,_,h,_,_=>by simp[jD] at h
 |[],_::_,_,_,h,_,_=>by simp[jD] at h
 |_::_,[],_,_,h,_,_=>by simp[jD] at h
 |_::_,_::_,[],_,h,_,_=>by simp[jD] at h
end
def BC.solid:BC->Bool
 | .keep _=>true
 | .im k=>k.plain
 | .own _ ks=>eO ks
 | .ex _ _ _=>true
def BSh.solid:BSh->Bool
 | .box _ cs=>cs.all BC.solid
 |_=>true
def uN(row:E)(key:Nat):Nat->List BC->List SC->List SC
 |j,.keep _::cs,c::ds=>c::uN row key (j+1) cs ds
 |j,.im k::cs,_::ds=>.dat k (.op (.fld j) [row])::uN row key (j+1) cs ds
 |j,.own _ _::cs,_::ds=>.ref (key+j) none::uN row key (j+1) cs ds
 |j,.ex _ _ pin::cs,c::ds=>(bif pin then c else .ref (key+j) none)::uN row key (j+1) cs ds
 |_,_,_=>[]
def gn(row:E)(key:Nat):Nat->List BC->List SC->List (Nat×SOb)
 |j,.keep _::cs,_::ds=>gn row key (j+1) cs ds
 |j,.im _::cs,_::ds=>gn row key (j+1) cs ds
 |j,.own t ks::cs,_::ds=>(key+j,.arr t ks false (.op (.fld j) [row]))::gn row key (j+1) cs ds
 |j,.ex t ks false::cs,_::ds=>(key+j,.arx t ks (.op (.fld j) [row]))::gn row key (j+1) cs ds
 |j,.ex t ks true::cs,.ref z none::ds=>(z,.arx t ks (.op (.fld j) [row]))::gn row key (j+1) cs ds
 |j,.ex _ _ true::cs,_::ds=>gn row key (j+1) cs ds
 |_,_,_=>[]
def qV(key:Nat):Nat->List BC->List Nat
 |j,.own _ _::cs=>(key+j)::qV key (j+1) cs
 |j,.ex _ _ false::cs=>(key+j)::qV key (j+1) cs
 |j,_::cs=>qV key (j+1) cs
 |_,[]=>[]
def kU(row:E)(key:Nat):Nat->List BC->List SC->List Value->List (List Nat)->List Itm
 |j,.keep _::cs,_::ds,_::us,Gs=>kU row key (j+1) cs ds us Gs
 |j,.im _::cs,_::ds,_::us,Gs=>kU row key (j+1) cs ds us Gs
 |j,.own t ks::cs,_::ds,u::us,G::Gs=>⟨key+j,.arr t ks false (.op (.fld j) [row]),u,G⟩::kU row key (j+1) cs ds us Gs
 |j,.ex t ks false::cs,_::ds,u::us,G::Gs=>⟨key+j,.arx t ks (.op (.fld j) [row]),u,G⟩::kU row key (j+1) cs ds us Gs
 |j,.ex t ks true::cs,.ref z none::ds,u::us,G::Gs=>⟨z,.arx t ks (.op (.fld j) [row]),u,G⟩::kU row key (j+1) cs ds us Gs
 |j,.ex _ _ true::cs,_::ds,_::us,_::Gs=>kU row key (j+1) cs ds us Gs
 |_,_,_,_,_=>[]
section
variable {Φ:Fns} {env:List D} {C:Cx} {g:Gh} {s:SSt} {a:Act} {w w':World}
theorem Cu{w:World}{M:Nat->Nat->Prop}{t:TypeId}{ks:List K}{dp:Bool}{xs:List (List D)}{F:List Nat}(h:bU w M t ks dp (.slice none 0 0) xs F):F=[]:=by
 obtain⟨vss,fps,h1,h2,h3,h4,h5,h6⟩:=h
 have hn:xs.length=0:=by
  rcases h1.2 with ⟨_,q⟩|⟨gg,cap,cur,e,_⟩
  · exact q
  · cases e
 have:fps=[]:=List.eq_nil_of_length_eq_zero (by omega)
 rw[h5,this]
 rfl
structure CI (Φ:Fns) (env:List D) (g:Gh) (s:SSt) (w w':World) (M':Nat->Nat->Prop) (HD:List Nat) (new:List Nat) (i:Itm):Prop where
 kind:(∃t ks xs,i.ob= .arr t ks false xs∧bU w' M' t ks false i.hd (xs.den Φ env).ae i.fp∧(∀b,i.hd.ownBlock=some b->b∈HD)∧i.key∈new)∨
  (∃t ks xs,i.ob= .arx t ks xs∧bU w' M' t ks true i.hd (xs.den Φ env).ae i.fp∧(∀b,b∈i.fp->b∈HD)∧
    (i.key∈new∨∃xs0,s.obj i.key=some (.arx t ks xs0)∧i.hd=g.hd i.key∧∀i' j' x,fK w ks (g.hd i.key) i' j' x->fK w' ks (g.hd i.key) i' j' x))
theorem CI.mono{M':Nat->Nat->Prop}{HD HD' new new':List Nat}{i:Itm}(h:CI Φ env g s w w' M' HD new i)(hH:∀b,b∈HD->b∈HD') (hn:∀x,x∈new->x∈new'):CI Φ env g s w w' M' HD' new' i:=by
 rcases h with ⟨⟨t,ks,xs,h1,h2,h3,h4⟩|⟨t,ks,xs,h1,h2,h3,h4⟩⟩
 · exact⟨.inl ⟨t,ks,xs,h1,h2,fun b hb=>hH b (h3 b hb),hn _ h4⟩⟩
 · exact⟨.inr ⟨t,ks,xs,h1,h2,fun b hb=>hH b (h3 b hb),h4.imp (hn _) id⟩⟩
theorem nX(R:Rel C g (s.den Φ env) a w){M':Nat->Nat->Prop}{row:E}{key:Nat}:∀{cs:List BC}{ds:List SC}{us0 us:List Value}{Gs:List (List Nat)}{t:Tk}{dd:List D}{j:Nat},
 aE (sur C g (s.den Φ env) w) (ds.map (SC.den Φ env)) us0->dL s cs ds=some t->lF w w' M' cs us0 us dd Gs->(∀i,dd.getD i default=(row.den Φ env).row.getD (j+i) default)->
 ((kU row key j cs ds us Gs).map fun i=>(i.key,i.ob))=gn row key j cs ds∧(kU row key j cs ds us Gs).flatMap Itm.fp=Gs.flatten∧
 (∀i,i∈kU row key j cs ds us Gs->CI Φ env g s w w' M' (cHD cs us Gs) (qV key j cs) i)∧
 ∀S:Sur,S.w=w'->Shift (sur C g (s.den Φ env) w) S->(cs.all BC.solid=true∨∀b o,S.me b o->M' b o)->(∀i,i∈kU row key j cs ds us Gs->S.obj i.key=some (i.ob.den Φ env)∧S.hd i.key=i.hd)->
  aE S ((uN row key j cs ds).map (SC.den Φ env)) us
 |[],[],us0,us,Gs,t,dd,j,hv,hb,ho,hd=>by
  obtain⟨rfl,rfl⟩:=ho
  exact⟨rfl,rfl,fun i hi=>by simp[kU] at hi,fun S _ _ _ _=>rfl⟩
 |[],_::_,_,_,_,_,_,_,_,hb,_,_=>by simp[dL] at hb
 |_::_,[],_,_,_,_,_,_,_,hb,_,_=>by simp[dL] at hb
 |c::cs,d::ds,us0,us,Gs,t,dd,j,hv,hb,ho,hd=>by
  obtain⟨v,vs',rfl,hone,hc,hr⟩:=hv
  have hd0:dd.headD default=(row.den Φ env).row.getD j default:=by
   have:=hd 0
   simpa[List.headD_eq_head?_getD,getD_eq_getElem?_getD,List.head?_eq_getElem?] using this
  have hd1:∀i,dd.tail.getD i default=(row.den Φ env).row.getD (j+1+i) default:=fun i=>by
   have:=hd (i+1)
   rw[show j+(i+1)=j+1+i by omega] at this
   rw[<-this]
   simp[getD_eq_getElem?_getD,getElem?_tail]
  have hrow:(E.op (.fld j) [row]).den Φ env=dd.headD default:=by
   rw[hd0];simp[E.den,E.bC,opD]
  simp only[dL] at hb
  split at hb
  · rename_i t1 t2 hb1 hb2
    cases c with
    |keep k=>
     obtain⟨v0,vs0,us',e1,rfl,ho⟩:=ho
     simp only[List.cons.injEq] at e1
     obtain⟨rfl,rfl⟩:=e1
     obtain⟨i1,i2,i3,i4⟩:=nX R (row:=row) (key:=key) (M':=M') hr hb2 ho hd1
     refine⟨i1,i2,i3,fun S hS hs hsol hi=>⟨v,us',rfl,hone,hc.shift hs,i4 S hS hs (hsol.imp (fun h=> ?_) id) hi⟩⟩
     simp only[all_cons,and_eq_true] at h;exact h.2
    |im k=>
     obtain⟨v0,vs0,u,us',e1,rfl,hu,ho⟩:=ho
     simp only[List.cons.injEq] at e1
     obtain⟨rfl,rfl⟩:=e1
     obtain⟨i1,i2,i3,i4⟩:=nX R (row:=row) (key:=key) (M':=M') hr hb2 ho hd1
     refine⟨i1,i2,i3,fun S hS hs hsol hi=>⟨u,us',rfl,hu.jU,?_,i4 S hS hs (hsol.imp (fun h=> ?_) id) hi⟩⟩
     · show bV S.w S.me k u _
       rw[hS,hrow]
       rcases hsol with h|h
       · simp only[all_cons,and_eq_true] at h
         exact hu.Du h.1
       · exact hu.mono h
     · simp only[all_cons,and_eq_true] at h;exact h.2
    |own t0 ks=>
     obtain⟨v0,vs0,u,us',G,Gs',e1,rfl,rfl,hu,ho⟩:=ho
     simp only[List.cons.injEq] at e1
     obtain⟨rfl,rfl⟩:=e1
     obtain⟨i1,i2,i3,i4⟩:=nX R (row:=row) (key:=key) (M':=M') hr hb2 ho hd1
     refine⟨by simp only[kU,gn,map_cons,i1],by simp only[kU,flatMap_cons,i2,flatten_cons],fun i hi=> ?_,fun S hS hs hsol hi=>⟨u,us',rfl,?_,?_,i4 S hS hs (hsol.imp (fun h=> ?_) id) fun i hm=>hi i (mem_cons_of_mem _ hm)⟩⟩
     · rcases mem_cons.1 hi with rfl|hi
       · refine⟨.inl ⟨t0,ks,_,rfl,by rw[hrow];exact hu,fun b hb=>by simp[cHD,hb],by simp[qV]⟩⟩
       · exact(i3 i hi).mono (fun b hb=>by simp only[cHD];exact mem_append.2 (.inr hb)) (fun x hx=>by simp only[qV];exact mem_cons_of_mem _ hx)
     · obtain⟨_,_,hown,_⟩:=hu
       rcases be hown with ⟨e,_⟩|⟨b,c,e,_⟩<;>rw[e]<;>rfl
     · obtain⟨q1,q2⟩:=hi ⟨key+j,.arr t0 ks false (.op (.fld j) [row]),u,G⟩ (by simp[kU])
       show aB S (key+j) none u
       unfold aB
       rw[q1]
       exact⟨trivial,q2.symm⟩
     · simp only[all_cons,and_eq_true] at h;exact h.2
    |ex t0 ks pin=>
     obtain⟨v0,vs0,u,us',G,Gs',e1,rfl,rfl,hu,hpin,ho⟩:=ho
     simp only[List.cons.injEq] at e1
     obtain⟨rfl,rfl⟩:=e1
     obtain⟨i1,i2,i3,i4⟩:=nX R (row:=row) (key:=key) (M':=M') hr hb2 ho hd1
     have hsol':∀{S:Sur},((BC.ex t0 ks pin::cs).all BC.solid=true∨∀b o,S.me b o->M' b o)->(cs.all BC.solid=true∨∀b o,S.me b o->M' b o):=fun h=>h.imp (fun h=>by simp only[all_cons,and_eq_true] at h;exact h.2) id
     have hone':u.oneCell'=true:=by
      obtain⟨_,_,hown,_⟩:=hu
      rcases be hown with ⟨e,_⟩|⟨b,c,e,_⟩<;>rw[e]<;>rfl
     cases pin with
     |false=>
      refine⟨by simp only[kU,gn,map_cons,i1],by simp only[kU,flatMap_cons,i2,flatten_cons],fun i hi=> ?_,fun S hS hs hsol hi=>⟨u,us',rfl,hone',?_,i4 S hS hs (hsol' hsol) fun i hm=>hi i (mem_cons_of_mem _ hm)⟩⟩
      · rcases mem_cons.1 hi with rfl|hi
        · refine⟨.inr ⟨t0,ks,_,rfl,by rw[hrow];exact hu,fun b hb=>by simp only[cHD];exact mem_append.2 (.inl hb),.inl (by simp[qV])⟩⟩
        · exact(i3 i hi).mono (fun b hb=>by simp only[cHD];exact mem_append.2 (.inr hb)) (fun x hx=>by simp only[qV];exact mem_cons_of_mem _ hx)
      · obtain⟨q1,q2⟩:=hi ⟨key+j,.arx t0 ks (.op (.fld j) [row]),u,G⟩ (by simp[kU])
        show aB S (key+j) none u
        unfold aB
        rw[q1]
        exact q2.symm
     |true=>
      obtain⟨rfl,hlod⟩:=hpin rfl
      cases d with
      |nil t' ks'=>
       have hv:u= .slice none 0 0:=hc
       subst hv
       have hG:=Cu hu
       subst hG
       refine⟨by simp only[kU,gn,i1],by simp only[kU,i2,flatten_cons,nil_append],fun i hi=>(i3 i hi).mono (fun b hb=>by simp only[cHD];exact mem_append.2 (.inr hb)) (fun x hx=>hx),fun S hS hs hsol hi=>⟨_,us',rfl,hone,hc.shift hs,i4 S hS hs (hsol' hsol) hi⟩⟩
      |ref z p=>
       cases p with
       |some p=>simp[eI] at hb1
       |none=>
        simp only[eI] at hb1
        split at hb1
        · rename_i t' ks' ys hz
          obtain⟨h3,_⟩:=ak hb1
          simp only[and_eq_true,beq_iff_eq] at h3
          obtain⟨rfl,h5⟩:=h3
          have h6:=K.bp h5
          subst h6
          have hz':=aT (Φ:=Φ) (env:=env) hz
          have hr':aB (sur C g (s.den Φ env) w) z none u:=hc
          unfold aB at hr'
          simp only[sur,hz',SOb.den] at hr'
          have hv:u=g.hd z:=hr'
          refine⟨by simp only[kU,gn,map_cons,i1],by simp only[kU,flatMap_cons,i2,flatten_cons],fun i hi=> ?_,fun S hS hs hsol hi=>⟨u,us',rfl,hone,hc.shift hs,i4 S hS hs (hsol' hsol) fun i hm=>hi i (mem_cons_of_mem _ hm)⟩⟩
          rcases mem_cons.1 hi with rfl|hi
          · refine⟨.inr ⟨t',ks',_,rfl,by rw[hrow];exact hu,fun b hb=>by simp only[cHD];exact mem_append.2 (.inl hb),.inr ⟨ys,hz,hv,?_⟩⟩⟩
            rw[<-hv];exact hlod
          · exact(i3 i hi).mono (fun b hb=>by simp only[cHD];exact mem_append.2 (.inr hb)) (fun x hx=>hx)
        · cases hb1
      |_=>simp[eI] at hb1
  · cases hb
end
def mQ(f:Nat)(es:List E):Nat->Nat->List (Nat×TypeId×List BC×List SC)->List (Nat×SOb)
 |_,_,[]=>[]
 |n,key,(y,T,cs,ds)::bx=>(y,.box T (uN (.op (.fn f (2000+n)) es) key 0 cs ds))::(gn (.op (.fn f (2000+n)) es) key 0 cs ds++mQ f es (n+1) (key+cs.length) bx)
def sC:Nat->List (Nat×TypeId×List BC×List SC)->List Nat
 |_,[]=>[]
 |key,(_,_,cs,_)::bx=>qV key 0 cs++sC (key+cs.length) bx
def ub(g:Gh)(f:Nat)(es:List E):Nat->Nat->List (Nat×TypeId×List BC×List SC)->List (List Value)->List (List (List Nat))->List Itm
 |n,key,(y,T,cs,ds)::bx,us::Bs,G::Gs=>⟨y,.box T (uN (.op (.fn f (2000+n)) es) key 0 cs ds),g.hd y,(bq (g.hd y)).toList⟩::
   (kU (.op (.fn f (2000+n)) es) key 0 cs ds us G++ub g f es (n+1) (key+cs.length) bx Bs Gs)
 |_,_,_,_,_=>[]
def oM:Nat->List RC->List Value->List E->List (List Nat)->List Itm
 |key,.im _::cs,_::vs,_::es,Fs=>oM (key+1) cs vs es Fs
 |key,.own t ks dp::cs,v::vs,e::es,F::Fs=>⟨key,.arr t ks dp e,v,F⟩::oM (key+1) cs vs es Fs
 |_,_,_,_,_=>[]
section
variable {Φ:Fns} {env:List D} {C:Cx} {g:Gh} {s:SSt} {a:Act} {w w':World}
theorem wE{M:Nat->Nat->Prop}:∀(cs:List RC){key:Nat}{vs:List Value}{es:List E}{Fs:List (List Nat)},ch w' M cs vs (es.map (E.den Φ env)) Fs->es.length=cs.length->
 ((oM key cs vs es Fs).map fun i=>(i.key,i.ob))=cM false key cs es∧(oM key cs vs es Fs).flatMap Itm.fp=Fs.flatten∧
 (∀i,i∈oM key cs vs es Fs->∃t ks dp xs,i.ob= .arr t ks dp xs∧bU w' M t ks dp i.hd (xs.den Φ env).ae i.fp∧∀b,i.hd.ownBlock=some b->b∈bD cs vs)∧
 ∀x o h f,fv false key cs vs (es.map (E.den Φ env)) Fs x=some (o,h,f)->∃i,i∈oM key cs vs es Fs∧i.key=x∧i.ob.den Φ env=o∧i.hd=h
 |[],key,vs,es,Fs,hr,hl=>by
  obtain⟨rfl,rfl⟩:=hr
  exact⟨by simp[oM,cM],by simp[oM],fun i hi=>by simp[oM] at hi,fun x o h f hn=>by simp[fv] at hn⟩
 | .im k::cs,key,vs,[],Fs,_,hl=>by simp at hl
 | .own t ks dp::cs,key,vs,[],Fs,_,hl=>by simp at hl
 | .im k::cs,key,vs,e::es,Fs,hr,hl=>by
   obtain⟨v,vs',rfl,hc,hr⟩:=hr
   obtain⟨i1,i2,i3,i4⟩:=wE cs (key:=key+1) (es:=es) hr (by simpa using hl)
   refine⟨by simp only[oM,cM,i1],by simp only[oM,i2],fun i hi=> ?_,fun x o h f hn=> ?_⟩
   · obtain⟨t,ks,dp,xs,q1,q2,q3⟩:=i3 i hi
     exact⟨t,ks,dp,xs,q1,q2,fun b hb=>by simpa[bD,RC.head] using q3 b hb⟩
   · exact i4 x o h f (by simpa[fv] using hn)
 | .own t ks dp::cs,key,vs,e::es,Fs,hr,hl=>by
   obtain⟨v,vs',F,Fs',rfl,rfl,ho,hr⟩:=hr
   obtain⟨i1,i2,i3,i4⟩:=wE cs (key:=key+1) (es:=es) hr (by simpa using hl)
   refine⟨by simp only[oM,cM,map_cons,i1];simp[mkO],by simp only[oM,flatMap_cons,i2,flatten_cons],fun i hi=> ?_,fun x o h f hn=> ?_⟩
   · rcases mem_cons.1 hi with rfl|hi
     · exact⟨t,ks,dp,e,rfl,by simpa using ho,fun b hb=>by simp[bD,RC.head,hb]⟩
     · obtain⟨t,ks,dp,xs,q1,q2,q3⟩:=i3 i hi
       exact⟨t,ks,dp,xs,q1,q2,fun b hb=>by simp only[bD,mem_append];exact .inr (q3 b hb)⟩
   · simp only[fv,map_cons,tail_cons,headD_cons] at hn
     split at hn
     · rename_i hx
       simp only[Option.some.injEq,Prod.mk.injEq] at hn
       obtain⟨rfl,rfl,rfl⟩:=hn
       exact⟨⟨key,.arr t ks dp e,v,F⟩,by simp[oM],hx.symm,by simp[SOb.den,Bb],rfl⟩
     · obtain⟨i,q1,q2⟩:=i4 x o h f hn
       exact⟨i,by simp only[oM];exact mem_cons_of_mem _ q1,q2⟩
inductive BI (Φ:Fns) (env:List D) (C:Cx) (g:Gh) (s:SSt) (w w':World) (M':Nat->Nat->Prop) (HD new:List Nat) (sol:Bool) (l:List Itm) (i:Itm):Prop where
 |arr (h:CI Φ env g s w w' M' HD new i)
 |box (T:TypeId) (cs cs0:List SC) (b:Nat) (us:List Value) (h:i.ob= .box T cs) (h0:s.obj i.key=some (.box T cs0)) (hh:i.hd=g.hd i.key) (hp:i.hd= .pointer (some ⟨b,0,none⟩)) (hf:i.fp=[b]) (hb:b∈HD)
   (hw:w'.heap[b]? =some (.cells (toArray us) T (0,0)))
   (hc:∀S:Sur,S.w=w'->Shift (sur C g (s.den Φ env) w) S->(sol=true∨∀b o,S.me b o->M' b o)->(∀i,i∈l->S.obj i.key=some (i.ob.den Φ env)∧S.hd i.key=i.hd)->aE S (cs.map (SC.den Φ env)) us)
theorem BI.mono{M':Nat->Nat->Prop}{HD HD' new new':List Nat}{sol sol':Bool}{l l':List Itm}{i:Itm}(h:BI Φ env C g s w w' M' HD new sol l i)(hH:∀b,b∈HD->b∈HD') (hn:∀x,x∈new->x∈new') (hs:sol'=true->sol=true) (hl:∀i,i∈l->i∈l'):
 BI Φ env C g s w w' M' HD' new' sol' l' i:=by
 cases h with
 |arr h=>exact .arr (h.mono hH hn)
 |box T cs cs0 b us h h0 hh hp hf hb hw hc=>exact .box T cs cs0 b us h h0 hh hp hf (hH b hb) hw fun S q1 q2 q3 q4=>hc S q1 q2 (q3.imp hs id) fun i hi=>q4 i (hl i hi)
theorem xM(R:Rel C g (s.den Φ env) a w){M':Nat->Nat->Prop}{f:Nat}{es:List E}:∀{bx:List (Nat×TypeId×List BC×List SC)}{n key:Nat}{Bs:List (List Value)}{Gs:List (List (List Nat))},
 (∀q,q∈bx->s.obj q.1=some (.box q.2.1 q.2.2.2)∧∃u,dL s q.2.2.1 q.2.2.2=some u)->BOx w w' M' g n bx (fun n=>Φ f (2000+n) (es.map (E.den Φ env))) Bs Gs->
 ((ub g f es n key bx Bs Gs).map fun i=>(i.key,i.ob))=mQ f es n key bx∧(ub g f es n key bx Bs Gs).flatMap Itm.fp=xFp g bx Gs∧
 ∀i,i∈ub g f es n key bx Bs Gs->BI Φ env C g s w w' M' (xHD g bx Bs Gs) (sC key bx) (bx.all fun q=>q.2.2.1.all BC.solid) (ub g f es n key bx Bs Gs) i
 |[],n,key,Bs,Gs,_,h=>by
  obtain⟨rfl,rfl⟩:=h
  exact⟨rfl,rfl,fun i hi=>by simp[ub] at hi⟩
 |(y,T,cs,ds)::bx,n,key,_,_,hb,h=>by
  obtain⟨b,us0,us,Bs,G,Gs,h1,h2,rfl,rfl,h3,h4,h5⟩:=h
  obtain⟨hy,u,hu⟩:=hb _ (List.mem_cons_self ..)
  simp only at hy hu
  have hy':=aT (Φ:=Φ) (env:=env) hy
  have ho:=R.objs y
  unfold bv at ho
  simp only[sur,hy',SOb.den] at ho
  obtain⟨b',us1,hb',hfp,hh,hcs⟩:=ho
  rw[h1] at hb'
  simp only[Value.pointer.injEq,Option.some.injEq,Addr.mk.injEq,and_true] at hb'
  subst hb'
  rw[h2] at hh
  simp only[Option.some.injEq,Obj.cells.injEq,and_true] at hh
  have hus:us0=us1:=by
   have:=congrArg Array.toList hh
   simpa using this
  subst hus
  obtain⟨c1,c2,c3,c4⟩:=nX R (row:=.op (.fn f (2000+n)) es) (key:=key) (M':=M') (j:=0) hcs hu h4 (fun i=>by simp[E.den,E.ck,opD])
  obtain⟨i1,i2,i3⟩:=xM R (M':=M') (f:=f) (es:=es) (key:=key+cs.length) (fun q hq=>hb q (mem_cons_of_mem _ hq)) h5
  refine⟨by simp only[ub,mQ,map_cons,map_append,c1,i1],by simp only[ub,xFp,flatMap_cons,flatMap_append,c2,i2],fun i hi=> ?_⟩
  simp only[ub] at hi
  rcases mem_cons.1 hi with rfl|hi
  · refine .box T _ ds b us rfl hy rfl h1 (by simp[h1,bq]) (by simp[xHD,h1,bq]) h3 fun S q1 q2 q3 q4=>c4 S q1 q2 (q3.imp (fun h=> ?_) id) fun i hi=>q4 i ?_
    · simp only[all_cons,and_eq_true] at h;exact h.1
    · simp only[ub]
      exact mem_cons_of_mem _ (mem_append.2 (.inl hi))
  · rcases mem_append.1 hi with hi|hi
    · exact .arr ((c3 i hi).mono (fun b hb=>by simp[xHD,hb]) (fun x hx=>by simp[sC,hx]))
    · refine(i3 i hi).mono (fun b hb=>by simp[xHD,hb]) (fun x hx=>by simp[sC,hx]) (fun h=> ?_) (fun i hi=> ?_)
      · simp only[all_cons,and_eq_true] at h;exact h.2
      · simp only[ub]
        exact mem_cons_of_mem _ (mem_append.2 (.inr hi))
end
def kZ(T:TypeId->TI)(args:List BSh)(ax:List RSh)(key:Nat)(s:SSt)(f:Nat)(ts:List TypeId)(xs:List Operand):Option Res:=
 match jD T s args ts xs with
 |some t=>
  bif (t.ls.isEmpty||((ax.flatMap RSh.cells).all RC.solid&&t.bx.all fun q=>q.2.2.1.all BC.solid))&&
      (iA (t.zs++((cM false key (ax.flatMap RSh.cells) (fU f t.es 0 ax)).map (·.1)++(mQ f t.es 0 (key+(ax.flatMap RSh.cells).length) t.bx).map (·.1)))&&(iA (t.kx.map (·.1))&&
      ((t.ls.all fun z=>t.kx.all fun q=> !(q.1==z))&&((t.kx.all fun q=>(t.zs++((cM false key (ax.flatMap RSh.cells) (fU f t.es 0 ax)).map (·.1)++(mQ f t.es 0 (key+(ax.flatMap RSh.cells).length) t.bx).map (·.1))).any fun x=>x==q.1)&&
      (((cM false key (ax.flatMap RSh.cells) (fU f t.es 0 ax)).all fun p=>(s.obj p.1).isNone)&&(sC (key+(ax.flatMap RSh.cells).length) t.bx).all fun x=>(s.obj x).isNone))))) then
   some ⟨[.op (.fn f 1000) t.es],n7 ax (iu key (ax.flatMap RSh.cells) (fU f t.es 0 ax)),
    t.zs.map (fun z=>(z,.gone))++(cM false key (ax.flatMap RSh.cells) (fU f t.es 0 ax)++mQ f t.es 0 (key+(ax.flatMap RSh.cells).length) t.bx)⟩
  else none
 |none=>none
section
variable {Φ:Fns} {env:List D} {C:Cx} {g:Gh} {s:SSt} {a:Act} {w:World} {o:Oper} {key:Nat}
theorem Im(R:Rel C g (s.den Φ env) a w){q:Nat×Bool}(h:zh s q){b:Nat}(hb:b∈xB g q):b∈g.fp q.1∧∀o,Me C.M (s.den Φ env).obj g.hd g.fp b o:=by
 obtain⟨z,ex⟩:=q
 have head:∀{t ks xs},(∃dp,(s.den Φ env).obj z=some (.arr t ks dp xs))∨(s.den Φ env).obj z=some (.arx t ks xs)->b∈(g.hd z).ownBlock.toList->b∈g.fp z∧bq (g.hd z)=some b:=fun{t ks xs} hz hb=>by
  have ho:=R.objs z
  unfold bv at ho
  rcases hz with ⟨dp,hz⟩|hz
  · simp only[sur,hz] at ho
    obtain⟨vss,fps,h1,_,_,_,h5,_⟩:=ho
    exact⟨by rw[h5];exact mem_append.2 (.inl hb),by rw[fe h1];simpa using hb⟩
  · simp only[sur,hz] at ho
    obtain⟨vss,fps,h1,_,_,_,h5,_⟩:=ho
    exact⟨by rw[h5];exact mem_append.2 (.inl hb),by rw[fe h1];simpa using hb⟩
 rcases h with ⟨h1,t,ks,dp,xs,hz⟩|⟨t,ks,xs,hz⟩|⟨h1,T,cs,hz⟩
 · have hz':=aT (Φ:=Φ) (env:=env) hz
   simp only at h1
   subst h1
   obtain⟨q1,q2⟩:=head (.inl ⟨_,hz'⟩) (by simpa[xB] using hb)
   exact⟨q1,fun o=>.inr (.inl ⟨z,by rw[hz'];rfl,q2⟩)⟩
 · have hz':=aT (Φ:=Φ) (env:=env) hz
   have hbf:b∈g.fp z:=by
    cases ex with
    |true=>simpa[xB] using hb
    |false=>exact(head (.inr hz') (by simpa[xB] using hb)).1
   exact⟨hbf,fun o=>.inr (.inr ⟨z,by rw[hz'];rfl,hbf⟩)⟩
 · have hz':=aT (Φ:=Φ) (env:=env) hz
   simp only at h1
   subst h1
   have hbf:b∈g.fp z:=by simpa[xB] using hb
   have ho:=R.objs z
   unfold bv at ho
   simp only[sur,hz',SOb.den] at ho
   obtain⟨b',us,hb',hfp,_,_⟩:=ho
   rw[hfp] at hbf
   simp only[mem_singleton] at hbf
   subst hbf
   exact⟨by rw[hfp];simp,fun o=>.inr (.inl ⟨z,by rw[hz'];rfl,by rw[hb'];rfl⟩)⟩
theorem tc(R:Rel C g (s.den Φ env) a w){f:FuncId}{args:List BSh}{ax:List RSh}(hF:Fz C.P f args ax (Φ f))(hfn:∃fn,C.P.funcs[f]? =some fn∧fn.body≠none∧fn.name≠ "runtime.NumGoroutine")
 {c:Call} (ho:o.op= .call c) (hc:c.callee= .value (.func f)) {r:Res} (h:kZ C.T args ax key s f c.argTypes.toList c.args.toList=some r) (hr:holds Φ env r.cs):
 Does C a w o (r.v.den Φ env) ((s.bg r.upd).den Φ env):=by
 unfold kZ at h
 split at h
 · rename_i t ht
   obtain⟨hck,h2⟩:=ak h
   clear h
   simp only[Option.some.injEq] at h2
   subst h2
   simp only[and_eq_true,Bool.or_eq_true,List.isEmpty_iff] at hck
   obtain⟨hlive,hnk,hkn,hlk,hku,hfr1,hfr2⟩:=hck
   obtain⟨fn,hfn,hbody,hname⟩:=hfn
   generalize hcells:ax.flatMap RSh.cells=cells at*
   have hel:(fU f t.es 0 ax).length=cells.length:=by rw[iF,hcells]
   have hden:=lZ (Φ:=Φ) (env:=env) f t.es ax 0
   generalize fU f t.es 0 ax=rE at*
   have hpre:=hr (.op (.fn f 1000) t.es) (by simp)
   simp only[E.den,E.ck,opD] at hpre
   have hMe:∀b o,Me C.M (s.den Φ env).obj g.hd g.fp b o->b<w.heap.size:=by
    rintro b o (hM|⟨x,hl,hx⟩|⟨x,hl,hx⟩)
    · exact lt_of_lt_of_le (C.oL b o hM).1 R.fr.size
    · exact(R.alw x b (R.er hl hx)).2
    · exact(R.alw x b hx).2
   have hkxs:∀q,q∈t.kx->zh s q:=fun q hq=>by
    have:∀{hs:List BSh}{ts:List TypeId}{xs:List Operand}{t:Tk},jD C.T s hs ts xs=some t->Hand C g (s.den Φ env) (fun _ _=>False) t.kx->∀q,q∈t.kx->zh s q:=fun h hH=>(su R h hH (fun _ _ _ _ _ h=>h)).2.2.2.1
    exact this ht ⟨fun _ _ h=>h.elim,fun _ _ _ _ _ h=>h.elim⟩ q hq
   have hkn':=gU hkn
   have hsame:∀q q',q∈t.kx->q'∈t.kx->q.1=q'.1->q=q':=fun q q' hq hq' e=>by
    obtain⟨i,hi,rfl⟩:=getElem_of_mem hq
    obtain⟨j,hj,rfl⟩:=getElem_of_mem hq'
    by_cases hij:i=j
    · subst hij;rfl
    · have hp:=List.pairwise_iff_getElem.1 hkn'
      rcases Nat.lt_or_gt_of_ne hij with hlt|hlt
      · exact absurd (by rw[getElem_map,getElem_map];exact e) (hp i j (by simpa using hi) (by simpa using hj) hlt)
      · exact absurd (by rw[getElem_map,getElem_map];exact e.symm) (hp j i (by simpa using hj) (by simpa using hi) hlt)
   have hXk:∀b,b∈t.kx.flatMap (xB g)->∃q,q∈t.kx∧b∈xB g q∧b∈g.fp q.1∧∀o,Me C.M (s.den Φ env).obj g.hd g.fp b o:=fun b hb=>by
    obtain⟨q,hq,hbq⟩:=mem_flatMap.1 hb
    exact⟨q,hq,hbq,Im R (hkxs q hq) hbq⟩
   let Mc:Nat->Nat->Prop:=fun b o=>t.ls=[]∧Me C.M (s.den Φ env).obj g.hd g.fp b o∧∀q,q∈t.kx->b ∉ g.fp q.1
   have hHand:Hand C g (s.den Φ env) (fun b o=>Mc b o∨b∈t.kx.flatMap (xB g)) t.kx:=by
    refine⟨fun b o hm=> ?_,fun q hq b hb o hm=> ?_⟩
    · rcases hm with hm|hm
      · exact hm.2.1
      · obtain⟨_,_,_,_,h4⟩:=hXk b hm;exact h4 o
    · rcases hm with hm|hm
      · exact absurd hb (hm.2.2 q hq)
      · obtain⟨q',hq',h2,h3,_⟩:=hXk b hm
        by_cases e:q'.1=q.1
        · rw[<-hsame q' q hq' hq e];exact h2
        · exact absurd hb (R.apart q'.1 q.1 e b h3)
   have hLive:∀z,z∈t.ls->∀b,b∈g.fp z->∀o,¬(Mc b o∨b∈t.kx.flatMap (xB g)):=fun z hz b hb o hm=>by
    rcases hm with hm|hm
    · rw[hm.1] at hz;simp at hz
    · obtain⟨q,hq,_,h3,_⟩:=hXk b hm
      have hne:q.1≠z:=by
       have:=all_eq_true.1 (all_eq_true.1 hlk z hz) q hq
       simpa using this
      exact R.apart q.1 z hne b h3 hb
   obtain⟨⟨Fs,b1,b2⟩,b3,b4,_,b6,b7⟩:=su R ht hHand hLive
   have hFn:Fs.flatten.Nodup:=by
    rw[b2]
    refine List.nodup_iff_pairwise_ne.2 ?_
    rw[List.pairwise_flatMap]
    refine⟨fun q hq=> ?_,?_⟩
    · have hnd:(xB g q).Nodup:=by
       unfold xB
       split
       · exact R.own q.1
       · cases(g.hd q.1).ownBlock<;>simp
      exact List.nodup_iff_pairwise_ne.1 hnd
    · have hp:=List.pairwise_map.1 hkn'
      refine List.Pairwise.imp_of_mem (fun{q q'} hq hq' hne b hb b' hb' e=> ?_) hp
      subst e
      exact R.apart q.1 q'.1 hne b (Im R (hkxs q hq) hb).1 (Im R (hkxs q' hq') hb').1
   have hFl:∀b,b∈Fs.flatten->∃q,q∈t.kx∧b∈xB g q∧b∈g.fp q.1∧∀o,Me C.M (s.den Φ env).obj g.hd g.fp b o:=fun b hb=>hXk b (by rw[<-b2];exact hb)
   have hcall:=hF w Mc _ _ Fs (fun b o hm=>⟨hMe b o hm.2.1,fun hb=>by obtain⟨q,hq,_,h3,_⟩:=hFl b hb;exact hm.2.2 q hq h3⟩)
    (fun w' hfr=>C.gl w' (R.fr.trans hfr fun b hb=>by obtain⟨q,_,_,h3,_⟩:=hFl b hb;exact(R.alw q.1 b h3).1))
    (by rw[b2];exact b1) hFn (fun b hb=>by obtain⟨q,_,_,h3,_⟩:=hFl b hb;exact(R.alw q.1 b h3).2) hpre
   refine ka R hfn hbody hname ho hc ?_
   have harr:(c.args.toList.map a.eval).toArray=c.args.map a.eval:=by apply ext';simp
   rw[harr] at hcall
   refine hcall.mono fun e w' ⟨us,Rs,Bs,Gs,he,hfr,hret,hout,hnd,hfresh⟩=> ?_
   rw[hcells,<-hden] at hret
   rw[hcells,(b4 Bs Gs).1] at hout
   rw[(b4 Bs Gs).1] at hret
   rw[(b4 Bs Gs).2] at hnd hfresh
   have hbx:=b3 hout
   generalize hMP:MeH Mc (bD cells us++xHD g t.bx Bs Gs)=M' at*
   obtain⟨r1,r2,r3,r4⟩:=wE (Φ:=Φ) (env:=env) cells (key:=key) hret hel
   obtain⟨x1,x2,x3⟩:=xM R (M':=M') (f:=f) (es:=t.es) (key:=key+cells.length) (fun q hq=>⟨(b7 q hq).1,by obtain⟨_,_,u,hu,_⟩:=b7 q hq;exact⟨u,hu⟩⟩) hbx
   generalize oM key cells us rE Rs=lR at*
   generalize ub g f t.es 0 (key+cells.length) t.bx Bs Gs=lB at*
   let l:List Itm:=(t.zs.map fun z=>(⟨z,.gone,undef,[]⟩:Itm))++(lR++lB)
   have hupd:(l.map fun i=>(i.key,i.ob))=t.zs.map (fun z=>(z,.gone))++(cM false key cells rE++mQ f t.es 0 (key+cells.length) t.bx):=by
    simp only[l,map_append,List.map_map,r1,x1]
    rfl
   have hkeys:l.map Itm.key=t.zs++((cM false key cells rE).map (·.1)++(mQ f t.es 0 (key+cells.length) t.bx).map (·.1)):=by
    have:l.map Itm.key=(l.map fun i=>(i.key,i.ob)).map (·.1):=by simp[Function.comp_def]
    rw[this,hupd]
    simp[Function.comp_def]
   have hln:(l.map Itm.key).Nodup:=by rw[hkeys];exact gU hnk
   have hkl:∀q,q∈t.kx->q.1∈l.map Itm.key:=fun q hq=>by
    rw[hkeys]
    have:=all_eq_true.1 hku q hq
    obtain⟨x,hx,e⟩:=List.any_eq_true.1 this
    rw[<-(by simpa using e:x=q.1)]
    exact hx
   have hlfp:l.flatMap Itm.fp=Rs.flatten++xFp g t.bx Gs:=by
    simp only[l,flatMap_append,r2,x2]
    have:(t.zs.map fun z=>(⟨z,.gone,undef,[]⟩:Itm)).flatMap Itm.fp=[]:=by
     rw[List.flatMap_map]
     exact List.flatMap_eq_nil_iff.2 fun _ _=>rfl
    rw[this,nil_append]
   rw[<-hlfp] at hnd hfresh
   have hlobj:∀i,i∈l->((s.bg (l.map fun i=>(i.key,i.ob))).den Φ env).obj i.key=some (i.ob.den Φ env):=fun i hi=>by rw[gE _ _ _ hln,gD hln hi]
   have hlhd:∀i,i∈l->(g.eX l).hd i.key=i.hd:=fun i hi=>by simp only[Gh.eX,gD hln hi]
   have hlfpe:∀i,i∈l->(g.eX l).fp i.key=i.fp:=fun i hi=>by simp only[Gh.eX,gD hln hi]
   have hRm:∀i,i∈lR->i∈l:=fun i hi=>mem_append.2 (.inr (mem_append.2 (.inl hi)))
   have hBm:∀i,i∈lB->i∈l:=fun i hi=>mem_append.2 (.inr (mem_append.2 (.inr hi)))
   have hRfree:∀i,i∈lR->s.obj i.key=none:=fun i hi=>by
    have hm:(i.key,i.ob)∈cM false key cells rE:=by rw[<-r1];exact mem_map.2 ⟨i,hi,rfl⟩
    have:=all_eq_true.1 hfr1 _ hm
    simpa using this
   have hNfree:∀x,x∈sC (key+cells.length) t.bx->s.obj x=none:=fun x hx=>by
    have:=all_eq_true.1 hfr2 _ hx
    simpa using this
   have hcase:∀i,i∈l->(i.ob= .gone∧i.fp=[])∨(i∈lR)∨(i∈lB):=fun i hi=>by
    rcases mem_append.1 hi with hi|hi
    · obtain⟨z,_,rfl⟩:=mem_map.1 hi
      exact .inl ⟨rfl,rfl⟩
    · exact .inr (mem_append.1 hi)
   have hsub:t.ls=[]->∀b o,Me C.M ((s.bg (l.map fun i=>(i.key,i.ob))).den Φ env).obj (g.eX l).hd (g.eX l).fp b o->M' b o:=by
    intro hls b o hm
    rw[<-hMP]
    have inl':∀i,i∈l->(Ob.live (some (i.ob.den Φ env))=true∧bq i.hd=some b∨Ob.isX (some (i.ob.den Φ env))=true∧b∈i.fp)->b∈bD cells us++xHD g t.bx Bs Gs:=fun i hi hh=>by
     rcases hcase i hi with ⟨e,_⟩|hi'|hi'
     · rw[e] at hh;simp[SOb.den,Ob.live,Ob.isX] at hh
     · obtain⟨t',ks,dp,xs,e,hown,hhd⟩:=r3 i hi'
       rw[e] at hh
       simp only[SOb.den,Ob.live,Ob.isX,true_and,false_eq_true,false_and,or_false] at hh
       obtain⟨_,_,h1,_⟩:=hown
       rw[fe h1] at hh
       exact mem_append.2 (.inl (hhd b hh))
     · refine mem_append.2 (.inr ?_)
       cases x3 i hi' with
       |arr hci=>
        rcases hci with ⟨⟨t',ks,xs,e,hown,hhd,_⟩|⟨t',ks,xs,e,hown,hhd,_⟩⟩
        · rw[e] at hh
          simp only[SOb.den,Ob.live,Ob.isX,true_and,false_eq_true,false_and,or_false] at hh
          obtain⟨_,_,h1,_⟩:=hown
          rw[fe h1] at hh
          exact hhd b hh
        · rw[e] at hh
          simp only[SOb.den,Ob.live,Ob.isX,false_eq_true,false_and,true_and,false_or] at hh
          exact hhd b hh
       |box T cs cs0 b' us' h0 h00 hh' hp hf hb hw hcc=>
        rw[h0] at hh
        simp only[SOb.den,Ob.live,Ob.isX,true_and,false_eq_true,false_and,or_false] at hh
        rw[hp] at hh
        simp only[bq,Option.some.injEq] at hh
        rw[<-hh];exact hb
    rcases hm with hM|⟨x,hl,hx⟩|⟨x,hl,hx⟩
    · exact .inl ⟨hls,.inl hM,fun q hq hbq=>by
       have:=C.oL b o hM
       rcases(R.alw q.1 b hbq).1 with q1|q1
       · omega
       · exact this.2 q1⟩
    · by_cases hxl:x∈l.map Itm.key
      · obtain⟨i,hi,rfl⟩:=mem_map.1 hxl
        rw[hlobj i hi] at hl
        rw[hlhd i hi] at hx
        exact .inr (inl' i hi (.inl ⟨hl,hx⟩))
      · rw[gE _ _ _ hln,fY.2 hxl] at hl
        simp only[Gh.eX,fY.2 hxl] at hx
        exact .inl ⟨hls,.inr (.inl ⟨x,hl,hx⟩),fun q hq hbq=>R.apart x q.1 (fun e=>hxl (e▸hkl q hq)) b (R.er hl hx) hbq⟩
    · by_cases hxl:x∈l.map Itm.key
      · obtain⟨i,hi,rfl⟩:=mem_map.1 hxl
        rw[hlobj i hi] at hl
        rw[hlfpe i hi] at hx
        exact .inr (inl' i hi (.inr ⟨hl,hx⟩))
      · rw[gE _ _ _ hln,fY.2 hxl] at hl
        simp only[Gh.eX,fY.2 hxl] at hx
        exact .inl ⟨hls,.inr (.inr ⟨x,hl,hx⟩),fun q hq hbq=>R.apart x q.1 (fun e=>hxl (e▸hkl q hq)) b hx hbq⟩
   have hret':ch w' (Me C.M ((s.bg (l.map fun i=>(i.key,i.ob))).den Φ env).obj (g.eX l).hd (g.eX l).fp) cells us (rE.map (E.den Φ env)) Rs:=by
    refine hret.to ?_
    rcases hlive with hl|hl
    · exact .inl (hsub hl)
    · exact .inr hl.1
   have hsol:((t.bx.all fun q=>q.2.2.1.all BC.solid)=true)∨∀b o,(sur C (g.eX l) ((s.bg (l.map fun i=>(i.key,i.ob))).den Φ env) w').me b o->M' b o:=hlive.elim (fun h=>.inr (hsub h)) (fun h=>.inl h.2)
   have own_arr:∀{t':TypeId}{ks:List K}{dp:Bool}{xs:E}{i:Itm},i∈l->i.ob= .arr t' ks dp xs->(bU w' (Me C.M ((s.bg (l.map fun i=>(i.key,i.ob))).den Φ env).obj (g.eX l).hd (g.eX l).fp) t' ks dp i.hd (xs.den Φ env).ae i.fp)->
    bv (sur C (g.eX l) ((s.bg (l.map fun i=>(i.key,i.ob))).den Φ env) w') (g.eX l).fp i.key:=fun{t' ks dp xs i} hi e hO=>by
    unfold bv
    simp only[sur,hlobj i hi,e,SOb.den,hlhd i hi,hlfpe i hi]
    exact hO
   have hrel:Rel C (g.eX l) ((s.bg (l.map fun i=>(i.key,i.ob))).den Φ env) a w':=by
    refine R.Tt l hfr hln (fun b hb=> ?_) (fun i hi=> ?_) (fun hs i hi=> ?_) (fun i hi b hh=> ?_) hnd (fun b hb=> ?_)
    · obtain⟨q,hq,_,h3,h4⟩:=hFl b hb
      exact⟨h4,q.1,hkl q hq,h3⟩
    · rcases hcase i hi with ⟨e,_⟩|hi'|hi'
      · exact .gone (by rw[hlobj i hi,e];rfl)
      · exact .new (fZ (hRfree i hi')) _ (hlobj i hi)
      · cases x3 i hi' with
        |arr hci=>
         rcases hci with ⟨⟨t',ks,xs,e,_,_,hn⟩|⟨t',ks,xs,e,_,_,hn⟩⟩
         · exact .new (fZ (hNfree _ hn)) _ (hlobj i hi)
         · rcases hn with hn|⟨xs0,h0,h1,h2⟩
           · exact .new (fZ (hNfree _ hn)) _ (hlobj i hi)
           · refine .pin t' ks (xs0.den Φ env).ae (by have:=aT (Φ:=Φ) (env:=env) h0;exact this) (xs.den Φ env).ae (by rw[hlobj i hi,e];rfl) (by rw[hlhd i hi];exact h1) h2
        |box T cs cs0 b' us' h0 h00 hh' hp hf hb hw hcc=>
         exact .box T _ (by have:=aT (Φ:=Φ) (env:=env) h00;exact this) T _ (by rw[hlobj i hi,h0];rfl) (by rw[hlhd i hi];exact hh')
    · rcases hcase i hi with ⟨e,hf⟩|hi'|hi'
      · unfold bv
        simp only[sur,hlobj i hi,e,SOb.den,hlfpe i hi]
        exact hf
      · obtain⟨r3',_⟩:(∃t' ks dp xs,i.ob= .arr t' ks dp xs∧bU w' (Me C.M ((s.bg (l.map fun i=>(i.key,i.ob))).den Φ env).obj (g.eX l).hd (g.eX l).fp) t' ks dp i.hd (xs.den Φ env).ae i.fp)∧True:=by
         obtain⟨t',ks,dp,xs,e,hO,_⟩:=r3 i hi'
         refine⟨⟨t',ks,dp,xs,e,?_⟩,trivial⟩
         obtain⟨vss,fps,h1,h2,h3,h4,h5,h6⟩:=hO
         refine⟨vss,fps,h1,h2,h3,h4,h5,fun j row us' f' e1 e2 e3=> ?_⟩
         have:=h6 j row us' f' e1 e2 e3
         split at this
         · rename_i hd;rw[if_pos hd];exact this
         · rename_i hd
           rw[if_neg hd]
           refine⟨?_,this.2⟩
           rcases hlive with hl|hl
           · exact this.1.mono (hsub hl)
           · have hsd:∀q,q∈cells->q.solid=true:=all_eq_true.1 hl.1
             have hm:(i.key,i.ob)∈cM false key cells rE:=by rw[<-r1];exact mem_map.2 ⟨i,hi',rfl⟩
             have hpl:eO ks=true:=by
              have:∀(cs:List RC)(k0:Nat)(es:List E),(i.key,i.ob)∈cM false k0 cs es->(∀q,q∈cs->q.solid=true)->(dp||eO ks)=true:=by
               intro cs
               induction cs with
               |nil=>intro k0 es h;simp[cM] at h
               |cons c cs ih=>
                intro k0 es h hs'
                cases es with
                |nil=>cases c<;>simp[cM] at h
                |cons e0 es=>
                 cases c with
                 |im k=>exact ih _ _ (by simpa[cM] using h) fun q hq=>hs' q (by simp[hq])
                 |own t1 ks1 dp1=>
                  simp only[cM,mem_cons] at h
                  rcases h with h|h
                  · simp only[Prod.mk.injEq,mkO,Bool.false_and,cond_false] at h
                    rw[e] at h
                    obtain⟨_,h⟩:=h
                    simp only[SOb.arr.injEq] at h
                    obtain⟨_,rfl,rfl,_⟩:=h
                    exact hs' (.own t1 ks dp) (by simp)
                  · exact ih _ _ h fun q hq=>hs' q (by simp[hq])
              have:=this cells key rE hm hsd
              cases dp with
              |true=>simp at hd
              |false=>simpa using this
             exact(this.1.plain hpl).toC fun b hb=>by simp at hb
        obtain⟨t',ks,dp,xs,e,hO⟩:=r3'
        exact own_arr hi e hO
      · cases x3 i hi' with
        |arr hci=>
         rcases hci with ⟨⟨t',ks,xs,e,hO,_,hn⟩|⟨t',ks,xs,e,hO,_,hn⟩⟩
         · refine own_arr hi e ?_
           obtain⟨vss,fps,h1,h2,h3,h4,h5,h6⟩:=hO
           refine⟨vss,fps,h1,h2,h3,h4,h5,fun j row us' f' e1 e2 e3=> ?_⟩
           have:=h6 j row us' f' e1 e2 e3
           rw[if_neg (by simp)] at this⊢
           refine⟨?_,this.2⟩
           rcases hsol with hl|hl
           · have hpl:eO ks=true:=by
              have hm:(i.key,i.ob)∈mQ f t.es 0 (key+cells.length) t.bx:=by rw[<-x1];exact mem_map.2 ⟨i,hi',rfl⟩
              have C1:∀(row:E)(k0:Nat)(cs:List BC)(j:Nat)(ds:List SC),(i.key,i.ob)∈gn row k0 j cs ds->cs.all BC.solid=true->eO ks=true:=by
               intro row k0 cs
               induction cs with
               |nil=>intro j ds h;simp[gn] at h
               |cons c cs ih=>
                intro j ds h hs'
                simp only[all_cons,and_eq_true] at hs'
                cases ds with
                |nil=>cases c<;>(try rename_i p;cases p)<;>simp[gn] at h
                |cons d ds=>
                 cases c with
                 |keep k=>exact ih _ _ (by simpa[gn] using h) hs'.2
                 |im k=>exact ih _ _ (by simpa[gn] using h) hs'.2
                 |own t1 ks1=>
                  simp only[gn,mem_cons,Prod.mk.injEq] at h
                  rcases h with ⟨_,h⟩|h
                  · rw[e] at h
                    simp only[SOb.arr.injEq] at h
                    rw[h.2.1];exact hs'.1
                  · exact ih _ _ h hs'.2
                 |ex t1 ks1 pin=>
                  cases pin with
                  |false=>
                   simp only[gn,mem_cons,Prod.mk.injEq] at h
                   rcases h with ⟨_,h⟩|h
                   · rw[e] at h;cases h
                   · exact ih _ _ h hs'.2
                  |true=>
                   cases d with
                   |ref z p=>
                    cases p with
                    |none=>
                     simp only[gn,mem_cons,Prod.mk.injEq] at h
                     rcases h with ⟨_,h⟩|h
                     · rw[e] at h;cases h
                     · exact ih _ _ h hs'.2
                    |some p=>exact ih _ _ (by simpa[gn] using h) hs'.2
                   |_=>exact ih _ _ (by simpa[gn] using h) hs'.2
              have C2:∀(bx:List (Nat×TypeId×List BC×List SC))(n k0:Nat),(i.key,i.ob)∈mQ f t.es n k0 bx->(bx.all fun q=>q.2.2.1.all BC.solid)=true->eO ks=true:=by
               intro bx
               induction bx with
               |nil=>intro n k0 h;simp[mQ] at h
               |cons q bx ih=>
                obtain⟨y,T,cs,ds⟩:=q
                intro n k0 h hs'
                simp only[all_cons,and_eq_true] at hs'
                simp only[mQ,mem_cons,mem_append,Prod.mk.injEq] at h
                rcases h with ⟨_,h⟩|h|h
                · rw[e] at h;cases h
                · exact C1 _ _ _ _ _ h hs'.1
                · exact ih _ _ h hs'.2
              exact C2 _ _ _ hm hl
             exact(this.1.plain hpl).toC fun b hb=>by simp at hb
           · exact this.1.mono hl
         · unfold bv
           simp only[sur,hlobj i hi,e,SOb.den,hlhd i hi,hlfpe i hi]
           obtain⟨vss,fps,h1,h2,h3,h4,h5,h6⟩:=hO
           exact⟨vss,fps,h1,h2,h3,h4,h5,fun j row us' f' e1 e2 e3=>by have:=h6 j row us' f' e1 e2 e3;rwa[if_pos rfl] at this⟩
        |box T cs cs0 b' us' h0 h00 hh' hp hf hb hw hcc=>
         unfold bv
         simp only[sur,hlobj i hi,h0,SOb.den,hlhd i hi,hlfpe i hi]
         exact⟨b',us',hp,hf,hw,hcc _ rfl hs hsol fun j hj=>⟨hlobj j (hBm j hj),hlhd j (hBm j hj)⟩⟩
    · have hfpb:b∈i.fp:=by
       rcases hh with ⟨hl,hb⟩|⟨_,hb⟩
       · rcases hcase i hi with ⟨e,_⟩|hi'|hi'
         · rw[e] at hl;simp[SOb.den,Ob.live] at hl
         · obtain⟨t',ks,dp,xs,e,hown,_⟩:=r3 i hi'
           obtain⟨_,_,h1,_,_,_,h5,_⟩:=hown
           rw[fe h1] at hb
           rw[h5,hb];simp
         · cases x3 i hi' with
           |arr hci=>
            rcases hci with ⟨⟨t',ks,xs,e,hown,_⟩|⟨t',ks,xs,e,hown,_⟩⟩
            · obtain⟨_,_,h1,_,_,_,h5,_⟩:=hown
              rw[fe h1] at hb
              rw[h5,hb];simp
            · rw[e] at hl;simp[SOb.den,Ob.live] at hl
           |box T cs cs0 b' us' h0 h00 hh' hp hf hb' hw hcc=>
            rw[hp] at hb
            simp only[bq,Option.some.injEq] at hb
            rw[hf,hb];simp
       · exact hb
      exact((hfresh b (mem_flatMap.2 ⟨i,hi,hfpb⟩)).1).symm
    · obtain⟨h1,h2⟩:=hfresh b hb
      exact⟨h1.symm,h2⟩
   rw[<-hupd]
   refine⟨_,_,he,?_,hrel⟩
   refine pH ax (kO (ex:=false) rfl rfl cells hret' hel fun x ob h f hq=> ?_) (by rw[gM _ _ _ hel,hcells])
   obtain⟨i,hi,rfl,rfl,rfl⟩:=r4 x ob h f hq
   exact⟨hlobj i (hRm i hi),hlhd i (hRm i hi)⟩
 · cases h
end
def mT(s:SSt):List Nat->Option (List (Nat×SOb))
 |[]=>some []
 |z::zs=>match s.obj z with
  |some (.arr t ks _ xs)=>match mT (s.aU z (.sealed t ks xs)) zs with
   |some l=>some ((z,.sealed t ks xs)::l)
   |none=>none
  |some (.sealed _ _ _)=>mT s zs
  |_=>none
def rY(T:TypeId->TI)(args:List BSh)(ax:List RSh)(key:Nat)(s:SSt)(f:Nat)(ts:List TypeId)(xs:List Operand):Option Res:=
 match kZ T args ax key s f ts xs with
 |some r=>some r
 |none=>match jD T s args ts xs with
  |some t=>match mT s t.ls with
   |some l=>match kZ T args ax key (s.bg l) f ts xs with
    |some r=>some ⟨r.cs,r.v,l++r.upd⟩
    |none=>none
   |none=>none
  |none=>none
def r9(T:TypeId->TI)(t:TypeId)(ks:List K)(s:SSt)(f:Nat)(ts:List TypeId)(xs:List Operand):Option Res:=match ts,xs with
 |[ty],[x]=>match sev T ty s x with
  | .one (.ref z none)=>match s.obj z with
    |some (.arr t' ks' dp xs)=>bif t'==t&&K.ct ks' ks then some ⟨[.op (.fn f 1000) [.op .asl [xs]]],.one (.ref z none),[(z,.arr t ks dp (.op (.fn f 0) [.op .asl [xs]]))]⟩ else none
    |_=>none
  |_=>none
 |_,_=>none
def sJ(T:TypeId->TI)(CT:Nat->Option Sig)(args:List ASh)(key:Nat)(s:SSt)(f:Nat)(ts:List TypeId)(xs:List Operand):Option Res:=
 match tq T CT key s f ts xs with
 |some r=>some r
 |none=>match jD T s (args.map BSh.im) ts xs with
  |some t=>match mT s t.ls with
   |some l=>match tq T CT key (s.bg l) f ts xs with
    |some r=>some ⟨r.cs,r.v,l++r.upd⟩
    |none=>none
   |none=>none
  |none=>none
def rS(T:TypeId->TI)(args:List ASh)(bt:TypeId)(ks:List K)(key:Nat)(s:SSt)(f:Nat)(ts:List TypeId)(xs:List Operand):Option Res:=
 match lN T s args ts xs with
 |some (es,false)=>bif (s.obj key).isNone then some ⟨[.op (.fn f 1000) es],.ptr key (.int 0) 0,[(key,.box bt (lU ks (.op (.fn f 0) es) 0))]⟩ else none
 |_=>none
def vZ(T:TypeId->TI)(CT:Nat->Option Sig)(key:Nat)(s:SSt)(f:Nat)(ts:List TypeId)(xs:List Operand):Option Res:=
 match CT f with
 |some sg=>match sg.xs with
  |none=>match sg.so with
   |some q=>r9 T q.1 q.2 s f ts xs
   |none=>match sg.bs with
    |none=>match sg.nb with
     |none=>sJ T CT sg.args key s f ts xs
     |some q=>rS T sg.args q.1 q.2 key s f ts xs
    |some l=>rY T l sg.ax key s f ts xs
  |some l=>sQ T l sg.ax s f ts xs
 |none=>none
section
variable {Φ:Fns} {env:List D} {C:Cx} {g:Gh} {s:SSt} {a:Act} {w:World} {o:Oper} {key:Nat}
theorem la:∀(zs:List Nat){g:Gh}{s:SSt}{l:List (Nat×SOb)},Rel C g (s.den Φ env) a w->mT s zs=some l->∃g',Rel C g' ((s.bg l).den Φ env) a w
 |[],g,s,l,R,h=>by
  simp only[mT,Option.some.injEq] at h
  subst h
  exact⟨g,R⟩
 |z::zs,g,s,l,R,h=>by
  simp only[mT] at h
  split at h
  · rename_i t ks dp xs hz
    split at h
    · rename_i l' hl
      simp only[Option.some.injEq] at h
      subst h
      have hz':=aT (Φ:=Φ) (env:=env) hz
      have R1:=R.DY hz'
      rw[show(s.den Φ env).aU z (.sealed t ks (xs.den Φ env).ae)=(s.aU z (.sealed t ks xs)).den Φ env by rw[SSt.bK];rfl] at R1
      have:=la zs R1 hl
      exact this
    · cases h
  · exact la zs R h
  · cases h
theorem Cp(R:Rel C g (s.den Φ env) a w){f:FuncId}{args:List BSh}{ax:List RSh}(hF:Fz C.P f args ax (Φ f))(hfn:∃fn,C.P.funcs[f]? =some fn∧fn.body≠none∧fn.name≠ "runtime.NumGoroutine")
 {c:Call} (ho:o.op= .call c) (hc:c.callee= .value (.func f)) {r:Res} (h:rY C.T args ax key s f c.argTypes.toList c.args.toList=some r) (hr:holds Φ env r.cs):
 Does C a w o (r.v.den Φ env) ((s.bg r.upd).den Φ env):=by
 unfold rY at h
 split at h
 · rename_i r' hr'
   simp only[Option.some.injEq] at h
   subst h
   exact tc R hF hfn ho hc hr' hr
 · split at h
   · split at h
     · rename_i l hl
       split at h
       · rename_i r' hr'
         simp only[Option.some.injEq] at h
         subst h
         obtain⟨g1,R1⟩:=la _ R hl
         simp only[SSt.lc]
         exact tc R1 hF hfn ho hc hr' hr
       · cases h
     · cases h
   · cases h
end
theorem Dl{Φ:Fns}{env:List D}{C:Cx}{g:Gh}{s:SSt}{a:Act}{w:World}{o:Oper}{key:Nat}(R:Rel C g (s.den Φ env) a w){CT:Nat->Option Sig}{args:List ASh}{f:FuncId}
 (hCT:∀sg,CT f=some sg->BS C.P f sg.args sg.ax (Φ f)∧∃fn,C.P.funcs[f]? =some fn∧fn.body≠none∧fn.name≠ "runtime.NumGoroutine")
 {c:Call} (ho:o.op= .call c) (hc:c.callee= .value (.func f)) {r:Res} (h:sJ C.T CT args key s f c.argTypes.toList c.args.toList=some r) (hr:holds Φ env r.cs):
 Does C a w o (r.v.den Φ env) ((s.bg r.upd).den Φ env):=by
 unfold sJ at h
 split at h
 · rename_i r' hr'
   simp only[Option.some.injEq] at h
   subst h
   exact yd R hCT ho hc hr' hr
 · split at h
   · split at h
     · rename_i l hl
       split at h
       · rename_i r' hr'
         simp only[Option.some.injEq] at h
         subst h
         obtain⟨g1,R1⟩:=la _ R hl
         simp only[SSt.lc]
         exact yd R1 hCT ho hc hr' hr
       · cases h
     · cases h
   · cases h
section
variable {Φ:Fns} {env:List D} {C:Cx} {g:Gh} {s:SSt} {a:Act} {w:World} {o:Oper}
theorem Cq(R:Rel C g (s.den Φ env) a w){f:FuncId}{t:TypeId}{ks:List K}(hF:Oj C.P f t ks (Φ f))(hfn:∃fn,C.P.funcs[f]? =some fn∧fn.body≠none∧fn.name≠ "runtime.NumGoroutine")
 {c:Call} (ho:o.op= .call c) (hc:c.callee= .value (.func f)) {r:Res} (h:r9 C.T t ks s f c.argTypes.toList c.args.toList=some r) (hr:holds Φ env r.cs):
 Does C a w o (r.v.den Φ env) ((s.bg r.upd).den Φ env):=by
 unfold r9 at h
 split at h
 · rename_i ty x hts hxs
   split at h
   · rename_i z hx
     split at h
     · rename_i t' ks' dp xs hz
       obtain⟨h1,h2⟩:=ak h
       clear h
       simp only[and_eq_true,beq_iff_eq] at h1
       obtain⟨rfl,h3⟩:=h1
       have h4:=K.bp h3
       subst h4
       simp only[Option.some.injEq] at h2
       subst h2
       obtain⟨fn,hfn,hbody,hname⟩:=hfn
       have hz':=aT (Φ:=Φ) (env:=env) hz
       have hv:=bG R ty x
       rw[cd hx] at hv
       have hv0:aB (sur C g (s.den Φ env) w) z none (a.eval x):=hv.1
       have hv1:=hv0
       unfold aB at hv1
       simp only[sur,hz',SOb.den] at hv1
       have hva:a.eval x=g.hd z:=hv1.2
       have hob:=R.objs z
       unfold bv at hob
       simp only[sur,hz',SOb.den] at hob
       have hO:bU w (Me C.M (s.den Φ env).obj g.hd g.fp) t' ks' dp (g.hd z) (xs.den Φ env).ae (g.fp z):=hob
       have hblk:bq (g.hd z)=(g.hd z).ownBlock:=by obtain⟨_,_,q,_⟩:=hO;exact fe q
       have hpre:=hr (.op (.fn f 1000) [.op .asl [xs]]) (by simp)
       simp only[E.den,E.bC,opD,getD_cons_zero] at hpre
       have hcall:=hF w (Me C.M (s.den Φ env).obj g.hd g.fp) dp (g.hd z) _ (g.fp z) (fun b hb o=>.inr (.inl ⟨z,by rw[hz'];rfl,by rw[hblk];exact hb⟩)) (fun w' hf=>C.gl w' (R.fr.trans hf fun b hb=>(R.alw z b (by obtain⟨_,_,_,_,_,_,hFe,_⟩:=hO;rw[hFe];exact mem_append.2 (.inl hb))).1)) hO (R.own z) (fun b hb=>(R.alw z b hb).2) hpre
       refine ka R hfn hbody hname ho hc ?_
       have harr:c.args.map a.eval= #[g.hd z]:=by
        have:(c.args.toList.map a.eval).toArray=c.args.map a.eval:=by apply ext';simp
        rw[<-this,hxs,<-hva];rfl
       rw[harr]
       refine hcall.mono fun e w' ⟨he,hfr,hlen,F',hO',hperm⟩=> ?_
       let i:Itm:=⟨z,.arr t' ks' dp (.op (.fn f 0) [.op .asl [xs]]),g.hd z,F'⟩
       have hden:((E.op (.fn f 0) [.op .asl [xs]]).den Φ env).ae=(Φ f 0 [.sl (xs.den Φ env).ae]).ae:=by simp only[E.den,E.bC,opD,getD_cons_zero]
       have hobj:((s.bg ([i].map fun i=>(i.key,i.ob))).den Φ env).obj z=some (.arr t' ks' dp (Φ f 0 [.sl (xs.den Φ env).ae]).ae):=by
        rw[gE _ _ _ (by simp)]
        simp only[fM,i,if_true,SOb.den,hden]
       have hhd:(g.eX [i]).hd=g.hd:=funext fun y=>by
        simp only[Gh.eX,fM,i]
        by_cases hy:y=z
        · rw[if_pos hy,hy]
        · rw[if_neg hy]
       have hfp:(g.eX [i]).fp z=F':=by simp only[Gh.eX,fM,i,if_true]
       have hheads:∀b,b∈(g.hd z).ownBlock.toList->b∈g.fp z:=fun b hb=>by
        obtain⟨_,_,_,_,_,_,q,_⟩:=hO
        rw[q];exact mem_append.2 (.inl hb)
       have hrel:Rel C (g.eX [i]) ((s.bg ([i].map fun i=>(i.key,i.ob))).den Φ env) a w':=by
        refine R.turn (fun x=>x=z) hfr (by simp[SSt.den,SSt.fD]) (fun b hb=>⟨fun o=>.inr (.inl ⟨z,by rw[hz'];rfl,by rw[hblk];simpa using hb⟩),(R.alw z b (hheads b hb)).1⟩) (fun y hy=> ?_) (fun y hy=> ?_) (fun hs y hy=> ?_) (fun y hy b o hh=> ?_) (fun y hy=> ?_) (fun y hy b hb=> ?_) (fun x y hx hy hxy=>absurd (hx.trans hy.symm) hxy)
        · have hl:fM y [i]=none:=by simp[fM,i,hy]
          refine⟨by rw[gE _ _ _ (by simp),hl],by rw[hhd],by simp only[Gh.eX,hl],fun b hb hbX=>R.apart y z hy b hb (hheads b hbX)⟩
        · subst hy
          exact .arr t' ks' dp (xs.den Φ env).ae (by rw[hz'];rfl) _ hobj (by rw[hhd]) hlen
        · subst hy
          unfold bv
          simp only[sur,hobj,hhd,hfp]
          obtain⟨vss,fps,q1,q2,q3,q4,q5,q6⟩:=hO'
          refine⟨vss,fps,q1,q2,q3,q4,q5,fun j row us f' e1 e2 e3=> ?_⟩
          have:=q6 j row us f' e1 e2 e3
          split at this
          · rename_i hd;rw[if_pos hd];exact this
          · rename_i hd
            rw[if_neg hd]
            refine⟨this.1.mono fun b o hm=> ?_,this.2⟩
            rcases hm with hm|⟨x',hl,hb⟩|⟨x',hl,hb⟩
            · exact .inl hm
            · by_cases hxy:x'=y
              · subst hxy
                exact .inr (.inl ⟨x',by rw[hz'];rfl,hb⟩)
              · have hl0:fM x' [i]=none:=by simp[fM,i,hxy]
                rw[gE _ _ _ (by simp),hl0] at hl
                exact .inr (.inl ⟨x',hl,hb⟩)
            · by_cases hxy:x'=y
              · subst hxy
                rw[hobj] at hl
                simp[Ob.isX] at hl
              · have hl0:fM x' [i]=none:=by simp[fM,i,hxy]
                rw[gE _ _ _ (by simp),hl0] at hl
                simp only[Gh.eX,hl0] at hb
                exact .inr (.inr ⟨x',hl,hb⟩)
        · subst hy
          rw[hobj,hhd] at hh
          rcases hh with ⟨_,hb⟩|⟨hl,_⟩
          · exact .inl (.inr (.inl ⟨y,by rw[hz'];rfl,hb⟩))
          · simp[Ob.isX] at hl
        · subst hy
          rw[hfp]
          exact hperm.nodup_iff.2 (R.own y)
        · subst hy
          rw[hfp] at hb
          have hb':=hperm.mem_iff.1 hb
          exact⟨.inl ⟨y,rfl,hb'⟩,lt_of_lt_of_le (R.alw y b hb').2 hfr.size⟩
       refine⟨g.hd z,_,he,?_,hrel⟩
       refine⟨?_,by rw[<-hva];exact hv.2⟩
       show aB _ z none (g.hd z)
       unfold aB
       simp only[sur,hhd]
       rw[show((s.bg [(z,SOb.arr t' ks' dp (E.op (.fn f 0) [.op .asl [xs]]))]).den Φ env).obj z=_ from hobj]
       exact⟨trivial,trivial⟩
     · cases h
   · cases h
 · cases h
end
theorem Dj{Φ:Fns}{env:List D}{C:Cx}{g:Gh}{s:SSt}{a:Act}{w:World}{o:Oper}{key:Nat}(R:Rel C g (s.den Φ env) a w){f:FuncId}{args:List ASh}{bt:TypeId}{ks:List K}(hF:Vt C.P f args bt ks (Φ f))
 (hfn:∃fn,C.P.funcs[f]? =some fn∧fn.body≠none∧fn.name≠ "runtime.NumGoroutine")
 {c:Call} (ho:o.op= .call c) (hc:c.callee= .value (.func f)) {r:Res} (h:rS C.T args bt ks key s f c.argTypes.toList c.args.toList=some r) (hr:holds Φ env r.cs):
 Does C a w o (r.v.den Φ env) ((s.bg r.upd).den Φ env):=by
 unfold rS at h
 split at h
 · rename_i es hes
   obtain⟨h1,h2⟩:=ak h
   clear h
   simp only[Option.some.injEq] at h2
   subst h2
   have hkey:s.obj key=none:=by simpa using h1
   obtain⟨fn,hfn,hb,hname⟩:=hfn
   have hpre:=hr (.op (.fn f 1000) es) (by simp)
   simp only[E.den,E.ck,opD] at hpre
   have hMe:∀b o,Me C.M (s.den Φ env).obj g.hd g.fp b o->b<w.heap.size:=by
    rintro b o (hM|⟨x,hl,hx⟩|⟨x,hl,hx⟩)
    · exact lt_of_lt_of_le (C.oL b o hM).1 R.fr.size
    · exact(R.alw x b (R.er hl hx)).2
    · exact(R.alw x b hx).2
   have hcall:=hF w (gP false (Me C.M (s.den Φ env).obj g.hd g.fp)) _ _ (fun b o hm=>hMe b o hm.2) (C.gl w R.fr) (rU R hes) hpre
   refine ka R hfn hb hname ho hc ?_
   have harr:(c.args.toList.map a.eval).toArray=c.args.map a.eval:=by apply ext';simp
   rw[harr] at hcall
   refine hcall.mono fun e w' ⟨b,us,he,hbel,hle,hh,hrep⟩=> ?_
   have hk:(s.den Φ env).obj key=none:=by rw[SSt.eL,hkey];rfl
   have hlt:b<w'.heap.size:=(Array.getElem?_eq_some_iff.1 hh).1
   have e1:((s.bg [(key,SOb.box bt (lU ks (.op (.fn f 0) es) 0))]).den Φ env)=(s.den Φ env).aU key (.box bt ((lU ks (.op (.fn f 0) es) 0).map (SC.den Φ env))):=by
    show((s.aU key _).den Φ env)=_
    rw[SSt.bK];rfl
   have hsub:∀c o,Me C.M ((s.den Φ env).aU key (.box bt ((lU ks (.op (.fn f 0) es) 0).map (SC.den Φ env)))).obj (g.upd key (.pointer (some ⟨b,0,none⟩)) [b]).hd (g.upd key (.pointer (some ⟨b,0,none⟩)) [b]).fp c o->gP false (Me C.M (s.den Φ env).obj g.hd g.fp) c o∨c=b:=by
    rintro c o (hM|⟨x,hl,hx⟩|⟨x,hl,hx⟩)
    · exact .inl ⟨rfl,.inl hM⟩
    · rw[St.ap] at hl
      by_cases e:x=key
      · subst e
        simp only[Gh.upd,bh,bq,Option.some.injEq] at hx
        exact .inr hx.symm
      · rw[if_neg e] at hl
        simp only[Gh.upd,aW _ _ e] at hx
        exact .inl ⟨rfl,.inr (.inl ⟨x,hl,hx⟩)⟩
    · rw[St.ap] at hl
      by_cases e:x=key
      · subst e
        simp[Ob.isX] at hl
      · rw[if_neg e] at hl
        simp only[Gh.upd,aW _ _ e] at hx
        exact .inl ⟨rfl,.inr (.inr ⟨x,hl,hx⟩)⟩
   have R1:=R.grow hbel hk (o:=.box bt ((lU ks (.op (.fn f 0) es) 0).map (SC.den Φ env))) (h:=.pointer (some ⟨b,0,none⟩)) (f:=[b]) (fun b' hb'=>by simp[bq] at hb';omega) (by simp) (fun b' hb'=>by simp at hb';subst hb';exact⟨hle,hlt⟩) (by
    unfold bv
    simp only[sur,St.ap,if_pos,Gh.upd,bh]
    refine⟨b,us,rfl,rfl,hh,?_⟩
    have hd:(lU ks (.op (.fn f 0) es) 0).map (SC.den Φ env)=tR ks (Φ f 0 (es.map (E.den Φ env))).row:=by rw[kb,List.drop_zero];simp only[E.den,E.ck,opD]
    have h5:=kP (s:=sur C (g.upd key (.pointer (some ⟨b,0,none⟩)) [b]) ((s.den Φ env).aU key (.box bt ((lU ks (.op (.fn f 0) es) 0).map (SC.den Φ env)))) w') (hrep.mono hsub)
    rw[<-hd] at h5
    exact h5)
   refine⟨_,_,he,?_,by rw[e1];exact R1⟩
   show aV _ key _ 0 _
   unfold aV
   rw[e1]
   simp only[sur,St.ap,if_pos,Gh.upd,bh]
   exact⟨b,rfl,rfl⟩
 · cases h
def Ji(P:Program)(f:FuncId)(bs:Option (List BSh))(so:Option (TypeId×List K))(nb:Option (TypeId×List K))(args:List ASh)(ax:List RSh)(φ:Nat->List D->D):Prop:=match so with
 |some q=>Oj P f q.1 q.2 φ
 |none=>match bs with
  |none=>match nb with
   |none=>BS P f args ax φ
   |some q=>Vt P f args q.1 q.2 φ
  |some l=>Fz P f l ax φ
end Go.Vx

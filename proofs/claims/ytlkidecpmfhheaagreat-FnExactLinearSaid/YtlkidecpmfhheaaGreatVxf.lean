import Derived.Test.YtlkidecpmfhheaaGreatVxd
import Derived.Lib.Join
import Derived.Lib.ItoaNum
import Derived.Lib.ItoaLen
import Derived.Lib.LaidTab
import Derived.Sort.Grow
import Derived.Shelf.Vars
import Derived.MakeChecks
import Derived.LaidMore
import Derived.OpenShut
import Derived.Stop.Joined
import Derived.Shelf.Strings.Split
import Derived.Lib.IndexMore
set_option linter.all false
namespace Go.Vx
open Go.RowKit (Below)
theorem yM{x y:ByteArray}(h:x.data.toList=y.data.toList):x=y:=by
 obtain⟨⟨x⟩⟩:=x
 obtain⟨⟨y⟩⟩:=y
 simp only at h
 rw[h]
def lby(s:ByteArray):List UInt8:=s.data.toList
noncomputable def g9(xs:List ByteArray)(sep:ByteArray):ByteArray:=⟨(Lib.join (xs.map lby) (lby sep)).toArray⟩
def strs(xs:List (List D)):List ByteArray:=xs.map fun r=>(cell r 0).ao
noncomputable def Ab:Nat->List D->D:=con (fun ds=>(g9 (strs (cell ds 0).ae) (cell ds 1).ao).size<=al) fun _ ds=>.str (g9 (strs (cell ds 0).ae) (cell ds 1).ao)
theorem sd(sep:ByteArray):g9 [] sep=⟨#[]⟩:=rfl
theorem Gy(x sep:ByteArray):g9 [x] sep=x:=by
 refine yM ?_
 simp[g9,Lib.join_one,lby]
theorem DN{x:ByteArray}{xs:List ByteArray}(y sep:ByteArray):g9 (x::xs++[y]) sep=g9 (x::xs) sep++sep++y:=by
 refine yM ?_
 simp[g9,Lib.join_cons,lby,Lib.joinTail]
theorem Gq{P:Program}{Φ:Fns}{f:Nat}{fn:Func}(hf:P.funcs[f]? =some fn)(hb:fn.body≠none)(hn:fn.name≠ "runtime.NumGoroutine")(hΦ:Φ f=Ab){t:TypeId}
 (h0:∀(a:Option Addr)(c:Nat)(sep:ByteArray)(w:World),Calls P f #[.slice a 0 c,.string sep] w fun e w'=>e= .returned (.string ⟨#[]⟩)∧w'=w)
 (h:∀(bk o c:Nat)(xs:List ByteArray)(sep:ByteArray)(w:World),(∀(j:Nat) x,xs[j]? =some x->w.cell? ⟨bk,o+j,none⟩=some (.string x))->bk<w.heap.size->xs.length<=140737488355328->xs.length<=c->
   (Lib.join (xs.map (·.data.toList)) sep.data.toList).length<=140737488355328->
   Calls P f #[.slice (some ⟨bk,o,none⟩) xs.length c,.string sep] w fun e w'=>e= .returned (.string ⟨(Lib.join (xs.map (·.data.toList)) sep.data.toList).toArray⟩)∧Below w.heap.size w w'):
 cW P Φ (told f [.one (.sl t [.str]),.one (.str)] [.one (.im (.str))]):=by
 refine⟨fun _=> ?_,fun l e=>(by cases e),fn,hf,hb,hn⟩
 intro w M vs ds hM hG hA hp
 obtain⟨v,vs1,d,ds1,rfl,rfl,⟨a,cap,rfl,hcap,hmax,hd⟩,v',vs2,d',ds2,rfl,rfl,⟨rfl,hs'⟩,rfl,rfl⟩:=hA
 have hp':(g9 (strs d.ae) d'.ao).size<=al:=by
  rw[show(told f [.one (.sl t [.str]),.one (.str)] [.one (.im (.str))]).f=f from rfl,hΦ] at hp
  simpa[Ab] using hp
 have key:Calls P f #[.slice a d.ae.length cap,.string d'.ao] w fun e w'=>e= .returned (.string (g9 (strs d.ae) d'.ao))∧Below w.heap.size w w':=by
  rcases hd with hd|⟨b,off,rfl,hd⟩
  · rw[hd]
    exact(h0 a cap d'.ao w).mono fun e w' ⟨he,hw⟩=>⟨he,hw▸Below.refl _ _⟩
  · by_cases he:d.ae=[]
    · rw[he]
      exact(h0 _ cap d'.ao w).mono fun e w' ⟨he,hw⟩=>⟨he,hw▸Below.refl _ _⟩
    have hc:∀(j:Nat) x,(strs d.ae)[j]? =some x->w.cell? ⟨b,off+j,none⟩=some (.string x):=by
     intro j x hx
     simp only[strs,List.getElem?_map,Option.map_eq_some_iff] at hx
     obtain⟨row,hrow,rfl⟩:=hx
     obtain⟨vs,h1,-,v,vs',rfl,⟨rfl,-⟩,rfl⟩:=hd j row hrow
     have:=h1.1
     rw[eH] at this
     simpa using this
    have hbk:b<w.heap.size:=by
     obtain⟨r,l,hl⟩:=List.exists_cons_of_ne_nil he
     have:=hc 0 (cell r 0).ao (by simp[strs,hl])
     exact fw this
    have hl:(strs d.ae).length=d.ae.length:=by simp[strs]
    have:=h b off cap (strs d.ae) d'.ao w hc hbk (by rw[hl];exact hmax) (by rw[hl];exact hcap) (by have e:=hp';simp[g9,ByteArray.size,al] at e;exact e)
    rw[hl] at this
    exact this.mono fun e w' hh=>hh
 refine key.mono fun e w' ⟨he,hw⟩=> ?_
 refine⟨[.string (g9 (strs d.ae) d'.ao)],[],he,hw,⟨_,_,rfl,⟨?_,?_⟩,rfl,rfl⟩,by simp,by simp⟩
 · rw[show(told f [.one (.sl t [.str]),.one (.str)] [.one (.im (.str))]).f=f from rfl,hΦ];rfl
 · rw[show(told f [.one (.sl t [.str]),.one (.str)] [.one (.im (.str))]).f=f from rfl,hΦ]
   exact hp'
end Go.Vx
namespace Go.Vx
open Go.RowKit (Below)
open Go.Proofs Go.ChangeShapes Go.WideShapes Go.ChangeAt
end Go.Vx
namespace Go.Vx
open Go.RowKit (Below)
open Go.Proofs
theorem glob.maxLen{P:Program}{w:World}(h:glob P w){g:Nat}(hg:P.globalNamed "internal/bytealg.MaxLen" =some g):∃m,w.cell? ⟨g,0,none⟩=some (.int .i64 m):=by
 obtain⟨m,cs,t,r,e⟩:=h.2 g hg
 exact⟨m,by simp[World.cell?,e]⟩
end Go.Vx
namespace Go.Vx
open Go.RowKit (Below)
open Go.Proofs
end Go.Vx
namespace Go.Vx
open Go.RowKit Go.ChangeShapes Go.WideShapes
theorem HI{P:Program}{W:World}(hp:P.globalNamed "internal/strconv.uint64pow10" =none)(hM:∀g,P.globalNamed "internal/bytealg.MaxLen" =some g->∃m,W.cell? ⟨g,0,none⟩=some (.int .i64 m)):glob P W:=by
 refine⟨fun g hg=>(by rw[hp] at hg;cases hg),fun g hg'=> ?_⟩
 obtain⟨m,hm⟩:=hM g hg'
 unfold World.cell? at hm
 cases hh:W.heap[g]? with
 |none=>rw[hh] at hm;simp at hm
 |some o=>
  rw[hh] at hm
  cases o with
  |cells cs ty r=>
   obtain⟨l⟩:=cs
   cases l with
   |nil=>simp at hm
   |cons v l=>
    simp at hm
    subst hm
    exact⟨m,l,ty,r,rfl⟩
  |_=>simp at hm
theorem uB{H:Type}{enc:TypeId×Value->H}{a:Assume}{C:Checked}{os:Os}{f:FuncId}{fn:Func}{s:ChangeSpec}{conds:List PathCond}{apart fresh handsOn again:Bool}
 (own:ownKnob C.prog.godebug=none) (started:os.Started) (noInit:C.prog.inits.idxOf? f=none) (hfn:C.prog.funcs[f]? =some fn)
 (witness:∃(w:World) (tape:Tape) (i:Input),w.os=os∧(w.forCall tape i).Shaped C.prog∧i.vars=[]∧Input.okWide C.prog (w.forCall tape i) .any w.heap.size f i∧
   s.pre6 enc C.prog fn conds apart (w.forCall tape i).memory i.args∧a.holds C.prog (lone (Frame.enter C.prog f i.args .normal) [] (w.forCall tape i)))
 (contract:∀(W:World)(base:Nat)(args:Array Value)(ds gs:List (DataW H))(before:List MemPlace),
   (∀(j:Nat) t v,fn.params[j]? =some t->args[j]? =some v->Value.okWide C.prog W .any base t v)->
   DataW.Whole enc C.prog fn.params.toList s.vars apart W args.toList ds gs before->
   (DataW.weightsEach C.prog (fn.params.toList++s.plain.varTypes C.prog) (ds++gs)).all (· <=reachBytes)=true->W.ShapedOpen C.prog->
   Calls C.prog f args W fun e W'=>∃v,e= .returned v∧s.post enc C.prog fn apart fresh handsOn again W args v W'):
 ReturnsInHanded a C os f .any (s.pre6 enc C.prog fn conds apart) (s.post enc C.prog fn apart fresh handsOn again):=by
 refine returnsInHanded_of_calls own started noInit witness ?_
 intro w tape i _ hsh _ hok hpre hholds
 obtain⟨_,_,_,fn',hfn',_,_,_,_,hval⟩:=hok
 have e:fn'=fn:=Option.some.inj (hfn'.symm.trans hfn)
 subst e
 obtain⟨⟨ds,gs,before,hw,hc⟩,hz⟩:=hpre
 have hw':=DataW.Whole.of_heap (w':=w.forCall tape i) (by rfl) hw
 refine(contract (w.forCall tape i) w.heap.size i.args ds gs before hval hw' (hz.weights hw) hsh).mono fun e W' ⟨v,he,hp⟩=> ?_
 subst he
 exact ChangeSpec.post_blind hp
end Go.Vx

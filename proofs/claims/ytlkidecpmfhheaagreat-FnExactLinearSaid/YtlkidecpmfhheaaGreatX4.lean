import Derived.Test.YtlkidecpmfhheaaGreatX2
import Derived.Test.YtlkidecpmfhheaaGreatSH
set_option linter.all false
open List (map_cons length_cons mem_map length_nil map_take)
namespace Go.Proofs.YtlkidecpmfhheaaGreat
open Go.Vx
theorem ya(a:Array UInt8):(⟨a⟩:ByteArray).size=a.size:=rfl
theorem Ec{m:Nat}:∀xs:List (List UInt8),(∀x∈xs,x.length<=m)->Lib.lens xs<=xs.length*m
 |[],_=>by simp[Lib.lens]
 |x::xs,h=>by
  have h1:=h x (by simp)
  have h2:=Ec xs fun y hy=>h y (by simp[hy])
  simp only[Lib.lens,map_cons,List.sum_cons,length_cons,Nat.add_mul] at h2⊢
  omega
theorem CA{m:Nat}{xs:List ByteArray}{sep:ByteArray}(h:∀x∈xs,x.size<=m):(g9 xs sep).size<=xs.length*(m+sep.size):=by
 cases xs with
 |nil=>simp[sd,ya]
 |cons x r=>
  have e:(g9 (x::r) sep).size=(lby sep).length*(r.map lby).length+Lib.lens ((x::r).map lby):=by
   rw[map_cons,<-Lib.join_length]
   simp[g9,ByteArray.size]
  have h2:=Ec ((x::r).map lby) (m:=m) fun y hy=>by
   obtain⟨z,hz,rfl⟩:=mem_map.1 hy
   have:=h z hz
   exact this
  have h3:(lby sep).length=sep.size:=rfl
  rw[e,h3]
  simp only[List.length_map,length_cons,Nat.add_mul,Nat.mul_add] at h2⊢
  rw[Nat.mul_comm sep.size]
  omega
theorem FX{f:List D->ByteArray}{xs:List (List D)}{i:Nat}(h:i<xs.length)(sep:ByteArray):
 g9 ((xs.take (i+1)).map f) sep=if i=0 then f (ag xs i) else g9 ((xs.take i).map f) sep++sep++f (ag xs i):=by
 rw[List.take_add_one,List.getElem?_eq_getElem h,List.map_append,fu h]
 by_cases e:i=0
 · subst e
   simp[Gy]
 · rw[if_neg e]
   obtain⟨x,r,hx⟩:∃x r,xs.take i=x::r:=List.exists_cons_of_ne_nil (by
    intro h0
    have:=congrArg List.length h0
    rw[List.length_take,length_nil] at this
    omega)
   rw[hx]
   exact DN _ _
theorem KO{f:List D->ByteArray}(xs:List (List D)):strs (xs.flatMap fun r=>[[.str (f r)]])=xs.map f:=by
 induction xs with
 |nil=>rfl
 |cons x xs ih=>
  simp only[strs,List.flatMap_cons,List.map_append,map_cons,List.map_nil] at ih⊢
  rw[ih]
  rfl
theorem Lx(f:List D->List D)(xs:List (List D)):(xs.flatMap fun r=>[f r]).length=xs.length:=by
 induction xs with
 |nil=>rfl
 |cons x xs ih=>simp only[List.flatMap_cons,List.length_append,ih,length_cons,length_nil];omega
theorem Ge{r:List D}(h:qz r):(uH r).size<=23:=by
 have h1:=h.1.1.2
 have h2:=h.2.1
 simp only[uH,eP,ya,List.size_toArray,length_cons,length_nil]
 omega
theorem sx{xs:List (List D)}(h:kX xs)(k:Nat):(g9 ((xs.take k).map uH) ⟨#[44,32]⟩).size<=100:=by
 have:=CA (m:=23) (xs:=(xs.take k).map uH) (sep:=⟨#[44,32]⟩) fun x hx=>by
  obtain⟨r,hr,rfl⟩:=mem_map.1 hx
  obtain⟨i,hi,rfl⟩:=List.getElem_of_mem (List.mem_of_mem_take hr)
  have:=(h.2 i hi).1
  rw[fu hi] at this
  exact Ge this
 have h2:((xs.take k).map uH).length<=4:=by have:=h.1;simp;omega
 have h3:(⟨#[44,32]⟩:ByteArray).size=2:=rfl
 rw[h3] at this
 omega
theorem Wi:GG K7:=gd (vc:=W7) [A3,Ve] (by simp[Wb,EY]) Tryz.func329 (args1 fun a hw hp=>by
 unfold W7
 rw[aJ,aO]
 refine⟨by simp[kv,mB],fun h=> ?_,fun h=> ?_⟩
 · simp[kv,mB] at h
   simp[K7,IG,oN,ew,vo h]
 simp[kv,mB] at h
 have h4:=h.1
 refine nw (Φ:=Φ) (g:=fun r=>[[.str (uH r)]]) (xs:=a.ae) rfl (fun _ _=>by simp) (by omega) rfl (fun i x hi hx=> ?_) fun x hx p=> ?_
 · have hl:x.ae.length=i:=by rw[hx,Lx,List.length_take];omega
   have hlab:=(h.2 i hi).1
   have h1:=hlab.1.1.2
   have h2:=hlab.2.1
   simp[af,al,chunk,hl,eP,ya,hi,uH]
   omega
 · have hs:=sx h a.ae.length
   rw[List.take_length] at hs
   simp[K7,IG,show Φ 339=Ab from rfl,oN,Ab,ew,yX h,hx,KO,eC,al,eP,ya]
   omega)
theorem Uv:GG JO:=gd (vc:=SL) [B6] (by simp[ED]) Tryz.func299 (args1 fun a hw hp=>by
 unfold SL
 rw[aJ,aO]
 refine⟨by simp[il,mB],fun h=> ?_,fun h=> ?_⟩
 · simp[il,mB] at h
   simp[JO,HJ,oN,ew,vo h]
 simp[il,mB] at h
 have h4:=h.1
 refine fC (Φ:=Φ) (N:=a.ae.length) rfl (fun _ _=>by simp) (by omega) (fun i x=>x.ao=⟨#[123]⟩++g9 ((a.ae.take i).map uH) ⟨#[44,32]⟩) (by simp[sd];rfl) (fun i x hi _ hx=> ?_) fun x _ hx p=> ?_
 · have hs:=sx h i
   have hlab:=(h.2 i hi).1
   have h1:=hlab.1.1.2
   have h2:=hlab.2.1
   rw[FX hi]
   have hsz:x.ao.size<=101:=by rw[hx,eP];show 1+_<=_;omega
   simp[af,al,eP,ya,hi,-map_take]
   refine⟨fun h0=>⟨by omega,by omega,?_⟩,fun h0=>⟨by omega,?_⟩⟩
   · rw[if_neg (by omega),hx]
     refine yM ?_
     simp[uH,-map_take]
   · rw[if_pos h0,hx,h0]
     refine yM ?_
     simp[uH,sd]
 · have hs:=sx h a.ae.length
   rw[List.take_length] at hs hx
   simp[JO,HJ,oN,ew,yX h,hx,eC,al,eP,ya]
   omega)
end Go.Proofs.YtlkidecpmfhheaaGreat

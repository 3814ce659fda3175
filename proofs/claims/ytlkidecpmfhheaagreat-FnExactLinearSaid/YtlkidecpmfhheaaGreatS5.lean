import Derived.Test.YtlkidecpmfhheaaGreatW1
set_option linter.all false
namespace Go.Proofs.YtlkidecpmfhheaaGreat
open Go.Vx
theorem Jh:GG B8:=gde (vc:=X5) (hs:=[⟨3,[],[],true⟩]) [oH,yT] (by simp[mX,D7]) Tryz.func209 (args1 fun a hw hp=>by
 simp[B8,ll,gx] at hp
 refine kG (Φ:=Φ) (N:=a.ae.length) rfl (fun _ _=>by simp) (by omega) (fun i x=>x.ae=stS ltA ((a.ae.take i).map bn)) (by simp[chunk,stS]) (fun i x hi _ hx=> ?_) fun x _ hx p=>by
  rw[List.take_of_length_le (Nat.le_refl _)] at hx
  simp[B8,RSh.cells,ll,gx,hx]
 have hl:x.ae.length=i:=by rw[hx,i0,List.length_map,List.length_take];omega
 have h1:=cb (p:=am aj) hi
 have h2:=mE (ag a.ae i)
 rw[aJ]
 refine⟨by simp[af,eh,bN,hi];omega,?_⟩
 refine IP (Φ:=Φ) (L:=x.ae) rfl (by omega) (ltA (bn (ag a.ae i))) (by simp) (fun k hk=> ?_) (fun k hk=> ?_) fun q=> ?_
 · simp[af,fJ,bH,Ea]
   rcases Nat.eq_zero_or_pos k with h|h
   · subst h;simp
   · rw[w64 (by omega) (by omega)];omega
 · simp[af,fJ,eh,bN,bH,ltA,bn]
   rcases Nat.eq_zero_or_pos k with h|h
   · subst h;simp
   · rw[w64 (by omega) (by omega),show(k:Int) - 1=((k - 1:Nat):Int) by omega,af,ca]
 · have hq:=ln (ltA (bn (ag a.ae i))) x.ae x.ae.length
   simp[af,fJ,eh,bN,bH]
   generalize hm:posR (ltA (bn (ag a.ae i))) x.ae x.ae.length=m at*
   rw[Nat.min_eq_left hq]
   refine⟨by simp[al];omega,?_⟩
   rw[cU (show(0:Nat)≠1 by decide),dD]
   refine⟨_,rfl,?_⟩
   rw[<-List.map_take,lG _ hi,vC,<-hx,jY,hm]
   rw[List.take_of_length_le (l:=x.ae.drop m) (by simp)]
   simp[chunk,bn])
end Go.Proofs.YtlkidecpmfhheaaGreat

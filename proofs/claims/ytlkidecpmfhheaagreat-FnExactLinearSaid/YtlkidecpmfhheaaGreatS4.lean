import Derived.Test.YtlkidecpmfhheaaGreatS2
set_option linter.all false
open List (cons)
namespace Go.Proofs.YtlkidecpmfhheaaGreat
open Go.Vx
theorem kf{xs:List (List D)}{i:Nat}(h:i<xs.length):xs.drop i=ag xs i::xs.drop (i+1):=by
 rw[List.drop_eq_getElem_cons h,fu h]
theorem GT:GG HB:=gd (vc:=UN) [] (by simp) Tryz.func293 (args2 fun a b hw hp=>by
 simp[UN,HB,D3,yB])
theorem D2:GG zI:=gde (vc:=ZQ) (hs:=[⟨2,[0],[],false⟩]) [] (by simp) Tryz.func272 (args2 fun a b hw hp=>by
 simp[zI,al] at hw
 refine wp_loop' (fun v=>∃i:Nat,v=[.int i]∧i<=a.ae.length∧i<=b.ae.length∧dv a.ae b.ae=dv (a.ae.drop i) (b.ae.drop i)) (fun v=>a.ae.length - (cell v 0).ZY.toNat) ⟨0,rfl,by omega,by omega,by simp⟩ ?_
 simp only[cA,cz]
 intro d
 refine bS fun _=> ?_
 rintro⟨i,hd,h1,h2,h3⟩
 simp only[cons.injEq,and_true] at hd
 subst hd
 by_cases ha:i<a.ae.length
 · by_cases hb:i<b.ae.length
   · rw[kf ha,kf hb,dv] at h3
     simp[af,ha,hb,zI,RSh.cells,jQ,bH,h3]
     refine⟨fun hne=>by simp[hne],fun he=>⟨fun hne=>by simp[he,hne],fun he2=> ?_⟩⟩
     rw[w64 (by omega) (by omega)]
     exact⟨⟨i+1,by simp,by omega,by omega,by simp[he,he2]⟩,by omega⟩
   · have:b.ae.drop i=[]:=by simp;omega
     rw[this] at h3
     have h4:dv (a.ae.drop i) []=false:=by cases a.ae.drop i<;>rfl
     simp[ha,hb,zI,RSh.cells,jQ,bH,h3,h4]
     omega
 · have:a.ae.drop i=[]:=by simp;omega
   rw[this] at h3
   simp[ha,zI,RSh.cells,jQ,bH,h3]
   by_cases hb:i<b.ae.length
   · rw[kf hb];simp[dv];omega
   · have:b.ae.drop i=[]:=by simp;omega
     rw[this];simp[dv];omega)
theorem D7:GG yT:=gde (vc:=Ye) (hs:=[⟨2,[0],[],false⟩]) [HB] (by simp[GT]) Tryz.func259 (args2 fun a b hw hp=>by
 simp[yT,al] at hw
 refine wp_loop' (fun v=>∃i:Nat,v=[.int i]∧i<=a.ae.length∧i<=b.ae.length∧dv a.ae b.ae=dv (a.ae.drop i) (b.ae.drop i)) (fun v=>a.ae.length - (cell v 0).ZY.toNat) ⟨0,rfl,by omega,by omega,by simp⟩ ?_
 simp only[cA,cz]
 intro d
 refine bS fun _=> ?_
 rintro⟨i,hd,h1,h2,h3⟩
 simp only[cons.injEq,and_true] at hd
 subst hd
 by_cases ha:i<a.ae.length
 · by_cases hb:i<b.ae.length
   · rw[kf ha,kf hb,dv] at h3
     simp[af,ha,hb,yT,RSh.cells,fJ,bH,h3,D3,yB]
     refine⟨fun hne=>by simp[hne],fun he=>⟨fun hne=>by simp[he,hne],fun he2=> ?_⟩⟩
     rw[w64 (by omega) (by omega)]
     exact⟨⟨i+1,by simp,by omega,by omega,by simp[he,he2]⟩,by omega⟩
   · have:b.ae.drop i=[]:=by simp;omega
     rw[this] at h3
     have h4:dv (a.ae.drop i) []=false:=by cases a.ae.drop i<;>rfl
     simp[ha,hb,yT,RSh.cells,fJ,bH,h3,h4]
     omega
 · have:a.ae.drop i=[]:=by simp;omega
   rw[this] at h3
   simp[ha,yT,RSh.cells,fJ,bH,h3]
   by_cases hb:i<b.ae.length
   · rw[kf hb];simp[dv];omega
   · have:b.ae.drop i=[]:=by simp;omega
     rw[this];simp[dv];omega)
theorem Rc:GG LA:=gd (vc:=UB) [zI] (by simp[D2]) Tryz.func291 (mZ fun a b c hw hp=>by
 simp[LA,EC,xU] at hp
 obtain⟨⟨h1,h2⟩,h3,h4⟩:=hp
 obtain⟨i,hi⟩:∃i:Nat,a.ZY=i:=⟨a.ZY.toNat,by omega⟩
 obtain⟨j,hj⟩:∃j:Nat,b.ZY=j:=⟨b.ZY.toNat,by omega⟩
 rw[hi] at h2
 rw[hj] at h4
 simp[UB,LA,EC,xU,jQ,bH,ltA,hi,hj,af]
 omega)
end Go.Proofs.YtlkidecpmfhheaaGreat

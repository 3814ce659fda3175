import Derived.Test.YtlkidecpmfhheaaGreatChecked
import Derived.Test.YtlkidecpmfhheaaGreatVxe
import Derived.Shelf.GgSortMore.Stable
import Derived.Shelf.GgSortFunc.SmallK
import Derived.WalkKit
import Derived.Test.YtlkidecpmfhheaaGreatS4
import Derived.Test.YtlkidecpmfhheaaGreatX2
set_option linter.all false
open Nat (le_refl lt_of_lt_of_le zero_add)
open List (mem_cons length_eq_zero_iff Perm map_map mem_map)
namespace Go.Proofs.YtlkidecpmfhheaaGreat
open Go Go.Proofs Go.Shelf Go.RowKit Go.Lib Go.Sort
open Go.Vx (Srt Bx gQ da cH dA jn fS ly ga bsF upF dnF cF cm dS pq pD rK bR)
variable {α:Type} [Inhabited α]
section
variable {I:World->Array α->Prop} {blk sz:Nat} {lt:α->α->Bool} {g:Nat} {lb:Array Value} {sf:Nat} {sb:Array Value}
set_option maxHeartbeats 1600000 in
set_option maxRecDepth 1000000 in
theorem Cc(S:Srt Tryz.prog I blk sz lt g lb sf sb)(a b n:Nat)(az bz nz:Int)(haz:az=a)(hbz:bz=b)(hnz:nz=n)(d:Array α)(w:World)(hI:I w d)(hab:a≠b)(ha:a+n<=sz)(hb:b+n<=sz):
 Calls Tryz.prog 338 #[.agg #[.func (.func g) #[] lb,.func (.func sf) #[] sb],.int .i64 az,.int .i64 bz,.int .i64 nz] w fun e w'=>e= .returned (.tuple #[])∧I w' (ly d a b n)∧Vx.Fr w [blk] w':=by
 subst haz hbz hnz
 have hsm:=S.small
 have hB:=Bx.start S hI 232
 have hI1:=S.alloc (.cells #[.func (.func g) #[] lb,.func (.func sf) #[] sb] 232) hI
 go_enter Tryz.func338,Tryz.ntmps338
 go_wp2
 go_loopg [8] n (fun k s8 wr=>∃(i:Nat),s8= .int .i64 i∧i<=n∧n - i<=k∧I wr (ly d a b i)∧Bx blk w.heap.size lb g sf sb w wr)
 case atStart=>exact⟨0,rfl,by omega,by omega,hI1,hB⟩
 case round=>
  obtain⟨i,rfl,hi,hk,hIr,hBr⟩:=hrel
  by_cases hlt:i<n
  · obtain⟨w2,hs,hI2,hF2,-⟩:=S.swap hIr (a+i) (b+i) (by omega) (by omega) (by omega)
    rw[show(((a+i:Nat):Int))=(a:Int)+(i:Int) by omega,show(((b+i:Nat):Int))=(b:Int)+(i:Int) by omega] at hs
    have c1:=hBr.c1
    go_wp2
    go_roundg (n - (i+1))
    case measure=>omega
    case rel=>exact⟨i+1,by simp,by omega,le_refl _,hI2,hBr.on hF2⟩
  · have:i=n:=by omega
    subst this
    go_wp2
    go_end0
    exact⟨rfl,hIr,hBr.fr⟩
end
open Go Go.Proofs Go.Shelf Go.RowKit Go.Lib Go.Sort
open Go.Vx (Srt Bx gQ da cH dA jn fS ly ga bsF upF dnF cF cm dS pq pD rK bR)
variable {α:Type} [Inhabited α]
section
variable {I:World->Array α->Prop} {blk sz:Nat} {lt:α->α->Bool} {g:Nat} {lb:Array Value} {sf:Nat} {sb:Array Value}
set_option maxHeartbeats 3200000 in
set_option maxRecDepth 1000000 in
theorem js(S:Srt Tryz.prog I blk sz lt g lb sf sb)(a m b:Nat)(az mz bz:Int)(haz:az=a)(hmz:mz=m)(hbz:bz=b)(d:Array α)(w:World)(hI:I w d)(ham:a<m)(hmb:m<b)(hb:b<=sz):
 Calls Tryz.prog 324 #[.agg #[.func (.func g) #[] lb,.func (.func sf) #[] sb],.int .i64 az,.int .i64 mz,.int .i64 bz] w fun e w'=>e= .returned (.tuple #[])∧I w' (ga m (b - a) (m - a) (b - m) d)∧Vx.Fr w [blk] w':=by
 subst haz hmz hbz
 have hsm:=S.small
 have hB:=Bx.start S hI 232
 have hI1:=S.alloc (.cells #[.func (.func g) #[] lb,.func (.func sf) #[] sb] 232) hI
 go_enter Tryz.func324,Tryz.ntmps324
 go_wp2
 go_loopg [8,9] (b - a) (fun k s8 s9 wr=>∃(i j f:Nat) (dk:Array α),s8= .int .i64 i∧s9= .int .i64 j∧1<=i∧1<=j∧i<=m∧m+j<=b∧i+j<=k∧i+j<=f∧I wr dk∧Bx blk w.heap.size lb g sf sb w wr∧ga m f i j dk=ga m (b - a) (m - a) (b - m) d)
 case atStart=>exact⟨m - a,b - m,b - a,d,by congr 1;omega,by congr 1;omega,by omega,by omega,by omega,by omega,by omega,by omega,hI1,hB,rfl⟩
 case round=>
  obtain⟨i,j,f,dk,rfl,rfl,hi1,hj1,him,hjb,hk,hf,hIr,hBr,heq⟩:=hrel
  obtain⟨f,rfl⟩:∃g,f=g+1:=⟨f - 1,by omega⟩
  have c0:=hBr.c0
  have c1:=hBr.c1
  have hcall:∀(x y z:Nat)(az bz nz:Int),az=x->bz=y->nz=z->x≠y->x+z<=sz->y+z<=sz->Calls Tryz.prog 338 #[.agg #[.func (.func g) #[] lb,.func (.func sf) #[] sb],.int .i64 az,.int .i64 bz,.int .i64 nz] wr fun e w'=>e= .returned (.tuple #[])∧I w' (ly dk x y z)∧Vx.Fr wr [blk] w':=fun x y z az bz nz h1 h2 h3 h0 h4 h5=>
   Cc S x y z az bz nz h1 h2 h3 dk wr hIr h0 h4 h5
  rw[ga] at heq
  by_cases hij:i=j
  · subst hij
    rw[if_pos rfl] at heq
    go_wp2_with (go_at_call 338;refine(hcall (m - i) m i _ _ _ (by omega) (by omega) (by omega) (by omega) (by omega) (by omega)).mono ?_;rintro e w' ⟨rfl,hI2,hF2⟩)
    go_end0
    exact⟨rfl,by rw[<-heq];exact hI2,(hBr.on hF2).fr⟩
  · rw[if_neg hij] at heq
    by_cases hlt:j<i
    · rw[if_pos hlt] at heq
      go_wp2_with (go_at_call 338;refine(hcall (m - i) m j _ _ _ (by omega) (by omega) (by omega) (by omega) (by omega) (by omega)).mono ?_;rintro e w' ⟨rfl,hI2,hF2⟩)
      go_roundg (i - j+j)
      case measure=>omega
      case rel=>exact⟨i - j,j,f,ly dk (m - i) m j,by congr 1;omega,rfl,by omega,by omega,by omega,by omega,by omega,by omega,hI2,hBr.on hF2,heq⟩
    · rw[if_neg hlt] at heq
      go_wp2_with (go_at_call 338;refine(hcall (m - i) (m+j - i) i _ _ _ (by omega) (by omega) (by omega) (by omega) (by omega) (by omega)).mono ?_;rintro e w' ⟨rfl,hI2,hF2⟩)
      go_roundg (i+(j - i))
      case measure=>omega
      case rel=>exact⟨i,j - i,f,ly dk (m - i) (m+j - i) i,rfl,by congr 1;omega,by omega,by omega,by omega,by omega,by omega,by omega,hI2,hBr.on hF2,heq⟩
end
open Go Go.Proofs Go.Shelf Go.RowKit Go.Lib Go.Sort
open Go.Vx (Srt Bx gQ da cH dA jn fS ly ga bsF upF dnF cF cm dS pq pD rK bR)
variable {α:Type} [Inhabited α]
section
variable {I:World->Array α->Prop} {blk sz:Nat} {lt:α->α->Bool} {g:Nat} {lb:Array Value} {sf:Nat} {sb:Array Value}
set_option maxHeartbeats 3200000 in
set_option maxRecDepth 1000000 in
theorem CW(S:Srt Tryz.prog I blk sz lt g lb sf sb)(a b:Nat)(d:Array α)(w:World)(hI:I w d)(hab:a+1<=b)(hb:b<=sz):
 Calls Tryz.prog 290 #[.agg #[.func (.func g) #[] lb,.func (.func sf) #[] sb],.int .i64 a,.int .i64 ((a:Int)+1),.int .i64 b] w fun e w'=>e= .returned (.tuple #[])∧
  I w' (upF d a (bsF (fun h=>lt d[h]! d[a]!) (b - (a+1)) (a+1) b - 1 - a))∧Vx.Fr w [blk] w':=by
 have hsm:=S.small
 have eg:=S.eg
 have hB:=Bx.start S hI 232
 have hI1:=S.alloc (.cells #[.func (.func g) #[] lb,.func (.func sf) #[] sb] 232) hI
 go_enter Tryz.func290,Tryz.ntmps290
 go_wp2
 rw[show(((a:Int)+1 - (a:Int))==1)=true by simp;omega]
 go_loopg [8,9] b (fun kk vi vj wr=>∃(i j f:Nat),vi= .int .i64 i∧vj= .int .i64 j∧a+1<=i∧i<=j∧j<=b∧j - i<=f∧j - i<=kk∧I wr d∧Bx blk w.heap.size lb g sf sb w wr∧
  bsF (fun h=>lt d[h]! d[a]!) f i j=bsF (fun h=>lt d[h]! d[a]!) (b - (a+1)) (a+1) b)
 case atStart=>exact⟨a+1,b,b - (a+1),by congr 1,rfl,by omega,by omega,by omega,by omega,by omega,hI1,hB,rfl⟩
 case round=>
  obtain⟨i,j,f,rfl,rfl,hai,hij,hjb,hf,hkk0,hIr,hBr,heq⟩:=hrel
  have c0:=hBr.c0
  have c1:=hBr.c1
  by_cases hlt:i<j
  · obtain⟨f,rfl⟩:∃k,f=k+1:=⟨f - 1,by omega⟩
    rw[bsF,if_pos hlt] at heq
    have hl:=S.less hIr ((i+j) / 2) a (by omega) (by omega)
    rw[show((((i+j) / 2:Nat):Int))=((i:Int)+(j:Int)) / 2 by omega] at hl
    cases hlv:lt d[(i+j) / 2]! d[a]! with
    |true=>
     rw[hlv] at hl heq
     rw[cond_true] at heq
     go_wp2_with (go_at_fn g;refine hl.mono ?_;rintro e w' ⟨rfl,hI2,hF2⟩)
     go_roundg (j - ((i+j) / 2+1))
     case measure=>omega
     case rel=>exact⟨(i+j) / 2+1,j,f,by congr 1,rfl,by omega,by omega,by omega,by omega,by omega,hI2,hBr.on (cH hF2),heq⟩
    |false=>
     rw[hlv] at hl heq
     rw[cond_false] at heq
     go_wp2_with (go_at_fn g;refine hl.mono ?_;rintro e w' ⟨rfl,hI2,hF2⟩)
     go_roundg ((i+j) / 2 - i)
     case measure=>omega
     case rel=>exact⟨i,(i+j) / 2,f,rfl,by congr 1,by omega,by omega,by omega,by omega,by omega,hI2,hBr.on (cH hF2),heq⟩
  · have he:i=bsF (fun h=>lt d[h]! d[a]!) (b - (a+1)) (a+1) b:=by
     rw[<-heq]
     cases f with
     |zero=>rfl
     |succ f=>rw[bsF,if_neg hlt]
    clear heq eg
    go_wp2
    go_loopg [11] b (fun kk s11 wr2=>∃(k:Nat),s11= .int .i64 k∧a<=k∧k<=i - 1∧i - 1 - k<=kk∧I wr2 (upF d a (k - a))∧Bx blk w.heap.size lb g sf sb w wr2)
    case atStart=>exact⟨a,rfl,le_refl _,by omega,by omega,by rw[Nat.sub_self];exact hIr,hBr⟩
    case round=>
     obtain⟨k,rfl,hak,hki,hkk,hI2,hB2⟩:=hrel
     by_cases hlt2:k<i - 1
     · have c2:=hB2.c1
       obtain⟨w2,hs,hI3,hF3,-⟩:=S.swap hI2 k (k+1) (by omega) (by omega) (by omega)
       rw[show(((k+1:Nat):Int))=(k:Int)+1 by omega] at hs
       clear c0 c1
       go_wp2
       go_roundg (i - 1 - (k+1))
       case measure=>omega
       case rel=>
        refine⟨k+1,by simp,by omega,by omega,le_refl _,?_,hB2.on hF3⟩
        rw[show k+1 - a=(k - a)+1 by omega,upF,show a+(k - a)=k by omega]
        exact hI3
     · have hk:k=i - 1:=by omega
       subst hk
       go_wp2
       refine bodyPost_ret (results_none rfl _ _ _) rfl ⟨rfl,by rw[<-he];exact hI2,hB2.fr⟩
end
open Go Go.Proofs Go.Shelf Go.RowKit Go.Lib Go.Sort
open Go.Vx (Srt Bx gQ da cH dA jn fS ly ga bsF upF dnF cF cm dS pq pD rK bR)
variable {α:Type} [Inhabited α]
section
variable {I:World->Array α->Prop} {blk sz:Nat} {lt:α->α->Bool} {g:Nat} {lb:Array Value} {sf:Nat} {sb:Array Value}
set_option maxHeartbeats 3200000 in
set_option maxRecDepth 1000000 in
theorem DI(S:Srt Tryz.prog I blk sz lt g lb sf sb)(a m:Nat)(d:Array α)(w:World)(hI:I w d)(ham:a+1<m)(hb:m+1<=sz):
 Calls Tryz.prog 290 #[.agg #[.func (.func g) #[] lb,.func (.func sf) #[] sb],.int .i64 a,.int .i64 m,.int .i64 ((m:Int)+1)] w fun e w'=>e= .returned (.tuple #[])∧
  I w' (dnF d m (m - bsF (fun h=> !lt d[m]! d[h]!) (m - a) a m))∧Vx.Fr w [blk] w':=by
 have hsm:=S.small
 have eg:=S.eg
 have hB:=Bx.start S hI 232
 have hI1:=S.alloc (.cells #[.func (.func g) #[] lb,.func (.func sf) #[] sb] 232) hI
 have hne:(((m:Int) - (a:Int))==1)=false:=by simp;omega
 go_enter Tryz.func290,Tryz.ntmps290
 go_wp2
 try rw[show(((m:Int)+1 - (m:Int))==1)=true by simp;omega]
 go_loopg [12,13] sz (fun kk vi vj wr=>∃(i j f:Nat),vi= .int .i64 i∧vj= .int .i64 j∧a<=i∧i<=j∧j<=m∧j - i<=f∧j - i<=kk∧I wr d∧Bx blk w.heap.size lb g sf sb w wr∧
  bsF (fun h=> !lt d[m]! d[h]!) f i j=bsF (fun h=> !lt d[m]! d[h]!) (m - a) a m)
 case atStart=>exact⟨a,m,m - a,rfl,rfl,by omega,by omega,by omega,by omega,by omega,hI1,hB,rfl⟩
 case round=>
  obtain⟨i,j,f,rfl,rfl,hai,hij,hjb,hf,hkk0,hIr,hBr,heq⟩:=hrel
  have c0:=hBr.c0
  have c1:=hBr.c1
  by_cases hlt:i<j
  · obtain⟨f,rfl⟩:∃k,f=k+1:=⟨f - 1,by omega⟩
    rw[bsF,if_pos hlt] at heq
    have hl:=S.less hIr m ((i+j) / 2) (by omega) (by omega)
    rw[show((((i+j) / 2:Nat):Int))=((i:Int)+(j:Int)) / 2 by omega] at hl
    cases hlv:lt d[m]! d[(i+j) / 2]! with
    |false=>
     rw[hlv] at hl heq
     rw[Bool.not_false,cond_true] at heq
     go_wp2_with (go_at_fn g;refine hl.mono ?_;rintro e w' ⟨rfl,hI2,hF2⟩)
     go_roundg (j - ((i+j) / 2+1))
     case measure=>omega
     case rel=>exact⟨(i+j) / 2+1,j,f,by congr 1,rfl,by omega,by omega,by omega,by omega,by omega,hI2,hBr.on (cH hF2),heq⟩
    |true=>
     rw[hlv] at hl heq
     rw[Bool.not_true,cond_false] at heq
     go_wp2_with (go_at_fn g;refine hl.mono ?_;rintro e w' ⟨rfl,hI2,hF2⟩)
     go_roundg ((i+j) / 2 - i)
     case measure=>omega
     case rel=>exact⟨i,(i+j) / 2,f,rfl,by congr 1,by omega,by omega,by omega,by omega,by omega,hI2,hBr.on (cH hF2),heq⟩
  · have he:i=bsF (fun h=> !lt d[m]! d[h]!) (m - a) a m:=by
     rw[<-heq]
     cases f with
     |zero=>rfl
     |succ f=>rw[bsF,if_neg hlt]
    clear heq eg
    go_wp2
    go_loopg [15] sz (fun kk s11 wr2=>∃(k:Nat),s11= .int .i64 k∧i<=k∧k<=m∧k - i<=kk∧I wr2 (dnF d m (m - k))∧Bx blk w.heap.size lb g sf sb w wr2)
    case atStart=>exact⟨m,rfl,by omega,le_refl _,by omega,by rw[Nat.sub_self];exact hIr,hBr⟩
    case round=>
     obtain⟨k,rfl,hak,hki,hkk,hI2,hB2⟩:=hrel
     by_cases hlt2:i<k
     · have c2:=hB2.c1
       obtain⟨w2,hs,hI3,hF3,-⟩:=S.swap hI2 k (k - 1) (by omega) (by omega) (by omega)
       rw[show(((k - 1:Nat):Int))=(k:Int) - 1 by omega] at hs
       clear c0 c1
       go_wp2
       go_roundg (k - 1 - i)
       case measure=>omega
       case rel=>
        refine⟨k - 1,by congr 1;omega,by omega,by omega,le_refl _,?_,hB2.on hF3⟩
        rw[show m - (k - 1)=(m - k)+1 by omega,dnF,show m - (m - k)=k by omega]
        exact hI3
     · have hk:k=i:=by omega
       subst hk
       go_wp2
       refine bodyPost_ret (results_none rfl _ _ _) rfl ⟨rfl,by rw[<-he];exact hI2,hB2.fr⟩
end
open Go Go.Proofs Go.Shelf Go.RowKit Go.Lib Go.Sort
open Go.Vx (Srt Bx gQ da cH dA jn fS)
variable {α:Type} [Inhabited α]
section
variable {I:World->Array α->Prop} {blk sz:Nat} {lt:α->α->Bool} {g:Nat} {lb:Array Value} {sf:Nat} {sb:Array Value}
set_option maxHeartbeats 3200000 in
set_option maxRecDepth 1000000 in
theorem mJ(S:Srt Tryz.prog I blk sz lt g lb sf sb)(a b:Nat)(az bz:Int)(haz:az=a)(hbz:bz=b)(d:Array α)(w:World)(hI:I w d)(hab:a<=b)(hb:b<=sz):
 Calls Tryz.prog 289 #[.agg #[.func (.func g) #[] lb,.func (.func sf) #[] sb],.int .i64 az,.int .i64 bz] w fun e w'=>e= .returned (.tuple #[])∧I w' (Sort.insertionSort lt d a b)∧Vx.Fr w [blk] w':=by
 subst haz hbz
 have hsm:=S.small
 have eg:=S.eg
 have hB:=Bx.start S hI 232
 have hI1:=S.alloc (.cells #[.func (.func g) #[] lb,.func (.func sf) #[] sb] 232) hI
 go_enter Tryz.func289,Tryz.ntmps289
 go_wp2
 go_loopg [6] (b+1) (fun kk vi wr=>∃(i:Nat) (dk:Array α),vi= .int .i64 i∧a<i∧i<=b+1∧b+1 - i<=kk∧I wr dk∧Bx blk w.heap.size lb g sf sb w wr∧insOuter lt a b i dk=insOuter lt a b (a+1) d)
 case atStart=>exact⟨a+1,d,by go_num,by omega,by omega,by omega,hI1,hB,rfl⟩
 case round=>
  obtain⟨i,dk,rfl,hai,hib,hkk,hIr,hBr,hO⟩:=hrel
  by_cases hlt:i<b
  · go_wp2
    go_loopg [7] (b+1) (fun kk vj wr2=>∃(j:Nat) (dj:Array α),vj= .int .i64 j∧a<=j∧j<=i∧j<=kk∧I wr2 dj∧Bx blk w.heap.size lb g sf sb w wr2∧insInner lt a j dj=insInner lt a i dk)
    case atStart=>exact⟨i,dk,rfl,by omega,le_refl _,by omega,hIr,hBr,rfl⟩
    case round=>
     obtain⟨j,dj,rfl,haj,hji,hjk,hI2,hB2,hN⟩:=hrel
     have c0:=hB2.c0
     have c1:=hB2.c1
     have out:(j<=a∨lt dj[j]! dj[j - 1]! =false)->∀w',I w' dj->Bx blk w.heap.size lb g sf sb w w'->∃(i':Nat) (dk':Array α),Value.int .i64 ((i:Int)+1)= .int .i64 i'∧a<i'∧i'<=b+1∧b+1 - i'<=b+1 - (i+1)∧I w' dk'∧Bx blk w.heap.size lb g sf sb w w'∧insOuter lt a b i' dk'=insOuter lt a b (a+1) d:=fun hs w' h1 h2=>
      ⟨i+1,dj,by go_num,by omega,by omega,le_refl _,h1,h2,by rw[<-hO,insOuter_go _ _ _ _ _ hlt,<-hN,insInner_stop _ _ _ _ hs]⟩
     by_cases hja:a<j
     · have hl:=S.less hI2 j (j - 1) (by omega) (by omega)
       rw[show(((j - 1:Nat):Int))=(j:Int) - 1 by omega] at hl
       cases hlv:lt dj[j]! dj[j - 1]! with
       |true=>
        rw[hlv] at hl
        go_wp2_with (go_at_fn g;refine hl.mono ?_;rintro e w' ⟨rfl,hI3,hF3⟩;obtain⟨w2,hs,hI4,hF4,-⟩:=S.swap hI3 j (j - 1) (by omega) (by omega) (by omega);rw[show(((j - 1:Nat):Int))=(j:Int) - 1 by omega] at hs;have hB3:=hB2.on (cH hF3);have c1:=hB3.c1)
        go_roundg (j - 1)
        case measure=>omega
        case rel=>exact⟨j - 1,swp dj j (j - 1),by congr 1;omega,by omega,by omega,le_refl _,hI4,hB3.on hF4,by rw[<-hN,insInner_go lt a j dj hja hlv]⟩
       |false=>
        rw[hlv] at hl
        go_wp2_with (go_at_fn g;refine hl.mono ?_;rintro e w' ⟨rfl,hI3,hF3⟩)
        go_roundg (b+1 - (i+1))
        case measure=>omega
        case rel=>exact out (Or.inr hlv) _ hI3 (hB2.on (cH hF3))
     · go_wp2
       go_roundg (b+1 - (i+1))
       case measure=>omega
       case rel=>exact out (Or.inl (by omega)) _ hI2 hB2
  · go_wp2
    go_end0
    exact⟨rfl,by unfold Sort.insertionSort;rw[<-hO,insOuter_stop _ _ _ _ _ hlt];exact hIr,hBr.fr⟩
end
open Go Go.Proofs Go.Shelf Go.RowKit Go.Lib Go.Sort
open Go.Vx (Srt Bx gQ da cH dA jn fS ly ga bsF upF dnF cF cm dS pq pD rK bR)
variable {α:Type} [Inhabited α]
section
variable {I:World->Array α->Prop} {blk sz:Nat} {lt:α->α->Bool} {g:Nat} {lb:Array Value} {sf:Nat} {sb:Array Value}
set_option maxHeartbeats 6400000 in
set_option maxRecDepth 1000000 in
theorem uF(S:Srt Tryz.prog I blk sz lt g lb sf sb):∀(F a m b:Nat)(az mz bz:Int)(d:Array α)(w:World),az=a->mz=m->bz=b->b - a<=F->I w d->a<m->m<b->b<=sz->
 Calls Tryz.prog 290 #[.agg #[.func (.func g) #[] lb,.func (.func sf) #[] sb],.int .i64 az,.int .i64 mz,.int .i64 bz] w fun e w'=>e= .returned (.tuple #[])∧I w' (cm lt F a m b d)∧Vx.Fr w [blk] w':=by
 have hsm:=S.small
 have eg:=S.eg
 intro F
 induction F with
 |zero=>intro a m b az mz bz d w h1 h2 h3 hF hI ham hmb hb;omega
 |succ F ih=>
  intro a m b az mz bz d w h1 h2 h3 hF hI ham hmb hb
  subst h1 h2 h3
  by_cases hA:m=a+1
  · subst hA
    rw[show(((a+1:Nat):Int))=(a:Int)+1 by omega]
    refine(CW S a b d w hI (by omega) hb).mono ?_
    rintro e w' ⟨rfl,h,hf⟩
    exact⟨rfl,by rw[cm,if_pos rfl];exact h,hf⟩
  · by_cases hB:b=m+1
    · subst hB
      rw[show(((m+1:Nat):Int))=(m:Int)+1 by omega]
      refine(DI S a m d w hI (by omega) hb).mono ?_
      rintro e w' ⟨rfl,h,hf⟩
      exact⟨rfl,by rw[cm,if_neg hA,if_pos rfl];exact h,hf⟩
    · have hne1:(((m:Int) - (a:Int))==1)=false:=by simp;omega
      have hne2:(((b:Int) - (m:Int))==1)=false:=by simp;omega
      have hBx:=Bx.start S hI 232
      have hI1:=S.alloc (.cells #[.func (.func g) #[] lb,.func (.func sf) #[] sb] 232) hI
      go_enter Tryz.func290,Tryz.ntmps290
      by_cases hC:(a+b) / 2<m
      · have hs0:cF lt a m b d=bsF (fun c=> !lt d[(a+b) / 2+m - 1 - c]! d[c]!) ((a+b) / 2 - ((a+b) / 2+m - b)) ((a+b) / 2+m - b) ((a+b) / 2):=by unfold cF;rw[if_pos hC]
        go_wp2
        rw[show decide (((a:Int)+(b:Int)) / 2<(m:Int))=true by simp;omega]
        go_loopg [18,19] b (fun kk vi vj wr=>∃(i j f:Nat),vi= .int .i64 i∧vj= .int .i64 j∧a<=i∧((a+b) / 2+m - b)<=i∧i<=j∧j<=(a+b) / 2∧j - i<=f∧j - i<=kk∧I wr d∧Bx blk w.heap.size lb g sf sb w wr∧
         bsF (fun c=> !lt d[(a+b) / 2+m - 1 - c]! d[c]!) f i j=cF lt a m b d)
        case atStart=>exact⟨((a+b) / 2+m - b),(a+b) / 2,((a+b) / 2 - ((a+b) / 2+m - b)),by first|rfl|(congr 1;omega),by first|rfl|(congr 1;omega),by omega,by omega,by omega,by omega,by omega,by omega,hI1,hBx,hs0.symm⟩
        case round=>
         obtain⟨i,j,f,rfl,rfl,hai,hli,hij,hjb,hf,hkk0,hIr,hBr,heq⟩:=hrel
         have c0:=hBr.c0
         have c1:=hBr.c1
         by_cases hlt:i<j
         · obtain⟨f,rfl⟩:∃k,f=k+1:=⟨f - 1,by omega⟩
           rw[bsF,if_pos hlt] at heq
           have hl:=S.less hIr ((a+b) / 2+m - 1 - (i+j) / 2) ((i+j) / 2) (by omega) (by omega)
           rw[show((((a+b) / 2+m - 1 - (i+j) / 2:Nat):Int))=((a:Int)+(b:Int)) / 2+(m:Int) - 1 - ((i:Int)+(j:Int)) / 2 by omega,show((((i+j) / 2:Nat):Int))=((i:Int)+(j:Int)) / 2 by omega] at hl
           cases hlv:lt d[(a+b) / 2+m - 1 - (i+j) / 2]! d[(i+j) / 2]! with
           |false=>
            rw[hlv] at hl heq
            rw[Bool.not_false,cond_true] at heq
            clear ih
            go_wp2_with (go_at_fn g;refine hl.mono ?_;rintro e w' ⟨rfl,hI2,hF2⟩)
            go_roundg (j - ((i+j) / 2+1))
            case measure=>omega
            case rel=>exact⟨(i+j) / 2+1,j,f,by congr 1,rfl,by omega,by omega,by omega,by omega,by omega,by omega,hI2,hBr.on (cH hF2),heq⟩
           |true=>
            rw[hlv] at hl heq
            rw[Bool.not_true,cond_false] at heq
            clear ih
            go_wp2_with (go_at_fn g;refine hl.mono ?_;rintro e w' ⟨rfl,hI2,hF2⟩)
            go_roundg ((i+j) / 2 - i)
            case measure=>omega
            case rel=>exact⟨i,(i+j) / 2,f,rfl,by congr 1,by omega,by omega,by omega,by omega,by omega,by omega,hI2,hBr.on (cH hF2),heq⟩
         · have he:i=cF lt a m b d:=by
            rw[<-heq]
            cases f with
            |zero=>rfl
            |succ f=>rw[bsF,if_neg hlt]
           have hr:=dS lt a m b d ham hmb
           rw[<-he] at hr
           clear heq hs0
           by_cases hR:i<m∧m<(a+b) / 2+m - i
           · have q1:decide ((i:Int)<(m:Int))=true:=by simp;omega
             have q2:decide ((m:Int)<((a:Int)+(b:Int)) / 2+(m:Int) - (i:Int))=true:=by simp;omega
             by_cases hS:a<i∧i<(a+b) / 2
             · have q3:decide ((a:Int)<(i:Int))=true:=by simp;omega
               have q4:decide ((i:Int)<((a:Int)+(b:Int)) / 2)=true:=by simp;omega
               by_cases hT:(a+b) / 2<(a+b) / 2+m - i∧(a+b) / 2+m - i<b
               · have q5:decide (((a:Int)+(b:Int)) / 2<((a:Int)+(b:Int)) / 2+(m:Int) - (i:Int))=true:=by simp;omega
                 have q6:decide (((a:Int)+(b:Int)) / 2+(m:Int) - (i:Int)<(b:Int))=true:=by simp;omega
                 have Hsym:cm lt (F+1) a m b d=(cm lt F ((a+b) / 2) ((a+b) / 2+m - i) b (cm lt F a i ((a+b) / 2) (ga m ((a+b) / 2+m - i - i) (m - i) ((a+b) / 2+m - i - m) d))):=by rw[cm,if_neg hA,if_neg hB];dsimp only;rw[<-he,if_pos hR,if_pos hS,if_pos hT]
                 clear he
                 go_wp2_with (go_at_call 324;refine(js S i m ((a+b) / 2+m - i) _ _ _ (by omega) (by omega) (by omega) d _ hIr (by omega) (by omega) (by omega)).mono ?_;rintro e w1 ⟨rfl,hI2,hF2⟩;have hB1:=hBr.on hF2;have c0:=hB1.c0;have c1:=hB1.c1)
                 go_wp2_with (go_at_call 290;refine(ih a i ((a+b) / 2) _ _ _ (ga m ((a+b) / 2+m - i - i) (m - i) ((a+b) / 2+m - i - m) d) _ (by omega) (by omega) (by omega) (by omega) hI2 (by omega) (by omega) (by omega)).mono ?_;rintro e w2 ⟨rfl,hI3,hF3⟩;have hB2:=hB1.on hF3;have c0:=hB2.c0;have c1:=hB2.c1)
                 go_wp2_with (go_at_call 290;refine(ih ((a+b) / 2) ((a+b) / 2+m - i) b _ _ _ (cm lt F a i ((a+b) / 2) (ga m ((a+b) / 2+m - i - i) (m - i) ((a+b) / 2+m - i - m) d)) _ (by omega) (by omega) (by omega) (by omega) hI3 (by omega) (by omega) (by omega)).mono ?_;rintro e w3 ⟨rfl,hI4,hF4⟩;have hB3:=hB2.on hF4;have c0:=hB3.c0;have c1:=hB3.c1)
                 all_goals go_wp2
                 all_goals first|(exact bodyPost_ret (results_none rfl _ _ _) rfl ⟨rfl,by first|exact hI4|(rw[Hsym];exact hI4),hB3.fr⟩)|(go_end0;exact⟨rfl,by first|exact hI4|(rw[Hsym];exact hI4),hB3.fr⟩)
               · have q5:i=m∨b=(a+b) / 2+m - i:=by omega
                 have Hsym:cm lt (F+1) a m b d=(cm lt F a i ((a+b) / 2) (ga m ((a+b) / 2+m - i - i) (m - i) ((a+b) / 2+m - i - m) d)):=by rw[cm,if_neg hA,if_neg hB];dsimp only;rw[<-he,if_pos hR,if_pos hS,if_neg hT]
                 clear he
                 go_wp2_with (go_at_call 324;refine(js S i m ((a+b) / 2+m - i) _ _ _ (by omega) (by omega) (by omega) d _ hIr (by omega) (by omega) (by omega)).mono ?_;rintro e w1 ⟨rfl,hI2,hF2⟩;have hB1:=hBr.on hF2;have c0:=hB1.c0;have c1:=hB1.c1)
                 go_wp2_with (go_at_call 290;refine(ih a i ((a+b) / 2) _ _ _ (ga m ((a+b) / 2+m - i - i) (m - i) ((a+b) / 2+m - i - m) d) _ (by omega) (by omega) (by omega) (by omega) hI2 (by omega) (by omega) (by omega)).mono ?_;rintro e w2 ⟨rfl,hI3,hF3⟩;have hB2:=hB1.on hF3;have c0:=hB2.c0;have c1:=hB2.c1)
                 all_goals go_wp2
                 all_goals first|(exact bodyPost_ret (results_none rfl _ _ _) rfl ⟨rfl,by first|exact hI3|(rw[Hsym];exact hI3),hB2.fr⟩)|(go_end0;exact⟨rfl,by first|exact hI3|(rw[Hsym];exact hI3),hB2.fr⟩)
             · have q3:i=a∨i=(a+b) / 2:=by omega
               by_cases hT:(a+b) / 2<(a+b) / 2+m - i∧(a+b) / 2+m - i<b
               · have q5:decide (((a:Int)+(b:Int)) / 2<((a:Int)+(b:Int)) / 2+(m:Int) - (i:Int))=true:=by simp;omega
                 have q6:decide (((a:Int)+(b:Int)) / 2+(m:Int) - (i:Int)<(b:Int))=true:=by simp;omega
                 have Hsym:cm lt (F+1) a m b d=(cm lt F ((a+b) / 2) ((a+b) / 2+m - i) b (ga m ((a+b) / 2+m - i - i) (m - i) ((a+b) / 2+m - i - m) d)):=by rw[cm,if_neg hA,if_neg hB];dsimp only;rw[<-he,if_pos hR,if_neg hS,if_pos hT]
                 clear he
                 go_wp2_with (go_at_call 324;refine(js S i m ((a+b) / 2+m - i) _ _ _ (by omega) (by omega) (by omega) d _ hIr (by omega) (by omega) (by omega)).mono ?_;rintro e w1 ⟨rfl,hI2,hF2⟩;have hB1:=hBr.on hF2;have c0:=hB1.c0;have c1:=hB1.c1)
                 go_wp2_with (go_at_call 290;refine(ih ((a+b) / 2) ((a+b) / 2+m - i) b _ _ _ (ga m ((a+b) / 2+m - i - i) (m - i) ((a+b) / 2+m - i - m) d) _ (by omega) (by omega) (by omega) (by omega) hI2 (by omega) (by omega) (by omega)).mono ?_;rintro e w2 ⟨rfl,hI3,hF3⟩;have hB2:=hB1.on hF3;have c0:=hB2.c0;have c1:=hB2.c1)
                 all_goals go_wp2
                 all_goals first|(exact bodyPost_ret (results_none rfl _ _ _) rfl ⟨rfl,by first|exact hI3|(rw[Hsym];exact hI3),hB2.fr⟩)|(go_end0;exact⟨rfl,by first|exact hI3|(rw[Hsym];exact hI3),hB2.fr⟩)
               · have q5:i=m∨b=(a+b) / 2+m - i:=by omega
                 have Hsym:cm lt (F+1) a m b d=(ga m ((a+b) / 2+m - i - i) (m - i) ((a+b) / 2+m - i - m) d):=by rw[cm,if_neg hA,if_neg hB];dsimp only;rw[<-he,if_pos hR,if_neg hS,if_neg hT]
                 clear he
                 go_wp2_with (go_at_call 324;refine(js S i m ((a+b) / 2+m - i) _ _ _ (by omega) (by omega) (by omega) d _ hIr (by omega) (by omega) (by omega)).mono ?_;rintro e w1 ⟨rfl,hI2,hF2⟩;have hB1:=hBr.on hF2;have c0:=hB1.c0;have c1:=hB1.c1)
                 all_goals go_wp2
                 all_goals first|(exact bodyPost_ret (results_none rfl _ _ _) rfl ⟨rfl,by first|exact hI2|(rw[Hsym];exact hI2),hB1.fr⟩)|(go_end0;exact⟨rfl,by first|exact hI2|(rw[Hsym];exact hI2),hB1.fr⟩)
           · have q0:i=m∨i=(a+b) / 2:=by omega
             by_cases hS:a<i∧i<(a+b) / 2
             · have q3:decide ((a:Int)<(i:Int))=true:=by simp;omega
               have q4:decide ((i:Int)<((a:Int)+(b:Int)) / 2)=true:=by simp;omega
               by_cases hT:(a+b) / 2<(a+b) / 2+m - i∧(a+b) / 2+m - i<b
               · have q5:decide (((a:Int)+(b:Int)) / 2<((a:Int)+(b:Int)) / 2+(m:Int) - (i:Int))=true:=by simp;omega
                 have q6:decide (((a:Int)+(b:Int)) / 2+(m:Int) - (i:Int)<(b:Int))=true:=by simp;omega
                 have Hsym:cm lt (F+1) a m b d=(cm lt F ((a+b) / 2) ((a+b) / 2+m - i) b (cm lt F a i ((a+b) / 2) d)):=by rw[cm,if_neg hA,if_neg hB];dsimp only;rw[<-he,if_neg hR,if_pos hS,if_pos hT]
                 clear he
                 go_wp2_with (go_at_call 290;refine(ih a i ((a+b) / 2) _ _ _ d _ (by omega) (by omega) (by omega) (by omega) hIr (by omega) (by omega) (by omega)).mono ?_;rintro e w1 ⟨rfl,hI2,hF2⟩;have hB1:=hBr.on hF2;have c0:=hB1.c0;have c1:=hB1.c1)
                 go_wp2_with (go_at_call 290;refine(ih ((a+b) / 2) ((a+b) / 2+m - i) b _ _ _ (cm lt F a i ((a+b) / 2) d) _ (by omega) (by omega) (by omega) (by omega) hI2 (by omega) (by omega) (by omega)).mono ?_;rintro e w2 ⟨rfl,hI3,hF3⟩;have hB2:=hB1.on hF3;have c0:=hB2.c0;have c1:=hB2.c1)
                 all_goals go_wp2
                 all_goals first|(exact bodyPost_ret (results_none rfl _ _ _) rfl ⟨rfl,by first|exact hI3|(rw[Hsym];exact hI3),hB2.fr⟩)|(go_end0;exact⟨rfl,by first|exact hI3|(rw[Hsym];exact hI3),hB2.fr⟩)
               · have q5:i=m∨b=(a+b) / 2+m - i:=by omega
                 have Hsym:cm lt (F+1) a m b d=(cm lt F a i ((a+b) / 2) d):=by rw[cm,if_neg hA,if_neg hB];dsimp only;rw[<-he,if_neg hR,if_pos hS,if_neg hT]
                 clear he
                 go_wp2_with (go_at_call 290;refine(ih a i ((a+b) / 2) _ _ _ d _ (by omega) (by omega) (by omega) (by omega) hIr (by omega) (by omega) (by omega)).mono ?_;rintro e w1 ⟨rfl,hI2,hF2⟩;have hB1:=hBr.on hF2;have c0:=hB1.c0;have c1:=hB1.c1)
                 all_goals go_wp2
                 all_goals first|(exact bodyPost_ret (results_none rfl _ _ _) rfl ⟨rfl,by first|exact hI2|(rw[Hsym];exact hI2),hB1.fr⟩)|(go_end0;exact⟨rfl,by first|exact hI2|(rw[Hsym];exact hI2),hB1.fr⟩)
             · have q3:i=a∨i=(a+b) / 2:=by omega
               by_cases hT:(a+b) / 2<(a+b) / 2+m - i∧(a+b) / 2+m - i<b
               · have q5:decide (((a:Int)+(b:Int)) / 2<((a:Int)+(b:Int)) / 2+(m:Int) - (i:Int))=true:=by simp;omega
                 have q6:decide (((a:Int)+(b:Int)) / 2+(m:Int) - (i:Int)<(b:Int))=true:=by simp;omega
                 have Hsym:cm lt (F+1) a m b d=(cm lt F ((a+b) / 2) ((a+b) / 2+m - i) b d):=by rw[cm,if_neg hA,if_neg hB];dsimp only;rw[<-he,if_neg hR,if_neg hS,if_pos hT]
                 clear he
                 go_wp2_with (go_at_call 290;refine(ih ((a+b) / 2) ((a+b) / 2+m - i) b _ _ _ d _ (by omega) (by omega) (by omega) (by omega) hIr (by omega) (by omega) (by omega)).mono ?_;rintro e w1 ⟨rfl,hI2,hF2⟩;have hB1:=hBr.on hF2;have c0:=hB1.c0;have c1:=hB1.c1)
                 all_goals go_wp2
                 all_goals first|(exact bodyPost_ret (results_none rfl _ _ _) rfl ⟨rfl,by first|exact hI2|(rw[Hsym];exact hI2),hB1.fr⟩)|(go_end0;exact⟨rfl,by first|exact hI2|(rw[Hsym];exact hI2),hB1.fr⟩)
               · have q5:i=m∨b=(a+b) / 2+m - i:=by omega
                 have Hsym:cm lt (F+1) a m b d=d:=by rw[cm,if_neg hA,if_neg hB];dsimp only;rw[<-he,if_neg hR,if_neg hS,if_neg hT]
                 clear he
                 all_goals go_wp2
                 all_goals first|(exact bodyPost_ret (results_none rfl _ _ _) rfl ⟨rfl,by first|exact hIr|(rw[Hsym];exact hIr),hBr.fr⟩)|(go_end0;exact⟨rfl,by first|exact hIr|(rw[Hsym];exact hIr),hBr.fr⟩)
      · have hs0:cF lt a m b d=bsF (fun c=> !lt d[(a+b) / 2+m - 1 - c]! d[c]!) (m - a) a m:=by unfold cF;rw[if_neg hC]
        go_wp2
        rw[show decide (((a:Int)+(b:Int)) / 2<(m:Int))=false by simp;omega]
        go_loopg [18,19] b (fun kk vi vj wr=>∃(i j f:Nat),vi= .int .i64 i∧vj= .int .i64 j∧a<=i∧a<=i∧i<=j∧j<=m∧j - i<=f∧j - i<=kk∧I wr d∧Bx blk w.heap.size lb g sf sb w wr∧
         bsF (fun c=> !lt d[(a+b) / 2+m - 1 - c]! d[c]!) f i j=cF lt a m b d)
        case atStart=>exact⟨a,m,(m - a),by first|rfl|(congr 1;omega),by first|rfl|(congr 1;omega),by omega,by omega,by omega,by omega,by omega,by omega,hI1,hBx,hs0.symm⟩
        case round=>
         obtain⟨i,j,f,rfl,rfl,hai,hli,hij,hjb,hf,hkk0,hIr,hBr,heq⟩:=hrel
         have c0:=hBr.c0
         have c1:=hBr.c1
         by_cases hlt:i<j
         · obtain⟨f,rfl⟩:∃k,f=k+1:=⟨f - 1,by omega⟩
           rw[bsF,if_pos hlt] at heq
           have hl:=S.less hIr ((a+b) / 2+m - 1 - (i+j) / 2) ((i+j) / 2) (by omega) (by omega)
           rw[show((((a+b) / 2+m - 1 - (i+j) / 2:Nat):Int))=((a:Int)+(b:Int)) / 2+(m:Int) - 1 - ((i:Int)+(j:Int)) / 2 by omega,show((((i+j) / 2:Nat):Int))=((i:Int)+(j:Int)) / 2 by omega] at hl
           cases hlv:lt d[(a+b) / 2+m - 1 - (i+j) / 2]! d[(i+j) / 2]! with
           |false=>
            rw[hlv] at hl heq
            rw[Bool.not_false,cond_true] at heq
            clear ih
            go_wp2_with (go_at_fn g;refine hl.mono ?_;rintro e w' ⟨rfl,hI2,hF2⟩)
            go_roundg (j - ((i+j) / 2+1))
            case measure=>omega
            case rel=>exact⟨(i+j) / 2+1,j,f,by congr 1,rfl,by omega,by omega,by omega,by omega,by omega,by omega,hI2,hBr.on (cH hF2),heq⟩
           |true=>
            rw[hlv] at hl heq
            rw[Bool.not_true,cond_false] at heq
            clear ih
            go_wp2_with (go_at_fn g;refine hl.mono ?_;rintro e w' ⟨rfl,hI2,hF2⟩)
            go_roundg ((i+j) / 2 - i)
            case measure=>omega
            case rel=>exact⟨i,(i+j) / 2,f,rfl,by congr 1,by omega,by omega,by omega,by omega,by omega,by omega,hI2,hBr.on (cH hF2),heq⟩
         · have he:i=cF lt a m b d:=by
            rw[<-heq]
            cases f with
            |zero=>rfl
            |succ f=>rw[bsF,if_neg hlt]
           have hr:=dS lt a m b d ham hmb
           rw[<-he] at hr
           clear heq hs0
           by_cases hR:i<m∧m<(a+b) / 2+m - i
           · have q1:decide ((i:Int)<(m:Int))=true:=by simp;omega
             have q2:decide ((m:Int)<((a:Int)+(b:Int)) / 2+(m:Int) - (i:Int))=true:=by simp;omega
             by_cases hS:a<i∧i<(a+b) / 2
             · have q3:decide ((a:Int)<(i:Int))=true:=by simp;omega
               have q4:decide ((i:Int)<((a:Int)+(b:Int)) / 2)=true:=by simp;omega
               by_cases hT:(a+b) / 2<(a+b) / 2+m - i∧(a+b) / 2+m - i<b
               · have q5:decide (((a:Int)+(b:Int)) / 2<((a:Int)+(b:Int)) / 2+(m:Int) - (i:Int))=true:=by simp;omega
                 have q6:decide (((a:Int)+(b:Int)) / 2+(m:Int) - (i:Int)<(b:Int))=true:=by simp;omega
                 have Hsym:cm lt (F+1) a m b d=(cm lt F ((a+b) / 2) ((a+b) / 2+m - i) b (cm lt F a i ((a+b) / 2) (ga m ((a+b) / 2+m - i - i) (m - i) ((a+b) / 2+m - i - m) d))):=by rw[cm,if_neg hA,if_neg hB];dsimp only;rw[<-he,if_pos hR,if_pos hS,if_pos hT]
                 clear he
                 go_wp2_with (go_at_call 324;refine(js S i m ((a+b) / 2+m - i) _ _ _ (by omega) (by omega) (by omega) d _ hIr (by omega) (by omega) (by omega)).mono ?_;rintro e w1 ⟨rfl,hI2,hF2⟩;have hB1:=hBr.on hF2;have c0:=hB1.c0;have c1:=hB1.c1)
                 go_wp2_with (go_at_call 290;refine(ih a i ((a+b) / 2) _ _ _ (ga m ((a+b) / 2+m - i - i) (m - i) ((a+b) / 2+m - i - m) d) _ (by omega) (by omega) (by omega) (by omega) hI2 (by omega) (by omega) (by omega)).mono ?_;rintro e w2 ⟨rfl,hI3,hF3⟩;have hB2:=hB1.on hF3;have c0:=hB2.c0;have c1:=hB2.c1)
                 go_wp2_with (go_at_call 290;refine(ih ((a+b) / 2) ((a+b) / 2+m - i) b _ _ _ (cm lt F a i ((a+b) / 2) (ga m ((a+b) / 2+m - i - i) (m - i) ((a+b) / 2+m - i - m) d)) _ (by omega) (by omega) (by omega) (by omega) hI3 (by omega) (by omega) (by omega)).mono ?_;rintro e w3 ⟨rfl,hI4,hF4⟩;have hB3:=hB2.on hF4;have c0:=hB3.c0;have c1:=hB3.c1)
                 all_goals go_wp2
                 all_goals first|(exact bodyPost_ret (results_none rfl _ _ _) rfl ⟨rfl,by first|exact hI4|(rw[Hsym];exact hI4),hB3.fr⟩)|(go_end0;exact⟨rfl,by first|exact hI4|(rw[Hsym];exact hI4),hB3.fr⟩)
               · have q5:i=m∨b=(a+b) / 2+m - i:=by omega
                 have Hsym:cm lt (F+1) a m b d=(cm lt F a i ((a+b) / 2) (ga m ((a+b) / 2+m - i - i) (m - i) ((a+b) / 2+m - i - m) d)):=by rw[cm,if_neg hA,if_neg hB];dsimp only;rw[<-he,if_pos hR,if_pos hS,if_neg hT]
                 clear he
                 go_wp2_with (go_at_call 324;refine(js S i m ((a+b) / 2+m - i) _ _ _ (by omega) (by omega) (by omega) d _ hIr (by omega) (by omega) (by omega)).mono ?_;rintro e w1 ⟨rfl,hI2,hF2⟩;have hB1:=hBr.on hF2;have c0:=hB1.c0;have c1:=hB1.c1)
                 go_wp2_with (go_at_call 290;refine(ih a i ((a+b) / 2) _ _ _ (ga m ((a+b) / 2+m - i - i) (m - i) ((a+b) / 2+m - i - m) d) _ (by omega) (by omega) (by omega) (by omega) hI2 (by omega) (by omega) (by omega)).mono ?_;rintro e w2 ⟨rfl,hI3,hF3⟩;have hB2:=hB1.on hF3;have c0:=hB2.c0;have c1:=hB2.c1)
                 all_goals go_wp2
                 all_goals first|(exact bodyPost_ret (results_none rfl _ _ _) rfl ⟨rfl,by first|exact hI3|(rw[Hsym];exact hI3),hB2.fr⟩)|(go_end0;exact⟨rfl,by first|exact hI3|(rw[Hsym];exact hI3),hB2.fr⟩)
             · have q3:i=a∨i=(a+b) / 2:=by omega
               by_cases hT:(a+b) / 2<(a+b) / 2+m - i∧(a+b) / 2+m - i<b
               · have q5:decide (((a:Int)+(b:Int)) / 2<((a:Int)+(b:Int)) / 2+(m:Int) - (i:Int))=true:=by simp;omega
                 have q6:decide (((a:Int)+(b:Int)) / 2+(m:Int) - (i:Int)<(b:Int))=true:=by simp;omega
                 have Hsym:cm lt (F+1) a m b d=(cm lt F ((a+b) / 2) ((a+b) / 2+m - i) b (ga m ((a+b) / 2+m - i - i) (m - i) ((a+b) / 2+m - i - m) d)):=by rw[cm,if_neg hA,if_neg hB];dsimp only;rw[<-he,if_pos hR,if_neg hS,if_pos hT]
                 clear he
                 go_wp2_with (go_at_call 324;refine(js S i m ((a+b) / 2+m - i) _ _ _ (by omega) (by omega) (by omega) d _ hIr (by omega) (by omega) (by omega)).mono ?_;rintro e w1 ⟨rfl,hI2,hF2⟩;have hB1:=hBr.on hF2;have c0:=hB1.c0;have c1:=hB1.c1)
                 go_wp2_with (go_at_call 290;refine(ih ((a+b) / 2) ((a+b) / 2+m - i) b _ _ _ (ga m ((a+b) / 2+m - i - i) (m - i) ((a+b) / 2+m - i - m) d) _ (by omega) (by omega) (by omega) (by omega) hI2 (by omega) (by omega) (by omega)).mono ?_;rintro e w2 ⟨rfl,hI3,hF3⟩;have hB2:=hB1.on hF3;have c0:=hB2.c0;have c1:=hB2.c1)
                 all_goals go_wp2
                 all_goals first|(exact bodyPost_ret (results_none rfl _ _ _) rfl ⟨rfl,by first|exact hI3|(rw[Hsym];exact hI3),hB2.fr⟩)|(go_end0;exact⟨rfl,by first|exact hI3|(rw[Hsym];exact hI3),hB2.fr⟩)
               · have q5:i=m∨b=(a+b) / 2+m - i:=by omega
                 have Hsym:cm lt (F+1) a m b d=(ga m ((a+b) / 2+m - i - i) (m - i) ((a+b) / 2+m - i - m) d):=by rw[cm,if_neg hA,if_neg hB];dsimp only;rw[<-he,if_pos hR,if_neg hS,if_neg hT]
                 clear he
                 go_wp2_with (go_at_call 324;refine(js S i m ((a+b) / 2+m - i) _ _ _ (by omega) (by omega) (by omega) d _ hIr (by omega) (by omega) (by omega)).mono ?_;rintro e w1 ⟨rfl,hI2,hF2⟩;have hB1:=hBr.on hF2;have c0:=hB1.c0;have c1:=hB1.c1)
                 all_goals go_wp2
                 all_goals first|(exact bodyPost_ret (results_none rfl _ _ _) rfl ⟨rfl,by first|exact hI2|(rw[Hsym];exact hI2),hB1.fr⟩)|(go_end0;exact⟨rfl,by first|exact hI2|(rw[Hsym];exact hI2),hB1.fr⟩)
           · have q0:i=m∨i=(a+b) / 2:=by omega
             by_cases hS:a<i∧i<(a+b) / 2
             · have q3:decide ((a:Int)<(i:Int))=true:=by simp;omega
               have q4:decide ((i:Int)<((a:Int)+(b:Int)) / 2)=true:=by simp;omega
               by_cases hT:(a+b) / 2<(a+b) / 2+m - i∧(a+b) / 2+m - i<b
               · have q5:decide (((a:Int)+(b:Int)) / 2<((a:Int)+(b:Int)) / 2+(m:Int) - (i:Int))=true:=by simp;omega
                 have q6:decide (((a:Int)+(b:Int)) / 2+(m:Int) - (i:Int)<(b:Int))=true:=by simp;omega
                 have Hsym:cm lt (F+1) a m b d=(cm lt F ((a+b) / 2) ((a+b) / 2+m - i) b (cm lt F a i ((a+b) / 2) d)):=by rw[cm,if_neg hA,if_neg hB];dsimp only;rw[<-he,if_neg hR,if_pos hS,if_pos hT]
                 clear he
                 go_wp2_with (go_at_call 290;refine(ih a i ((a+b) / 2) _ _ _ d _ (by omega) (by omega) (by omega) (by omega) hIr (by omega) (by omega) (by omega)).mono ?_;rintro e w1 ⟨rfl,hI2,hF2⟩;have hB1:=hBr.on hF2;have c0:=hB1.c0;have c1:=hB1.c1)
                 go_wp2_with (go_at_call 290;refine(ih ((a+b) / 2) ((a+b) / 2+m - i) b _ _ _ (cm lt F a i ((a+b) / 2) d) _ (by omega) (by omega) (by omega) (by omega) hI2 (by omega) (by omega) (by omega)).mono ?_;rintro e w2 ⟨rfl,hI3,hF3⟩;have hB2:=hB1.on hF3;have c0:=hB2.c0;have c1:=hB2.c1)
                 all_goals go_wp2
                 all_goals first|(exact bodyPost_ret (results_none rfl _ _ _) rfl ⟨rfl,by first|exact hI3|(rw[Hsym];exact hI3),hB2.fr⟩)|(go_end0;exact⟨rfl,by first|exact hI3|(rw[Hsym];exact hI3),hB2.fr⟩)
               · have q5:i=m∨b=(a+b) / 2+m - i:=by omega
                 have Hsym:cm lt (F+1) a m b d=(cm lt F a i ((a+b) / 2) d):=by rw[cm,if_neg hA,if_neg hB];dsimp only;rw[<-he,if_neg hR,if_pos hS,if_neg hT]
                 clear he
                 go_wp2_with (go_at_call 290;refine(ih a i ((a+b) / 2) _ _ _ d _ (by omega) (by omega) (by omega) (by omega) hIr (by omega) (by omega) (by omega)).mono ?_;rintro e w1 ⟨rfl,hI2,hF2⟩;have hB1:=hBr.on hF2;have c0:=hB1.c0;have c1:=hB1.c1)
                 all_goals go_wp2
                 all_goals first|(exact bodyPost_ret (results_none rfl _ _ _) rfl ⟨rfl,by first|exact hI2|(rw[Hsym];exact hI2),hB1.fr⟩)|(go_end0;exact⟨rfl,by first|exact hI2|(rw[Hsym];exact hI2),hB1.fr⟩)
             · have q3:i=a∨i=(a+b) / 2:=by omega
               by_cases hT:(a+b) / 2<(a+b) / 2+m - i∧(a+b) / 2+m - i<b
               · have q5:decide (((a:Int)+(b:Int)) / 2<((a:Int)+(b:Int)) / 2+(m:Int) - (i:Int))=true:=by simp;omega
                 have q6:decide (((a:Int)+(b:Int)) / 2+(m:Int) - (i:Int)<(b:Int))=true:=by simp;omega
                 have Hsym:cm lt (F+1) a m b d=(cm lt F ((a+b) / 2) ((a+b) / 2+m - i) b d):=by rw[cm,if_neg hA,if_neg hB];dsimp only;rw[<-he,if_neg hR,if_neg hS,if_pos hT]
                 clear he
                 go_wp2_with (go_at_call 290;refine(ih ((a+b) / 2) ((a+b) / 2+m - i) b _ _ _ d _ (by omega) (by omega) (by omega) (by omega) hIr (by omega) (by omega) (by omega)).mono ?_;rintro e w1 ⟨rfl,hI2,hF2⟩;have hB1:=hBr.on hF2;have c0:=hB1.c0;have c1:=hB1.c1)
                 all_goals go_wp2
                 all_goals first|(exact bodyPost_ret (results_none rfl _ _ _) rfl ⟨rfl,by first|exact hI2|(rw[Hsym];exact hI2),hB1.fr⟩)|(go_end0;exact⟨rfl,by first|exact hI2|(rw[Hsym];exact hI2),hB1.fr⟩)
               · have q5:i=m∨b=(a+b) / 2+m - i:=by omega
                 have Hsym:cm lt (F+1) a m b d=d:=by rw[cm,if_neg hA,if_neg hB];dsimp only;rw[<-he,if_neg hR,if_neg hS,if_neg hT]
                 clear he
                 all_goals go_wp2
                 all_goals first|(exact bodyPost_ret (results_none rfl _ _ _) rfl ⟨rfl,by first|exact hIr|(rw[Hsym];exact hIr),hBr.fr⟩)|(go_end0;exact⟨rfl,by first|exact hIr|(rw[Hsym];exact hIr),hBr.fr⟩)
end
open Go Go.Proofs Go.Shelf Go.RowKit Go.Lib Go.Sort
open Go.Vx (Srt Bx gQ da cH dA jn fS ly ga bsF upF dnF cF cm dS pq pD rK bR)
variable {α:Type} [Inhabited α]
section
variable {I:World->Array α->Prop} {blk sz:Nat} {lt:α->α->Bool} {g:Nat} {lb:Array Value} {sf:Nat} {sb:Array Value}
set_option maxHeartbeats 3200000 in
set_option maxRecDepth 1000000 in
theorem I4(S:Srt Tryz.prog I blk sz lt g lb sf sb)(hlim:sz<=140737488355328)(d:Array α)(w:World)(hI:I w d):
 Calls Tryz.prog 212 #[.agg #[.func (.func g) #[] lb,.func (.func sf) #[] sb],.int .i64 sz] w fun e w'=>e= .returned (.tuple #[])∧I w' (bR lt sz d)∧Vx.Fr w [blk] w':=by
 have hsm:=S.small
 have eg:=S.eg
 have hB:=Bx.start S hI 232
 have hI1:=S.alloc (.cells #[.func (.func g) #[] lb,.func (.func sf) #[] sb] 232) hI
 go_enter Tryz.func212,Tryz.ntmps212
 go_wp2
 go_loopg [5,6] sz (fun kk va vb wr=>∃(a f:Nat) (dk:Array α),va= .int .i64 a∧vb= .int .i64 ((a:Int)+20)∧a<=sz∧sz - a<=kk∧sz - a<f∧I wr dk∧Bx blk w.heap.size lb g sf sb w wr∧pq lt sz f a dk=pq lt sz (sz+1) 0 d)
 case atStart=>exact⟨0,sz+1,d,by go_num,by go_num,by omega,by omega,by omega,hI1,hB,rfl⟩
 case round=>
  obtain⟨a,f,dk,rfl,rfl,has,hkk,hf,hIr,hBr,heq⟩:=hrel
  obtain⟨f,rfl⟩:∃k,f=k+1:=⟨f - 1,by omega⟩
  have c0:=hBr.c0
  have c1:=hBr.c1
  rw[pq] at heq
  by_cases hlt:a+20<=sz
  · rw[if_pos hlt] at heq
    go_wp2_with (go_at_call 289;refine(mJ S a (a+20) _ _ (by omega) (by omega) dk _ hIr (by omega) hlt).mono ?_;rintro e w' ⟨rfl,hI2,hF2⟩)
    go_roundg (sz - (a+20))
    case measure=>omega
    case rel=>exact⟨a+20,f,_,by go_num,by go_num,hlt,le_refl _,by omega,hI2,hBr.on hF2,heq⟩
  · rw[if_neg hlt] at heq
    go_wp2_with (go_at_call 289;refine(mJ S a sz _ _ (by omega) (by omega) dk _ hIr (by omega) (le_refl _)).mono ?_;rintro e w' ⟨rfl,hI2,hF2⟩)
    have hB2:=hBr.on hF2
    clear hIr hF2 hBr c0 c1
    go_loopg [4] sz (fun kk vb wr=>∃(bs f:Nat) (dk:Array α),vb= .int .i64 bs∧1<=bs∧bs<=2*sz+20∧sz - bs<=kk∧sz - bs<f∧I wr dk∧Bx blk w.heap.size lb g sf sb w wr∧rK lt sz f bs dk=bR lt sz d)
    case atStart=>exact⟨20,sz+1,_,by go_num,by omega,by omega,by omega,by omega,hI2,hB2,by rw[heq];rfl⟩
    case round=>
     obtain⟨bs,f2,d2,rfl,hb1,hb2,hkk2,hf2,hI3,hB3,heq2⟩:=hrel
     obtain⟨f2,rfl⟩:∃k,f2=k+1:=⟨f2 - 1,by omega⟩
     rw[rK] at heq2
     by_cases hbs:bs<sz
     · rw[if_pos hbs] at heq2
       go_wp2
       go_loopg [5,6] sz (fun kk va vb wr=>∃(a f:Nat) (dk:Array α),va= .int .i64 a∧vb= .int .i64 ((a:Int)+2*(bs:Int))∧a<=sz∧sz - a<=kk∧sz - a<f∧I wr dk∧Bx blk w.heap.size lb g sf sb w wr∧pD lt sz bs f a dk=pD lt sz bs (sz+1) 0 d2)
       case atStart=>exact⟨0,sz+1,d2,by go_num,by go_num,by omega,by omega,by omega,hI3,hB3,rfl⟩
       case round=>
        obtain⟨a3,f3,d3,rfl,rfl,has3,hkk3,hf3,hI4,hB4,heq3⟩:=hrel
        obtain⟨f3,rfl⟩:∃k,f3=k+1:=⟨f3 - 1,by omega⟩
        have c0:=hB4.c0
        have c1:=hB4.c1
        rw[pD] at heq3
        by_cases hle:a3+2*bs<=sz
        · rw[if_pos hle] at heq3
          go_wp2_with (go_at_call 290;refine(uF S (2*bs) a3 (a3+bs) (a3+2*bs) _ _ _ d3 _ (by omega) (by omega) (by omega) (by omega) hI4 (by omega) (by omega) hle).mono ?_;rintro e w' ⟨rfl,hI5,hF5⟩)
          go_roundg (sz - (a3+2*bs))
          case measure=>omega
          case rel=>exact⟨a3+2*bs,f3,_,by go_num,by go_num,hle,le_refl _,by omega,hI5,hB4.on hF5,heq3⟩
        · rw[if_neg hle] at heq3
          by_cases hm:a3+bs<sz
          · rw[if_pos hm] at heq3
            go_wp2_with (go_at_call 290;refine(uF S (sz - a3) a3 (a3+bs) sz _ _ _ d3 _ (by omega) (by omega) (by omega) (by omega) hI4 (by omega) hm (le_refl _)).mono ?_;rintro e w' ⟨rfl,hI5,hF5⟩)
            go_roundg (sz - 2*bs)
            case measure=>omega
            case rel=>exact⟨2*bs,f2,_,by go_num,by omega,by omega,le_refl _,by omega,hI5,hB4.on hF5,by rw[<-heq3] at heq2;exact heq2⟩
          · rw[if_neg hm] at heq3
            go_wp2
            go_roundg (sz - 2*bs)
            case measure=>omega
            case rel=>exact⟨2*bs,f2,_,by go_num,by omega,by omega,le_refl _,by omega,hI4,hB4,by rw[<-heq3] at heq2;exact heq2⟩
     · rw[if_neg hbs] at heq2
       go_wp2
       go_end0
       exact⟨rfl,by rw[<-heq2];exact hI3,hB3.fr⟩
end
open Go Go.Proofs Go.Shelf Go.RowKit Go.Lib Go.Sort
open Go.Vx (Srt Bx gQ da cH dA jn fS bR)
variable {α:Type} [Inhabited α]
section
variable {I:World->Array α->Prop} {blk:Nat} {lt:α->α->Bool} {g:Nat} {lb:Array Value}
set_option maxHeartbeats 3200000 in
set_option maxRecDepth 1000000 in
theorem jj(t e:TypeId)(i ie:TypeInfo)(hi:Tryz.prog.info? t=some i)(hd:i.desc= .slice e)(hpk:Tryz.prog.packed t=false)(hie:Tryz.prog.info? e=some ie)(ke:Nat)(hke:∀w,(Extern.Rtype.kind e).run Tryz.prog w= .ok ke w)
 (p:Option Addr) (n c:Nat) (hn:n<=140737488355328) (f:Nat) (hf:Tryz.prog.funcs.findIdx? (·.name== "internal/reflectlite" ++ ".Swapper$" ++toString (swapperK n ie ke))=some f)
 (S:Srt Tryz.prog I blk n lt g lb f (if swapperK n ie ke<=2 then #[] else #[.slice p n c,typeHandle Tryz.prog e])) (d:Array α) (w:World) (hI:I w d):
 Calls Tryz.prog 142 #[.iface t (.slice p n c),.func (.func g) #[] lb] w fun e w'=>e= .returned (.tuple #[])∧I w' (bR lt n d):=by
 have hv:=run_valueOf_slice (P:=Tryz.prog) t e i hi hd p n c w
 have hs:=fun w=>run_swapper_slice (P:=Tryz.prog) t e i ie hi hd hie ke hke p n c f hf w
 have hl:=fun a w ha=>run_valueLen_slice (P:=Tryz.prog) t e i hi hd hpk a p n c w ha
 have hp:=I4 S hn d _ (S.alloc (.cells #[.pointer (some ⟨Tryz.prog.globals.size,t,none⟩),.pointer (some ⟨w.heap.size,0,none⟩),.int .u64 151] 226) (S.alloc (.cells #[.slice p n c] t) hI))
 generalize (if swapperK n ie ke<=2 then(#[]:Array Value) else #[.slice p n c,typeHandle Tryz.prog e])=B at hs hp S
 clear S
 simp only[typeHandle] at hv hl
 generalize Tryz.prog.globals.size=gz at hv hl hp
 have e15:∀args w,(callFunc 212 args).run Tryz.prog w= .ok (.enter 212 args) w:=enters_of Tryz.func212 (by kernel_rfl) rfl
 go_enter Tryz.func142,Tryz.ntmps142
 go_wp2
 rw[run_callFunc_extern Tryz.func210 (by kernel_rfl) (by kernel_rfl) (by kernel_rfl) (e:=fun args=>Extern.ReflectliteValue.unpack (args.getD 0 (.tuple #[]))) (by kernel_rfl),
  show Sem.run Tryz.prog ((fun args:Array Value=>Extern.ReflectliteValue.unpack (args.getD 0 (.tuple #[]))) #[.iface t (.slice p n c)]) w=_ from hv]
 simp only[Result.andThen]
 rw[Oper.upon_value]
 go_wp2
 rw[run_callFunc_extern Tryz.func211 (by kernel_rfl) (by kernel_rfl) (by kernel_rfl) (e:=Extern.ReflectliteSwapper.swapper "internal/reflectlite" (Extern.ReflectliteValue.valueError "Swapper")) (by kernel_rfl),hs]
 simp only[Result.andThen]
 rw[Oper.upon_value]
 go_wp2
 rw[run_callFunc_extern Tryz.func213 (by kernel_rfl) (by kernel_rfl) (by kernel_rfl) (e:=Extern.ReflectliteValue.method (Extern.ReflectliteValue.valueError "reflectlite.Value.Len" 0) Extern.ReflectliteValue.len) (by kernel_rfl),
  hl _ _ (by simp)]
 simp only[Result.andThen]
 rw[Oper.upon_value]
 go_wp2_with (go_at_fn 212;refine hp.mono ?_;rintro e w' ⟨rfl,hR,-⟩)
 go_end0
 exact⟨rfl,hR⟩
end
open Go Go.Proofs Go.Shelf Go.RowKit Go.Lib Go.Sort Go.Vx
noncomputable def iSl:TypeInfo:=(Tryz.prog.info? 40).get (by kernel_rfl)
noncomputable def iAl:TypeInfo:=(Tryz.prog.info? 135).get (by kernel_rfl)
theorem swK(n:Nat):swapperK n iAl 25=if n=0 then 1 else if n=1 then 2 else 9:=by
 have a:iAl.hasPointers=true:=by kernel_rfl
 have b:iAl.bytes=56:=by kernel_rfl
 simp[Lib.swapperK,a,b]
theorem Aw(p:Option Addr)(n c:Nat)(w:World)(R:World->Prop)
 (h:Calls Tryz.prog 142 #[.iface 40 (.slice p n c),.func (.func 291) #[] #[.pointer (some ⟨w.heap.size,0,none⟩)]] (w.alloc (.cells #[.slice p n c] 40))
   fun e w'=>e= .returned (.tuple #[])∧w'.cell? ⟨w.heap.size,0,none⟩=some (.slice p n c)∧R w'):
 Calls Tryz.prog 219 #[.slice p n c] w fun e w'=>e= .returned (.slice p n c)∧R w':=by
 go_enter Tryz.func219,Tryz.ntmps219
 go_wp2_with (go_at_call 142;refine h.mono ?_;rintro e w' ⟨rfl,hc,hR⟩)
 go_wp2
 go_ret
 exact⟨rfl,hR⟩
def ltE(x y:El):Bool:=ltA x.1.2.1 y.1.2.1
theorem G6{w:World}(hG:glob Tryz.prog w){v:Value}{rows:List (List D)}{Bs:Nat}(hb:w.cell? ⟨Bs,0,none⟩=some v)(hv:bV w (fun _ _=>False) (.sl 135 aj) v (.sl rows))(hl:rows.length<=al)(i j:Nat)(hi:i<rows.length)(hj:j<rows.length):
 Calls Tryz.prog 291 #[.int .i64 i,.int .i64 j,.pointer (some ⟨Bs,0,none⟩)] w fun e w'=>e= .returned (.bool (ltA (ag rows i) (ag rows j)))∧Below w.heap.size w w':=by
 have hn:∀k:Nat,k<rows.length->inR .i64 k:=fun k hk=>by
  simp[al] at hl
  rw[EI];omega
 have hc:=(Rc.r rfl) w (fun _ _=>False) [.int .i64 i,.int .i64 j,.pointer (some ⟨Bs,0,none⟩)] [.int i,.int j,.sl [[.sl rows]]] (fun _ _ h=>h.elim) hG
  ⟨_,_,_,_,rfl,rfl,⟨rfl,hn i hi⟩,_,_,_,_,rfl,rfl,⟨rfl,hn j hj⟩,_,_,_,_,rfl,rfl,⟨Bs,0,[v],rfl,⟨hb,trivial⟩,fun _ _ h=>h,v,[],rfl,hv,rfl⟩,rfl,rfl⟩
  (by
    show(Φ 291 1000 _).ZZ=true
    simp[EC,xU]
    omega)
 refine hc.mono ?_
 rintro e w' ⟨us,Fs,rfl,hB,hR,-,-⟩
 obtain⟨u,us',rfl,hu,rfl,rfl⟩:=hR
 refine⟨?_,hB⟩
 have hu:u= .bool _:=hu
 rw[hu]
 simp[jt,ky,RSh.mk,LA,EC,xU]
theorem pM:∀{w:World}{M:Nat->Nat->Prop}{ks:List K}{vs:List Value}{r:List D},aP w M ks vs r->∀v,v∈vs->v.oneCell'=true
 |_,_,[],_,_,h,v,hv=>by rw[show _=_ from h] at hv;cases hv
 |_,_,k::ks,_,_,⟨u,us,rfl,hc,hr⟩,v,hv=>by
  rcases mem_cons.1 hv with rfl|hv
  · exact hc.jU
  · exact pM hr v hv
theorem Lt:SWO ltA:=y4 (fun r=>(cell r 0).ae) ki
theorem EO:SWO fun x y:List Value×List D×List Nat=>ltA x.2.1 y.2.1:=y4 (fun x:List Value×List D×List Nat=>x.2.1) Lt
set_option maxHeartbeats 1000000 in
theorem IS:Oj Tryz.prog 219 135 aj AU:=by
 intro w M dp v xs F hM hG hO hF hlt _
 have hO0:=hO
 obtain⟨vss,fps,hown,hmax,hv1,hv2,hFe,hrow⟩:=hO0
 have h0:(AU 0 [.sl xs]).ae=stS ltA xs:=by simp[AU]
 rw[h0]
 rcases hown.2 with ⟨e1,e2⟩|⟨b,cap,cur,e1,_,hh,hnc,hcm,hcs,htk⟩
 · -- nothing
   subst e1
   have hx:xs=[]:=length_eq_zero_iff.1 e2
   subst hx
   have S:Srt Tryz.prog (fun(w':World) (d:Array El)=>d.size=0∧Fr (w.alloc (.cells #[.slice none 0 0] 40)) [] w') w.heap.size 0 ltE 291 #[.pointer (some ⟨w.heap.size,0,none⟩)] 280 #[]:=
    { eg:=enters_of Tryz.func291 (by kernel_rfl) rfl
      small:=by omega
      inw:=fun h=>lt_of_lt_of_le (by simp) h.2.size
      size:=fun h=>h.1
      alloc:=fun o h=>⟨h.1,da h.2 (dA _ _ _)⟩
      drew:=fun q h=>⟨h.1,da h.2 (jn _ _ _)⟩
      less:=fun h i j hi hj=>absurd hi (by omega)
      swap:=fun h i j hi hj hij=>absurd hi (by omega) }
   have hs:=jj 40 135 iSl iAl (by kernel_rfl) (by kernel_rfl) (by kernel_rfl) (by kernel_rfl) 25 (fun _=>by kernel_rfl) none 0 0 (by omega) 280 (by rw[swK];kernel_rfl) S #[] _ ⟨rfl,gQ _ _⟩
   refine(Aw none 0 0 w (fun w'=>Fr (w.alloc (.cells #[.slice none 0 0] 40)) [] w') (hs.mono fun e w' ⟨he,_,hf⟩=>⟨he,fS hf (by simp) (by simp),hf⟩)).mono fun e w' ⟨he,hf⟩=>⟨he,?_,i0 _ _,F,?_,Perm.refl _⟩
   · exact da (dA _ _ _) hf
   · have hf0:fps=[]:=length_eq_zero_iff.1 (by simpa using hv2)
     subst hf0
     exact⟨[],[],⟨rfl,.inl ⟨rfl,rfl⟩⟩,Nat.zero_le _,rfl,rfl,hFe,fun i row vs f h=>by cases h⟩
 · subst e1
   obtain⟨-,-,-,d,hR,hxs,hF2,hord⟩:=BD hO hF
   have hMb:∀o,M b o:=hM b rfl
   have hblt:b<w.heap.size:=(Array.getElem?_eq_some_iff.1 hh).1
   have hR0:Go.Vx.RowsIn (w.alloc (.cells #[.slice (some ⟨b,0,none⟩) xs.length cap] 40)) b cap xs.length aj.length 135 (tU w M aj dp b) (w.alloc (.cells #[.slice (some ⟨b,0,none⟩) xs.length cap] 40)) d:=
    ⟨gQ _ _,hR.size,hR.all,(hR.below ((Below.refl _ _).alloc (le_refl _) _)).mem⟩
   have hbase:∀{w':World}{d':Array El},Go.Vx.RowsIn (w.alloc (.cells #[.slice (some ⟨b,0,none⟩) xs.length cap] 40)) b cap xs.length aj.length 135 (tU w M aj dp b) w' d'->Go.Vx.RowsIn w b cap xs.length aj.length 135 (tU w M aj dp b) w' d':=
    fun h=>⟨da (dA _ _ _) h.fr,h.size,h.all,h.mem⟩
   have hbox:∀{w':World}{d':Array El},Go.Vx.RowsIn (w.alloc (.cells #[.slice (some ⟨b,0,none⟩) xs.length cap] 40)) b cap xs.length aj.length 135 (tU w M aj dp b) w' d'->w'.cell? ⟨w.heap.size,0,none⟩=some (.slice (some ⟨b,0,none⟩) xs.length cap):=
    fun h=>fS h.fr (by simp;omega) (by simp)
   obtain⟨sf,hsf,hsf2⟩:∃sf,Tryz.prog.funcs.findIdx? (·.name== "internal/reflectlite" ++ ".Swapper$" ++toString (swapperK xs.length iAl 25))=some sf∧(2<=xs.length->sf=288):=by
    rw[swK]
    split
    · exact⟨280,by kernel_rfl,fun h=>by omega⟩
    · split
      · exact⟨281,by kernel_rfl,fun h=>by omega⟩
      · exact⟨288,by kernel_rfl,fun _=>rfl⟩
   have S:=Av (P:=Tryz.prog) (w0:=w.alloc (.cells #[.slice (some ⟨b,0,none⟩) xs.length cap] 40)) (b:=b) (cap:=cap) (n:=xs.length) (k:=aj.length) (e:=135) (Q:=tU w M aj dp b) hnc
    (by simp[al] at hmax;omega) (lt:=ltE) (g:=291) (lb:= #[.pointer (some ⟨w.heap.size,0,none⟩)]) (sf:=sf) (sb:=if swapperK xs.length iAl 25<=2 then #[] else #[.slice (some ⟨b,0,none⟩) xs.length cap,typeHandle Tryz.prog 135])
    (enters_of Tryz.func291 (by kernel_rfl) rfl)
    (fun x hx v hv=>by
      rw[qX hx.1] at hv
      have:=hx.2
      split at this
      · exact pM (this.1.toC (M:=fun _ _=>False) fun _ _ _ h=>h) v hv
      · exact pM this.1 v hv)
    (fun{w' d'} h i j hi hj=>by
      have hd:=(hbase h).dat hnc hmax hMb
      have hsz:d'.size=xs.length:=h.size
      have hrn:∀k,k<xs.length->ag (d'.toList.map fun x=>x.1.2.1) k=d'[k]!.1.2.1:=fun k hk=>by
       rw[fu (by simp[hsz];exact hk)]
       simp only[List.getElem_map]
       rw[getElem!_pos d' k (by rw[hsz];exact hk)];simp
      have:=G6 (hG _ (hbase h).fr) (hbox h) hd (by simp[hsz];exact hmax) i j (by simp[hsz];exact hi) (by simp[hsz];exact hj)
      rw[hrn i hi,hrn j hj] at this
      exact this)
    (fun W X Y i j hi hj hij hX hY oX oY cX cY fz=>by
      have h2:2<=xs.length:=by omega
      rw[hsf2 h2,if_neg (by rw[swK,if_neg (show ¬xs.length=0 by omega),if_neg (show ¬xs.length=1 by omega)];decide)]
      have hz:iAl.size=4:=by kernel_rfl
      rw[run_callFunc_extern Tryz.func288 (by kernel_rfl) (by kernel_rfl) (by kernel_rfl) (e:=Extern.ReflectliteSwapper.swap false) (by kernel_rfl)]
      have:=run_swap_cells (P:=Tryz.prog) false 135 iAl (by kernel_rfl) (fun _=>by kernel_rfl) b 0 xs.length cap i j hi hj X Y (by rw[hX,hz];rfl) (by rw[hY,hz];rfl) oX oY W
       (by rw[hz,zero_add];exact cX) (by rw[hz,zero_add];exact cY) (fun _ _=>fz _) (fun _ _=>fz _)
      rw[hz,zero_add,zero_add] at this
      rw[show(#[Value.int .i64 (i:Int),Value.int .i64 (j:Int)]++ #[Value.slice (some ⟨b,0,none⟩) xs.length cap,typeHandle Tryz.prog 135])= #[.int .i64 i,.int .i64 j,.slice (some ⟨b,0,none⟩) xs.length cap,typeHandle Tryz.prog 135] from rfl,this]
      rfl)
   have hs:=jj 40 135 iSl iAl (by kernel_rfl) (by kernel_rfl) (by kernel_rfl) (by kernel_rfl) 25 (fun _=>by kernel_rfl) (some ⟨b,0,none⟩) xs.length cap (by simp[al] at hmax;omega) sf hsf S d _ hR0
   refine(Aw (some ⟨b,0,none⟩) xs.length cap w _ (hs.mono fun e w' ⟨he,hf⟩=>⟨he,hbox hf,hf⟩)).mono fun e w' ⟨he,hf⟩=>⟨he,da (dA _ _ _) hf.fr,i0 _ _,?_⟩
   have hds:xs.length=d.size:=hR.size.symm
   have hp:(bR ltE xs.length d).toList.Perm d.toList:=by rw[hds];exact tr EO hord
   have he:(bR ltE xs.length d).toList.map (fun x=>x.1.2.1)=stS ltA xs:=by
    have h1:=uK EO hord
    have h2:=congrArg (List.map fun x=>x.2.1) h1
    rw[zB (fun x:List Value×List D×List Nat=>x.2.1) ltA,map_map,map_map] at h2
    rw[hds]
    exact h2.trans (congrArg (stS ltA) hxs)
   rw[<-he]
   exact B5 hR hF2 hF hlt hnc hmax hcm (hbase hf) hp hMb M fun _ _ h=>h
theorem Mq:cW Tryz.prog Φ Lq:=⟨fun _=>IS,fun l e=>(by cases e),_,Tryz.func219,by decide,by decide⟩
open Go Go.Proofs Go.Shelf Go.RowKit Go.Lib Go.Sort Go.Vx
theorem tw{w0:World}{b cap n k:Nat}{e:TypeId}{Q Q':El->Prop}(hQ:∀x,Q x->Q' x) {w:World} {d:Array El} (h:Go.Vx.RowsIn w0 b cap n k e Q w d):Go.Vx.RowsIn w0 b cap n k e Q' w d:=
 ⟨h.fr,h.size,fun i hi=>hQ _ (h.all i hi),h.mem⟩
theorem kt:∀{w:World}{M:Nat->Nat->Prop}{ks:List K}{vs:List Value}{r:List D},aP w M ks vs r->∀v,v∈vs->v.oneCell'=true
 |_,_,[],_,_,h,v,hv=>by rw[show _=_ from h] at hv;cases hv
 |_,_,k::ks,_,_,⟨u,us,rfl,hc,hr⟩,v,hv=>by
  rcases mem_cons.1 hv with rfl|hv
  · exact hc.jU
  · exact kt hr v hv
set_option maxHeartbeats 1000000 in
theorem NZ(T e:TypeId)(i ie:TypeInfo)(hi:Tryz.prog.info? T=some i)(hd:i.desc= .slice e)(hpk:Tryz.prog.packed T=false)(hie:Tryz.prog.info? e=some ie)(ke:Nat)(hke:∀w,(Extern.Rtype.kind e).run Tryz.prog w= .ok ke w)
 (K9:Nat) (hK9:∀n,swapperK n ie ke=if n=0 then 1 else if n=1 then 2 else K9) (h3:3<=K9) (sf:Nat) (hsf:Tryz.prog.funcs.findIdx? (·.name== "internal/reflectlite" ++ ".Swapper$" ++toString K9)=some sf)
 {w:World} {M:Nat->Nat->Prop} {dp:Bool} {ks:List K} {v:Value} {xs:List (List D)} {F:List Nat} (hO:bU w M e ks dp v xs F) (hF:F.Nodup) (hlt:∀b,b∈F->b<w.heap.size) (hM:∀b,v.ownBlock=some b->∀o,M b o)
 (b0:Nat) (hb0:b0<w.heap.size) {Qr:List D->Prop} (hQ:∀r,r∈xs->Qr r) {lt:List D->List D->Bool} (hL:SWO lt) {g:Nat} {lb:Array Value} (eg:∀args w,(callFunc g args).run Tryz.prog w= .ok (.enter g args) w)
 (hless:∀(w':World)(rows:List (List D)),Fr w v.ownBlock.toList w'->bV w' (fun _ _=>False) (.sl e ks) v (.sl rows)->rows.length<=al->(∀r,r∈rows->Qr r)->∀i j:Nat,i<rows.length->j<rows.length->
   Calls Tryz.prog g (#[.int .i64 i,.int .i64 j]++lb) w' fun e w''=>e= .returned (.bool (lt (ag rows i) (ag rows j)))∧Below w'.heap.size w' w'')
 (hswap:∀(b n c:Nat)(W:World)(X Y:List Value)(i j:Nat),i<n->j<n->X.length=ks.length->Y.length=ks.length->(∀v,v∈X->v.oneCell'=true)->(∀v,v∈Y->v.oneCell'=true)->
   (∀u v,X[u]? =some v->W.cell? ⟨b,i*ks.length+u,none⟩=some v)->(∀u v,Y[u]? =some v->W.cell? ⟨b,j*ks.length+u,none⟩=some v)->(∀p,W.frozen? ⟨b,p,none⟩=false)->
   (callFunc sf #[.int .i64 i,.int .i64 j,.slice (some ⟨b,0,none⟩) n c,typeHandle Tryz.prog e]).run Tryz.prog W= .ok (.value (.tuple #[])) ((W.setCells b (i*ks.length) Y).setCells b (j*ks.length) X)):
 Calls Tryz.prog 142 #[.iface T v,.func (.func g) #[] lb] w fun e' w'=>e'= .returned (.tuple #[])∧Fr w v.ownBlock.toList w'∧∃F',bU w' M e ks dp v (stS lt xs) F'∧F'.Perm F:=by
 have hO0:=hO
 obtain⟨vss,fps,hown,hmax,hv1,hv2,hFe,hrow⟩:=hO0
 have hB:SWO fun x y:List Value×List D×List Nat=>lt x.2.1 y.2.1:=y4 (fun x:List Value×List D×List Nat=>x.2.1) hL
 rcases hown.2 with ⟨e1,e2⟩|⟨b,cap,cur,e1,_,hh,hnc,hcm,hcs,htk⟩
 · subst e1
   have hx:xs=[]:=length_eq_zero_iff.1 e2
   subst hx
   have S:Srt Tryz.prog (fun(w':World) (d:Array El)=>d.size=0∧Fr w [] w') b0 0 (fun x y=>lt x.1.2.1 y.1.2.1) g lb 280 #[]:=
    { eg:=eg
      small:=by omega
      inw:=fun h=>lt_of_lt_of_le hb0 h.2.size
      size:=fun h=>h.1
      alloc:=fun o h=>⟨h.1,da h.2 (dA _ _ _)⟩
      drew:=fun q h=>⟨h.1,da h.2 (jn _ _ _)⟩
      less:=fun h i j hi hj=>absurd hi (by omega)
      swap:=fun h i j hi hj hij=>absurd hi (by omega) }
   have hs:=jj T e i ie hi hd hpk hie ke hke none 0 0 (by omega) 280 (by rw[hK9];kernel_rfl) (by rw[hK9];exact S) #[] w (show(#[]:Array El).size=0∧Fr w [] w from⟨rfl,gQ _ _⟩)
   refine hs.mono fun e' w' ⟨he,_,hf⟩=>⟨he,hf,F,?_,Perm.refl _⟩
   have hf0:fps=[]:=length_eq_zero_iff.1 (by simpa using hv2)
   subst hf0
   rw[show stS lt ([]:List (List D))=[] from rfl]
   exact⟨[],[],⟨by simp,.inl ⟨rfl,rfl⟩⟩,Nat.zero_le _,rfl,rfl,hFe,fun i row vs f h=>by cases h⟩
 · subst e1
   obtain⟨-,-,-,d,hR,hxs,hF2,hord⟩:=BD hO hF
   have hMb:∀o,M b o:=hM b rfl
   have hR1:Go.Vx.RowsIn w b cap xs.length ks.length e (fun x=>tU w M ks dp b x∧Qr x.1.2.1) w d:=⟨hR.fr,hR.size,fun i hi=>⟨hR.all i hi,hQ _ (by
    rw[<-hxs]
    have hi':i<d.size:=by rw[hR.size];exact hi
    refine mem_map.2 ⟨d[i]!,?_,rfl⟩
    rw[getElem!_pos d i hi'];simp)⟩,hR.mem⟩
   obtain⟨sf1,hsf1,hsf2⟩:∃sf1,Tryz.prog.funcs.findIdx? (·.name== "internal/reflectlite" ++ ".Swapper$" ++toString (swapperK xs.length ie ke))=some sf1∧(2<=xs.length->sf1=sf):=by
    rw[hK9]
    split
    · exact⟨280,by kernel_rfl,fun h=>by omega⟩
    · split
      · exact⟨281,by kernel_rfl,fun h=>by omega⟩
      · exact⟨sf,hsf,fun _=>rfl⟩
   have S:=Av (P:=Tryz.prog) (w0:=w) (b:=b) (cap:=cap) (n:=xs.length) (k:=ks.length) (e:=e) (Q:=fun x=>tU w M ks dp b x∧Qr x.1.2.1) hnc
    (by simp[al] at hmax;omega) (lt:=fun x y=>lt x.1.2.1 y.1.2.1) (g:=g) (lb:=lb) (sf:=sf1) (sb:=if swapperK xs.length ie ke<=2 then #[] else #[.slice (some ⟨b,0,none⟩) xs.length cap,typeHandle Tryz.prog e]) eg
    (fun x hx v hv=>by
      rw[qX hx.1.1] at hv
      have:=hx.1.2
      split at this
      · exact kt (this.1.toC (M:=fun _ _=>False) fun _ _ _ h=>h) v hv
      · exact kt this.1 v hv)
    (fun{w' d'} h i j hi hj=>by
      have hd:=(tw (fun _ h=>h.1) h).dat hnc hmax hMb
      have hsz:d'.size=xs.length:=h.size
      have hrn:∀k,k<xs.length->ag (d'.toList.map fun x=>x.1.2.1) k=d'[k]!.1.2.1:=fun k hk=>by
       rw[fu (by simp[hsz];exact hk)]
       simp only[List.getElem_map]
       rw[getElem!_pos d' k (by rw[hsz];exact hk)];simp
      have:=hless w' _ h.fr hd (by simp[hsz];exact hmax) (fun r hr=>by
       obtain⟨x,hx,rfl⟩:=mem_map.1 hr
       obtain⟨k,hk,rfl⟩:=List.getElem_of_mem hx
       have hk':k<d'.size:=by simpa using hk
       have:=(h.all k (by rw[<-hsz];exact hk')).2
       rw[getElem!_pos d' k hk'] at this
       simpa using this) i j (by simp[hsz];exact hi) (by simp[hsz];exact hj)
      rw[hrn i hi,hrn j hj] at this
      exact this)
    (fun W X Y i j hi hj hij hX hY oX oY cX cY fz=>by
      have h2:2<=xs.length:=by omega
      rw[hsf2 h2,if_neg (by rw[hK9,if_neg (show ¬xs.length=0 by omega),if_neg (show ¬xs.length=1 by omega)];omega)]
      rw[show(#[Value.int .i64 (i:Int),Value.int .i64 (j:Int)]++ #[Value.slice (some ⟨b,0,none⟩) xs.length cap,typeHandle Tryz.prog e])= #[.int .i64 i,.int .i64 j,.slice (some ⟨b,0,none⟩) xs.length cap,typeHandle Tryz.prog e] from rfl]
      exact hswap b xs.length cap W X Y i j hi hj hX hY oX oY cX cY fz)
   have hs:=jj T e i ie hi hd hpk hie ke hke (some ⟨b,0,none⟩) xs.length cap (by simp[al] at hmax;omega) sf1 hsf1 S d w hR1
   refine hs.mono fun e' w' ⟨he,hf⟩=>⟨he,hf.fr,?_⟩
   have hds:xs.length=d.size:=hR.size.symm
   have hp:(bR (fun x y:El=>lt x.1.2.1 y.1.2.1) xs.length d).toList.Perm d.toList:=by rw[hds];exact tr hB hord
   have he:(bR (fun x y:El=>lt x.1.2.1 y.1.2.1) xs.length d).toList.map (fun x=>x.1.2.1)=stS lt xs:=by
    have h1:=uK hB hord
    have h2:=congrArg (List.map fun x=>x.2.1) h1
    rw[zB (fun x:List Value×List D×List Nat=>x.2.1) lt,map_map,map_map] at h2
    rw[hds]
    exact h2.trans (congrArg (stS lt) hxs)
   rw[<-he]
   exact B5 hR hF2 hF hlt hnc hmax hcm (tw (fun _ h=>h.1) hf) hp hMb M fun _ _ h=>h
open Go Go.Proofs Go.Shelf Go.RowKit Go.Lib Go.Sort Go.Vx
noncomputable def oo:Code:=match Tryz.f75.body with
 |some (.seq _ (.seq _ (.seq _ t)))=>t
 |_=>.skip
theorem JB(t0 t2 t4 t5 t6 t7 t8 t9 t10 t11 t12 t13 t14 t15 t16 t17 t18 t19 t20 t21 t22 t23 t24 t25:Value)(b1 b3:Nat)(p:Option Addr)(n c:Nat)(w:World)(R:World->Prop)(h3:w.cell? ⟨b3,0,none⟩=some (.slice p n c))
 (h:Calls Tryz.prog 142 #[.iface 100 (.slice p n c),.func (.func 143) #[] #[.pointer (some ⟨b1,0,none⟩),.pointer (some ⟨b3,0,none⟩)]] w
   fun e w'=>e= .returned (.tuple #[])∧w'.cell? ⟨b3,0,none⟩=some (.slice p n c)∧R w'):
 Code.wp Tryz.prog oo (bodyPost Tryz.prog Tryz.f75 fun e w'=>e= .returned (.slice p n c)∧R w') ⟨#[t0,.pointer (some ⟨b1,0,none⟩),t2,.pointer (some ⟨b3,0,none⟩),t4,t5,t6,t7,t8,t9,t10,t11,t12,t13,t14,t15,t16,t17,t18,t19,t20,t21,t22,t23,t24,t25],[]⟩ w:=by
 unfold oo Tryz.f75
 dsimp only
 go_wp2_with (go_at_call 142;refine h.mono ?_;rintro e w' ⟨rfl,hc,hR⟩)
 go_wp2
 go_ret
 exact⟨rfl,hR⟩
open Go Go.Proofs Go.Shelf Go.RowKit Go.Lib Go.Sort Go.Vx
theorem WJ{a:Array Value}(h:a.size=26):∃t0 t1 t2 t3 t4 t5 t6 t7 t8 t9 t10 t11 t12 t13 t14 t15 t16 t17 t18 t19 t20 t21 t22 t23 t24 t25:Value,a= #[t0,t1,t2,t3,t4,t5,t6,t7,t8,t9,t10,t11,t12,t13,t14,t15,t16,t17,t18,t19,t20,t21,t22,t23,t24,t25]:=by
 obtain⟨l⟩:=a
 rcases l with _|⟨t0,_|⟨t1,_|⟨t2,_|⟨t3,_|⟨t4,_|⟨t5,_|⟨t6,_|⟨t7,_|⟨t8,_|⟨t9,_|⟨t10,_|⟨t11,_|⟨t12,_|⟨t13,_|⟨t14,_|⟨t15,_|⟨t16,_|⟨t17,_|⟨t18,_|⟨t19,_|⟨t20,_|⟨t21,_|⟨t22,_|⟨t23,_|⟨t24,_|⟨t25,_|⟨x,l⟩⟩⟩⟩⟩⟩⟩⟩⟩⟩⟩⟩⟩⟩⟩⟩⟩⟩⟩⟩⟩⟩⟩⟩⟩⟩⟩
 all_goals first
  |(simp at h;done)
  |exact⟨_,_,_,_,_,_,_,_,_,_,_,_,_,_,_,_,_,_,_,_,_,_,_,_,_,_,rfl⟩
  |(simp at h;omega)
noncomputable def WD:Code:=match Tryz.f75.body with
 |some (.seq x (.seq _ (.seq _ _)))=>x
 |_=>.skip
noncomputable def Tr:Code:=match Tryz.f75.body with
 |some (.seq _ (.seq y (.seq _ _)))=>y
 |_=>.skip
noncomputable def WK:Code:=match Tryz.f75.body with
 |some (.seq _ (.seq _ (.seq z _)))=>z
 |_=>.skip
theorem Ip:Tryz.f75.body=some (.seq WD (.seq Tr (.seq WK oo))):=rfl
def OC:VC:=.loop 3 0 2 [(.int .i64,1),(.sl 3 [.int .i64],2)] [.int 0,.nl] (.ite (.op (.bin .lss .i64) [.var 1,.op .len [.var 0]]) (.req [.op .le [.int 0,.var 1],.op .lt [.var 1,.op .len [.var 0]]] (.ite (.op (.bin .neq .i64) [.op (.fld 13) [.op .row [.var 0,.var 1]],.int (-1)]) (.req [.op (.appfit 8) [.op .asl [.var 2],.op .asl [.op (.rows 1) [.var 1]]]] (.back 0 [.op (.bin .add .i64) [.var 1,.int 1],.op .lapp [.op .asl [.var 2],.op .asl [.op (.rows 1) [.var 1]]]])) (.back 0 [.op (.bin .add .i64) [.var 1,.int 1],.var 2]))) (.ret [.var 0,.var 2]))
theorem KA:run TT (sigs []) (gen [⟨3,[],[1000000],false⟩] [1,3]) (zj 1 3 45 (.sl 137 dg) 100 3 [.int .i64]) 2000 1 (Vx.start g75.args 26) [.code WD,.code Tr,.code WK]=some OC:=by kernel_rfl
theorem ZD{P:Program}{x y z t:Code}{Q:Exit->Act->World->Prop}{a:Act}{w:World}(h:x.wp P (Exit.then (y.wp P (Exit.then (z.wp P (Exit.then (t.wp P Q) Q)) (Exit.then (t.wp P Q) Q))) (Exit.then (z.wp P (Exit.then (t.wp P Q) Q)) (Exit.then (t.wp P Q) Q))) a w):
 (Code.seq x (.seq y (.seq z t))).wp P Q a w:=
 wp_seq (wp_mono h fun e a w hq=>by
  cases e with
  |normal=>exact wp_seq (wp_mono hq fun e a w hq=>by
    cases e with
    |normal=>exact wp_seq hq
    |_=>exact hq)
  |_=>exact hq)
open Go Go.Proofs Go.Shelf Go.RowKit Go.Lib Go.Sort Go.Vx
noncomputable def Vk:TypeInfo:=(Tryz.prog.info? 100).get (by kernel_rfl)
noncomputable def GH:TypeInfo:=(Tryz.prog.info? 3).get (by kernel_rfl)
theorem TB:GG Lw:=gd (vc:=v143) [] (by simp) Tryz.func143 (VI fun a b c d hw hp=>by
 simp[Lw,E3,yx] at hp
 obtain⟨⟨⟨h1,h2⟩,h3,h4⟩,h5⟩:=hp
 obtain⟨i,hi⟩:∃i:Nat,a.ZY=i:=⟨a.ZY.toNat,by omega⟩
 obtain⟨j,hj⟩:∃j:Nat,b.ZY=j:=⟨b.ZY.toNat,by omega⟩
 rw[hi] at h2
 rw[hj] at h4
 have q1:=h5 _ (iG (i:=i) (by omega))
 have q2:=h5 _ (iG (i:=j) (by omega))
 obtain⟨i',hi'⟩:∃i':Nat,(cell (ag (cell d.row 0).ae i) 0).ZY=i':=⟨_,(Int.toNat_of_nonneg q1.1).symm⟩
 obtain⟨j',hj'⟩:∃j':Nat,(cell (ag (cell d.row 0).ae j) 0).ZY=j':=⟨_,(Int.toNat_of_nonneg q2.1).symm⟩
 rw[hi'] at q1
 rw[hj'] at q2
 simp[v143,Lw,E3,yx,ltP,wn,hi,hj,af,hi',hj',ca]
 omega)
theorem swI(n:Nat):swapperK n GH 2=if n=0 then 1 else if n=1 then 2 else 5:=by
 have a:GH.hasPointers=false:=by kernel_rfl
 have b:GH.bytes=8:=by kernel_rfl
 simp[Lib.swapperK,a,b]
theorem KI(l:List (List D)):SWO (ltP l):=y4 (fun r:List D=>wn l (cell r 0).ZY) Fe
theorem IC{w:World}{v1 v3:Value}{l rows:List (List D)}{b1 b3:Nat}(h1:w.cell? ⟨b1,0,none⟩=some v1)(h3:w.cell? ⟨b3,0,none⟩=some v3)(hv1:bV w (fun _ _=>False) (.sl 137 dg) v1 (.sl l))(hv3:bV w (fun _ _=>False) (.sl 3 [.int .i64]) v3 (.sl rows))
 (hl:rows.length<=al) (hq:∀r,r∈rows->0<=(cell r 0).ZY∧(cell r 0).ZY<l.length) (i j:Nat) (hi:i<rows.length) (hj:j<rows.length) (hgl:glob Tryz.prog w):
 Calls Tryz.prog 143 #[.int .i64 i,.int .i64 j,.pointer (some ⟨b1,0,none⟩),.pointer (some ⟨b3,0,none⟩)] w fun e w'=>e= .returned (.bool (ltP l (ag rows i) (ag rows j)))∧Below w.heap.size w w':=by
 have hn:∀k:Nat,k<rows.length->inR .i64 k:=fun k hk=>by
  simp[al] at hl
  rw[EI];omega
 have hc:=(TB.r rfl) w (fun _ _=>False) [.int .i64 i,.int .i64 j,.pointer (some ⟨b1,0,none⟩),.pointer (some ⟨b3,0,none⟩)] [.int i,.int j,.sl [[.sl l]],.sl [[.sl rows]]] (fun _ _ h=>h.elim) hgl
  ⟨_,_,_,_,rfl,rfl,⟨rfl,hn i hi⟩,_,_,_,_,rfl,rfl,⟨rfl,hn j hj⟩,_,_,_,_,rfl,rfl,⟨b1,0,[v1],rfl,⟨h1,trivial⟩,fun _ _ h=>h,v1,[],rfl,hv1,rfl⟩,_,_,_,_,rfl,rfl,⟨b3,0,[v3],rfl,⟨h3,trivial⟩,fun _ _ h=>h,v3,[],rfl,hv3,rfl⟩,rfl,rfl⟩
  (by
    show(Φ 143 1000 _).ZZ=true
    simp[E3,yx]
    exact⟨by omega,hq⟩)
 refine hc.mono ?_
 rintro e w' ⟨us,Fs,rfl,hB,hR,-,-⟩
 obtain⟨u,us',rfl,hu,rfl,rfl⟩:=hR
 refine⟨?_,hB⟩
 have hu:u= .bool _:=hu
 rw[hu]
 simp[jt,Lw,E3,yx]
 rfl
theorem HM{w:World}{M M':Nat->Nat->Prop}{e:TypeId}{dp:Bool}{v:Value}{xs:List (List D)}{F:List Nat}(h:bU w M e [.int .i64] dp v xs F):bU w M' e [.int .i64] true v xs F:=by
 obtain⟨vss,fps,h1,h2,h3,h4,h5,h6⟩:=h
 refine⟨vss,fps,h1,h2,h3,h4,h5,fun i row vs f e1 e2 e3=> ?_⟩
 have:=h6 i row vs f e1 e2 e3
 cases dp with
 |true=>simpa using this
 |false=>
  simp only[Bool.false_eq_true,if_false] at this
  obtain⟨⟨v,vs',rfl,hc,hr⟩,rfl⟩:=this
  have hr:vs'=[]:=hr
  subst hr
  simp only[if_true]
  exact⟨v,[],[],[],rfl,rfl,⟨hc.1,hc.2,rfl⟩,rfl,rfl⟩
theorem iI(l:List (List D))(n:Nat):fH l (n+1)=fH l n++(if(!decide (wn l n= -1))=true then[[.int n]] else[]):=rfl
theorem nN(l:List (List D))(n:Nat):(fH l n).length<=n:=x7 _ _ n
theorem xt{l:List (List D)}{r:List D}(h:r∈fH l l.length):0<=(cell r 0).ZY∧(cell r 0).ZY<l.length:=by
 obtain⟨i,hi,_,rfl⟩:=rV h
 simp
 omega
theorem Kr{d:D}(hd:d.ae.length<=1048576):OC.wp Φ (fun l=>∃x y,l=[x,y]∧x=d∧y.ae=fH d.ae d.ae.length) [d] fun _ _=>False:=by
 refine kG (Φ:=Φ) (N:=d.ae.length) rfl (fun _ _=>by simp) (by omega) (fun i x=>x.ae=fH d.ae i) rfl (fun i x hi _ hx=> ?_) fun x _ hx p=>by
  show ∃x' y,_=[x',y]∧x'=d∧y.ae=_
  exact⟨d,x,by simp,rfl,hx⟩
 have hl:x.ae.length<=i:=by rw[hx];exact nN _ _
 simp[af,hi,al]
 refine⟨fun h=>⟨by omega,?_⟩,fun h=> ?_⟩
 · rw[iI,<-hx,if_pos (by rw[Bool.not_eq_true',decide_eq_false_iff_not];exact h)]
   simp[chunk]
 · rw[iI,<-hx,if_neg (by rw[Bool.not_eq_true',decide_eq_false_iff_not];exact fun hn=>hn h)]
   simp
theorem Ak{P:Program}{fn:Func}{R R':Ending->World->Prop}(h:∀e w,R e w->R' e w) {e:Exit} {a:Act} {w:World} (hq:bodyPost P fn R e a w):bodyPost P fn R' e a w:=by
 cases e with
 |normal=>obtain⟨h1,v,h2,h3⟩:=hq;exact⟨h1,v,h2,h _ _ h3⟩
 |ret=>obtain⟨h1,v,h2,h3⟩:=hq;exact⟨h1,v,h2,h _ _ h3⟩
 |panic chain=>exact⟨hq.1,h _ _ hq.2⟩
 |outgrown=>exact h _ _ hq
 |_=>exact hq
set_option maxHeartbeats 1000000 in
theorem HR:BS Tryz.prog 75 g75.args g75.ax dI:=by
 intro w M vs ds hM hgl hargs hpre
 obtain⟨h1,h2,h3⟩:=hargs.wf
 obtain⟨d,rfl⟩:∃d,ds=[d]:=by
  match ds,h2 with
  |[d],_=>exact⟨d,rfl⟩
 have hd:d.ae.length<=1048576:=by simpa[dI] using hpre
 let C:Cx:={ P:=Tryz.prog,T:=TT,tok:=tok,w0:=w,X:=[],M:=M,oL:=fun b o h=>⟨hM b o h,by simp⟩,n:=26,pin:=[],u5:=fun p hp=>by simp at hp,yO:=[],qR:=fun p hp=>by simp at hp,gl:=fun w' h=>hgl.fr h }
 refine calls_of_wp Tryz.func75 Ip ?_
 have R0:Rel C G0 ((Vx.start g75.args 26).den Φ [d]) { tmps:=vs.toArray++Array.replicate (26 - vs.toArray.size) undef,defers:=[] } w:=yz (C:=C) hargs (show 1<=26 by decide) rfl rfl
 let Rr:Ending->World->Prop:=fun e w'=>∃us Fs,e= .returned (jt g75.ax us)∧Below w.heap.size w w'∧ch w' (MeH M (bD (g75.ax.flatMap RSh.cells) us)) (g75.ax.flatMap RSh.cells) us (dG (fun c=>dI c [d]) 0 g75.ax) Fs∧
  Fs.flatten.Nodup∧∀b,b∈Fs.flatten->w.heap.size<=b∧b<w'.heap.size
 have hend:∀env g s a w' es,zj 1 3 45 (.sl 137 dg) 100 3 [.int .i64] s=some es->Rel C g (SSt.den Φ env s) a w'->(∃x y,es.map (E.den Φ env)=[x,y]∧x=d∧y.ae=fH d.ae d.ae.length)->
  Exit.then (oo.wp Tryz.prog (bodyPost Tryz.prog Tryz.f75 Rr)) (bodyPost Tryz.prog Tryz.f75 Rr) .normal a w'∧(false=true->Exit.then (oo.wp Tryz.prog (bodyPost Tryz.prog Tryz.f75 Rr)) (bodyPost Tryz.prog Tryz.f75 Rr) .ret a w'):=by
  intro env g s a w1 es hes R hpost
  refine⟨?_,fun h=>by cases h⟩
  obtain⟨x1,xs,b1,b3,v1,v3,dp,F,Mx,rfl,ha1,ha3,hb1,hb3,hv1,hO,hF,n13,n1,n3,hFlt,hl1,hl3,hMM,hMo⟩:=yN R hes
  obtain⟨x,y,hxy,rfl,hy⟩:=hpost
  simp only[List.map_cons,List.map_nil,List.cons.injEq,and_true] at hxy
  obtain⟨rfl,rfl⟩:=hxy
  have hsz:a.tmps.size=26:=R.size
  have hdf:=R.defers
  obtain⟨tmps,defers⟩:=a
  simp only at hdf hsz ha1 ha3
  subst hdf
  obtain⟨t0,t1,t2,t3,t4,t5,t6,t7,t8,t9,t10,t11,t12,t13,t14,t15,t16,t17,t18,t19,t20,t21,t22,t23,t24,t25,rfl⟩:=WJ hsz
  have ha1:t1= .pointer (some ⟨b1,0,none⟩):=ha1
  have ha3:t3= .pointer (some ⟨b3,0,none⟩):=ha3
  subst ha1 ha3
  have hc1:w1.cell? ⟨b1,0,none⟩=some v1:=by simp[World.cell?,hb1]
  have hc3:w1.cell? ⟨b3,0,none⟩=some v3:=by simp[World.cell?,hb3]
  have hX:∀b,C.w0.heap.size<=b∨b∈C.X->w.heap.size<=b:=fun b h=>h.resolve_right (by simp[C])
  have hb3lt:b3<w1.heap.size:=(Array.getElem?_eq_some_iff.1 hb3).1
  obtain⟨p,n,c,rfl⟩:∃p n c,v3= .slice p n c:=by
   obtain⟨_,_,ho,_⟩:=hO
   rcases ho.2 with ⟨e1,_⟩|⟨_,_,_,e1,_⟩
   · exact⟨_,_,_,e1⟩
   · exact⟨_,_,_,e1⟩
  have hheads:∀b,b∈(Value.slice p n c).ownBlock.toList->b∈F:=fun b hb=>by
   obtain⟨_,_,_,_,_,_,q,_⟩:=hO
   rw[q];exact List.mem_append.2 (.inl hb)
  have hfrw:∀{w2:World},Fr w1 (Value.slice p n c).ownBlock.toList w2->Fr w [] w2:=fun h2=>
   ⟨h2.os.trans R.fr.os,h2.tape.trans R.fr.tape,h2.output.trans R.fr.output,Nat.le_trans R.fr.size h2.size,fun k hk _=>by
    rw[h2.block k (lt_of_lt_of_le hk R.fr.size) fun hb=>by have:=hX k (hFlt k (hheads k hb)).1;omega]
    exact R.fr.block k hk (by simp[C])⟩
  have hcell:∀{w2:World}{b o:Nat}{v:Value},Fr w1 (Value.slice p n c).ownBlock.toList w2->b ∉ F->w1.cell? ⟨b,o,none⟩=some v->w2.cell? ⟨b,o,none⟩=some v:=fun h2 hb hc=>fS h2 (fun h=>hb (hheads _ h)) hc
  have hK:∀{w2:World},Fr w1 (Value.slice p n c).ownBlock.toList w2->Keeps w1 Mx w2 fun _ _=>False:=fun h2 b o v hcc hn=>⟨fS h2 (fun hb=>hn (hMo b (by simpa using hb) o)) hcc,fun h=>h⟩
  have hsort:Calls Tryz.prog 142 #[.iface 100 (.slice p n c),.func (.func 143) #[] #[.pointer (some ⟨b1,0,none⟩),.pointer (some ⟨b3,0,none⟩)]] w1 fun e w'=>e= .returned (.tuple #[])∧w'.cell? ⟨b3,0,none⟩=some (.slice p n c)∧Fr w1 (Value.slice p n c).ownBlock.toList w'∧∃F',bU w' Mx 3 [.int .i64] dp (.slice p n c) (j7 (x1.den Φ env).ae) F'∧F'.Perm F:=by
   have:=NZ 100 3 Vk GH (by kernel_rfl) (by kernel_rfl) (by kernel_rfl) (by kernel_rfl) 2 (fun _=>by kernel_rfl) 5 swI (by decide) 284 (by kernel_rfl) hO hF (fun b hb=>(hFlt b hb).2) hMo b3 hb3lt
    (Qr:=fun r=>0<=(cell r 0).ZY∧(cell r 0).ZY<(x1.den Φ env).ae.length) (fun r hr=>by rw[hy] at hr;exact xt hr) (lt:=ltP (x1.den Φ env).ae) (KI _) (g:=143) (lb:= #[.pointer (some ⟨b1,0,none⟩),.pointer (some ⟨b3,0,none⟩)]) (enters_of Tryz.func143 (by kernel_rfl) rfl)
    (fun w2 rows hf hr hl hq i j hi hj=>IC (l:=(x1.den Φ env).ae) (hcell hf n1 hc1) (hcell hf n3 hc3) (by
      have:=hv1.keeps (hK hf)
      exact this) hr hl hq i j hi hj (hgl.fr (hfrw hf)))
    (fun b n' c' W X Y i j hi hj hX' hY' oX oY cX cY fz=>by
      obtain⟨x,rfl⟩:∃x,X=[x]:=by
       match X,hX' with
       |[x],_=>exact⟨x,rfl⟩
      obtain⟨y,rfl⟩:∃y,Y=[y]:=by
       match Y,hY' with
       |[y],_=>exact⟨y,rfl⟩
      have hz:GH.size=1:=by kernel_rfl
      rw[run_callFunc_extern Tryz.func284 (by kernel_rfl) (by kernel_rfl) (by kernel_rfl) (e:=Extern.ReflectliteSwapper.swap true) (by kernel_rfl)]
      have q1:=cX 0 x rfl
      have q2:=cY 0 y rfl
      simp only[List.length_cons,List.length_nil,zero_add,Nat.mul_one,Nat.add_zero] at q1 q2⊢
      have:=run_swap_one (P:=Tryz.prog) true 3 GH (by kernel_rfl) hz (fun _=>by kernel_rfl) b 0 n' c' i j hi hj x y (oX x (by simp)) (oY y (by simp)) W (by rw[zero_add];exact q1) (by rw[zero_add];exact q2) (fz _) (fz _)
      rw[zero_add,zero_add] at this
      rw[this]
      rfl)
   refine this.mono fun e w' ⟨he,hf,F',hO',hp⟩=>⟨he,hcell hf n3 hc3,hf,F',?_,hp⟩
   rw[j7,<-hy]
   exact hO'
  refine wp_mono (JB t0 t2 t4 t5 t6 t7 t8 t9 t10 t11 t12 t13 t14 t15 t16 t17 t18 t19 t20 t21 t22 t23 t24 t25 b1 b3 p n c w1 (fun w2=>Fr w1 (Value.slice p n c).ownBlock.toList w2∧∃F',bU w2 Mx 3 [.int .i64] dp (.slice p n c) (j7 (x1.den Φ env).ae) F'∧F'.Perm F) hc3 hsort) fun e a' w' hq=> ?_
  refine Ak (fun e w' ⟨he,hf,F',hO',hp⟩=> ?_) hq
  have hfr:=hfrw hf
  refine⟨[.slice p n c],[F'],he,⟨hfr.os,hfr.tape,hfr.output,hfr.size,fun k hk=>hfr.block k hk (by simp)⟩,?_,by simpa using hp.nodup_iff.2 hF,fun b hb=> ?_⟩
  · have:(dI 0 [x1.den Φ env]).ae=j7 (x1.den Φ env).ae:=by simp[dI]
    refine⟨_,[],F',[],rfl,rfl,?_,rfl,rfl⟩
    show bU _ _ _ _ _ _ (dI 0 [x1.den Φ env]).ae _
    rw[this]
    exact HM hO'
  · have hb':=hFlt b (hp.mem_iff.1 (by simpa using hb))
    exact⟨hX b hb'.1,lt_of_lt_of_le hb'.2 hf.size⟩
 refine ZD ?_
 have:=uO (C:=C) (Φ:=Φ) (CT:=sigs []) (F:=Exit.then (oo.wp Tryz.prog (bodyPost Tryz.prog Tryz.f75 Rr)) (bodyPost Tryz.prog Tryz.f75 Rr)) false mixed (uc (l:=[]) (by simp)) (post:=fun l=>∃x y,l=[x,y]∧x=d∧y.ae=fH d.ae d.ae.length) hend 2000 1 _ _ OC KA [d] (fun _ _=>False) _ G0 _ w (.inr (by kernel_rfl)) rfl ⟨_,⟨_,⟨_,rfl,rfl⟩,rfl⟩,rfl⟩ R0 (Kr hd)
 exact this
theorem Wz:cW Tryz.prog Φ g75:=⟨fun _=>HR,fun l e=>(by cases e),_,Tryz.func75,by decide,by decide⟩
end Go.Proofs.YtlkidecpmfhheaaGreat

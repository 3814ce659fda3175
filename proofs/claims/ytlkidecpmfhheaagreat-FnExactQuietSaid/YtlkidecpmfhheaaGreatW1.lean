import Derived.Test.YtlkidecpmfhheaaGreatChecked
import Derived.Test.YtlkidecpmfhheaaGreatVxe
import Derived.Shelf.GgSortMore.Stable
import Derived.Shelf.GgSortFunc.SmallK
import Derived.WalkKit
set_option linter.all false
namespace Go.Proofs.YtlkidecpmfhheaaGreat
open Go Go.Proofs Go.Shelf Go.RowKit Go.Lib Go.Sort
open Go.Vx (Srt Bx fr_refl fr_trans fr_below fr_alloc' fr_drew fr_cell swpR rotF bsF upF dnF startF symF startF_range blkF mrgF stbF stableF)
variable {α : Type} [Inhabited α]
section
variable {I : World → Array α → Prop} {blk sz : Nat} {lt : α → α → Bool} {g : Nat} {lb : Array Value} {sf : Nat} {sb : Array Value}
set_option maxHeartbeats 1600000 in
set_option maxRecDepth 1000000 in
theorem swapRange_w (S : Srt Tryz.prog I blk sz lt g lb sf sb) (a b n : Nat) (az bz nz : Int) (haz : az = a) (hbz : bz = b) (hnz : nz = n) (d : Array α) (w : World) (hI : I w d) (hab : a ≠ b) (ha : a + n ≤ sz) (hb : b + n ≤ sz) :
   Calls Tryz.prog 338 #[.agg #[.func (.func g) #[] lb, .func (.func sf) #[] sb], .int .i64 az, .int .i64 bz, .int .i64 nz] w fun e w' => e = .returned (.tuple #[]) ∧ I w' (swpR d a b n) ∧ Vx.Fr w [blk] w' := by
 subst haz hbz hnz
 have hsm := S.small
 have hB := Bx.start S hI 232
 have hI1 := S.alloc (.cells #[.func (.func g) #[] lb, .func (.func sf) #[] sb] 232) hI
 go_enter Tryz.func338, Tryz.ntmps338
 go_wp2
 go_loopg [8] n (fun k s8 wr => ∃ (i : Nat), s8 = .int .i64 i ∧ i ≤ n ∧ n - i ≤ k ∧ I wr (swpR d a b i) ∧ Bx blk w.heap.size lb g sf sb w wr)
 case atStart => exact ⟨0, rfl, by omega, by omega, hI1, hB⟩
 case round =>
   obtain ⟨i, rfl, hi, hk, hIr, hBr⟩ := hrel
   by_cases hlt : i < n
   · obtain ⟨w2, hs, hI2, hF2, -⟩ := S.swap hIr (a + i) (b + i) (by omega) (by omega) (by omega)
     rw [show (((a + i : Nat) : Int)) = (a : Int) + (i : Int) by omega, show (((b + i : Nat) : Int)) = (b : Int) + (i : Int) by omega] at hs
     have c1 := hBr.c1
     go_wp2
     go_roundg (n - (i + 1))
     case measure => omega
     case rel => exact ⟨i + 1, by simp, by omega, Nat.le_refl _, hI2, hBr.on hF2⟩
   · have : i = n := by omega
     subst this
     go_wp2
     go_end0
     exact ⟨rfl, hIr, hBr.fr⟩
end
end Go.Proofs.YtlkidecpmfhheaaGreat

import Derived.Test.YtlkidecpmfhheaaGreatW1
set_option linter.all false
namespace Go.Proofs.YtlkidecpmfhheaaGreat
open Go Go.Proofs Go.Shelf Go.RowKit Go.Lib Go.Sort
open Go.Vx (Srt Bx fr_refl fr_trans fr_below fr_alloc' fr_drew fr_cell)
variable {α : Type} [Inhabited α]
section
variable {I : World → Array α → Prop} {blk sz : Nat} {lt : α → α → Bool} {g : Nat} {lb : Array Value} {sf : Nat} {sb : Array Value}
set_option maxHeartbeats 3200000 in
set_option maxRecDepth 1000000 in
theorem insertionSort_w (S : Srt Tryz.prog I blk sz lt g lb sf sb) (a b : Nat) (az bz : Int) (haz : az = a) (hbz : bz = b) (d : Array α) (w : World) (hI : I w d) (hab : a ≤ b) (hb : b ≤ sz) :
   Calls Tryz.prog 289 #[.agg #[.func (.func g) #[] lb, .func (.func sf) #[] sb], .int .i64 az, .int .i64 bz] w fun e w' => e = .returned (.tuple #[]) ∧ I w' (Sort.insertionSort lt d a b) ∧ Vx.Fr w [blk] w' := by
 subst haz hbz
 have hsm := S.small
 have eg := S.eg
 have hB := Bx.start S hI 232
 have hI1 := S.alloc (.cells #[.func (.func g) #[] lb, .func (.func sf) #[] sb] 232) hI
 go_enter Tryz.func289, Tryz.ntmps289
 go_wp2
 go_loopg [6] (b + 1) (fun kk vi wr => ∃ (i : Nat) (dk : Array α), vi = .int .i64 i ∧ a < i ∧ i ≤ b + 1 ∧ b + 1 - i ≤ kk ∧ I wr dk ∧ Bx blk w.heap.size lb g sf sb w wr ∧ insOuter lt a b i dk = insOuter lt a b (a + 1) d)
 case atStart => exact ⟨a + 1, d, by go_num, by omega, by omega, by omega, hI1, hB, rfl⟩
 case round =>
   obtain ⟨i, dk, rfl, hai, hib, hkk, hIr, hBr, hO⟩ := hrel
   by_cases hlt : i < b
   · go_wp2
     go_loopg [7] (b + 1) (fun kk vj wr2 => ∃ (j : Nat) (dj : Array α), vj = .int .i64 j ∧ a ≤ j ∧ j ≤ i ∧ j ≤ kk ∧ I wr2 dj ∧ Bx blk w.heap.size lb g sf sb w wr2 ∧ insInner lt a j dj = insInner lt a i dk)
     case atStart => exact ⟨i, dk, rfl, by omega, Nat.le_refl _, by omega, hIr, hBr, rfl⟩
     case round =>
       obtain ⟨j, dj, rfl, haj, hji, hjk, hI2, hB2, hN⟩ := hrel
       have c0 := hB2.c0
       have c1 := hB2.c1
       have out : (j ≤ a ∨ lt dj[j]! dj[j - 1]! = false) → ∀ w', I w' dj → Bx blk w.heap.size lb g sf sb w w' → ∃ (i' : Nat) (dk' : Array α), Value.int .i64 ((i : Int) + 1) = .int .i64 i' ∧ a < i' ∧ i' ≤ b + 1 ∧ b + 1 - i' ≤ b + 1 - (i + 1) ∧ I w' dk' ∧ Bx blk w.heap.size lb g sf sb w w' ∧ insOuter lt a b i' dk' = insOuter lt a b (a + 1) d := fun hs w' h1 h2 =>
         ⟨i + 1, dj, by go_num, by omega, by omega, Nat.le_refl _, h1, h2, by rw [← hO, insOuter_go _ _ _ _ _ hlt, ← hN, insInner_stop _ _ _ _ hs]⟩
       by_cases hja : a < j
       · have hl := S.less hI2 j (j - 1) (by omega) (by omega)
         rw [show (((j - 1 : Nat) : Int)) = (j : Int) - 1 by omega] at hl
         cases hlv : lt dj[j]! dj[j - 1]! with
         | true =>
           rw [hlv] at hl
           go_wp2_with (go_at_fn g; refine hl.mono ?_; rintro e w' ⟨rfl, hI3, hF3⟩; obtain ⟨w2, hs, hI4, hF4, -⟩ := S.swap hI3 j (j - 1) (by omega) (by omega) (by omega); rw [show (((j - 1 : Nat) : Int)) = (j : Int) - 1 by omega] at hs; have hB3 := hB2.on (fr_below hF3); have c1 := hB3.c1)
           go_roundg (j - 1)
           case measure => omega
           case rel => exact ⟨j - 1, swp dj j (j - 1), by congr 1; omega, by omega, by omega, Nat.le_refl _, hI4, hB3.on hF4, by rw [← hN, insInner_go lt a j dj hja hlv]⟩
         | false =>
           rw [hlv] at hl
           go_wp2_with (go_at_fn g; refine hl.mono ?_; rintro e w' ⟨rfl, hI3, hF3⟩)
           go_roundg (b + 1 - (i + 1))
           case measure => omega
           case rel => exact out (Or.inr hlv) _ hI3 (hB2.on (fr_below hF3))
       · go_wp2
         go_roundg (b + 1 - (i + 1))
         case measure => omega
         case rel => exact out (Or.inl (by omega)) _ hI2 hB2
   · go_wp2
     go_end0
     exact ⟨rfl, by unfold Sort.insertionSort; rw [← hO, insOuter_stop _ _ _ _ _ hlt]; exact hIr, hBr.fr⟩
end
end Go.Proofs.YtlkidecpmfhheaaGreat

import Derived.Test.YtlkidecpmfhheaaGreatW5
import Derived.Test.YtlkidecpmfhheaaGreatW6
set_option linter.all false
namespace Go.Proofs.YtlkidecpmfhheaaGreat
open Go Go.Proofs Go.Shelf Go.RowKit Go.Lib Go.Sort
open Go.Vx (Srt Bx fr_refl fr_trans fr_below fr_alloc' fr_drew fr_cell swpR rotF bsF upF dnF startF symF startF_range blkF mrgF stbF stableF)
variable {α : Type} [Inhabited α]
section
variable {I : World → Array α → Prop} {blk sz : Nat} {lt : α → α → Bool} {g : Nat} {lb : Array Value} {sf : Nat} {sb : Array Value}
set_option maxHeartbeats 3200000 in
set_option maxRecDepth 1000000 in
theorem stable_w (S : Srt Tryz.prog I blk sz lt g lb sf sb) (hlim : sz ≤ 140737488355328) (d : Array α) (w : World) (hI : I w d) :
   Calls Tryz.prog 212 #[.agg #[.func (.func g) #[] lb, .func (.func sf) #[] sb], .int .i64 sz] w fun e w' => e = .returned (.tuple #[]) ∧ I w' (stableF lt sz d) ∧ Vx.Fr w [blk] w' := by
 have hsm := S.small
 have eg := S.eg
 have hB := Bx.start S hI 232
 have hI1 := S.alloc (.cells #[.func (.func g) #[] lb, .func (.func sf) #[] sb] 232) hI
 go_enter Tryz.func212, Tryz.ntmps212
 go_wp2
 go_loopg [5, 6] sz (fun kk va vb wr => ∃ (a f : Nat) (dk : Array α), va = .int .i64 a ∧ vb = .int .i64 ((a : Int) + 20) ∧ a ≤ sz ∧ sz - a ≤ kk ∧ sz - a < f ∧ I wr dk ∧ Bx blk w.heap.size lb g sf sb w wr ∧ blkF lt sz f a dk = blkF lt sz (sz + 1) 0 d)
 case atStart => exact ⟨0, sz + 1, d, by go_num, by go_num, by omega, by omega, by omega, hI1, hB, rfl⟩
 case round =>
   obtain ⟨a, f, dk, rfl, rfl, has, hkk, hf, hIr, hBr, heq⟩ := hrel
   obtain ⟨f, rfl⟩ : ∃ k, f = k + 1 := ⟨f - 1, by omega⟩
   have c0 := hBr.c0
   have c1 := hBr.c1
   rw [blkF] at heq
   by_cases hlt : a + 20 ≤ sz
   · rw [if_pos hlt] at heq
     go_wp2_with (go_at_call 289; refine (insertionSort_w S a (a + 20) _ _ (by omega) (by omega) dk _ hIr (by omega) hlt).mono ?_; rintro e w' ⟨rfl, hI2, hF2⟩)
     go_roundg (sz - (a + 20))
     case measure => omega
     case rel => exact ⟨a + 20, f, _, by go_num, by go_num, hlt, Nat.le_refl _, by omega, hI2, hBr.on hF2, heq⟩
   · rw [if_neg hlt] at heq
     go_wp2_with (go_at_call 289; refine (insertionSort_w S a sz _ _ (by omega) (by omega) dk _ hIr (by omega) (Nat.le_refl _)).mono ?_; rintro e w' ⟨rfl, hI2, hF2⟩)
     have hB2 := hBr.on hF2
     clear hIr hF2 hBr c0 c1
     go_loopg [4] sz (fun kk vb wr => ∃ (bs f : Nat) (dk : Array α), vb = .int .i64 bs ∧ 1 ≤ bs ∧ bs ≤ 2 * sz + 20 ∧ sz - bs ≤ kk ∧ sz - bs < f ∧ I wr dk ∧ Bx blk w.heap.size lb g sf sb w wr ∧ stbF lt sz f bs dk = stableF lt sz d)
     case atStart => exact ⟨20, sz + 1, _, by go_num, by omega, by omega, by omega, by omega, hI2, hB2, by rw [heq]; rfl⟩
     case round =>
       obtain ⟨bs, f2, d2, rfl, hb1, hb2, hkk2, hf2, hI3, hB3, heq2⟩ := hrel
       obtain ⟨f2, rfl⟩ : ∃ k, f2 = k + 1 := ⟨f2 - 1, by omega⟩
       rw [stbF] at heq2
       by_cases hbs : bs < sz
       · rw [if_pos hbs] at heq2
         go_wp2
         go_loopg [5, 6] sz (fun kk va vb wr => ∃ (a f : Nat) (dk : Array α), va = .int .i64 a ∧ vb = .int .i64 ((a : Int) + 2 * (bs : Int)) ∧ a ≤ sz ∧ sz - a ≤ kk ∧ sz - a < f ∧ I wr dk ∧ Bx blk w.heap.size lb g sf sb w wr ∧ mrgF lt sz bs f a dk = mrgF lt sz bs (sz + 1) 0 d2)
         case atStart => exact ⟨0, sz + 1, d2, by go_num, by go_num, by omega, by omega, by omega, hI3, hB3, rfl⟩
         case round =>
           obtain ⟨a3, f3, d3, rfl, rfl, has3, hkk3, hf3, hI4, hB4, heq3⟩ := hrel
           obtain ⟨f3, rfl⟩ : ∃ k, f3 = k + 1 := ⟨f3 - 1, by omega⟩
           have c0 := hB4.c0
           have c1 := hB4.c1
           rw [mrgF] at heq3
           by_cases hle : a3 + 2 * bs ≤ sz
           · rw [if_pos hle] at heq3
             go_wp2_with (go_at_call 290; refine (symMerge_w S (2 * bs) a3 (a3 + bs) (a3 + 2 * bs) _ _ _ d3 _ (by omega) (by omega) (by omega) (by omega) hI4 (by omega) (by omega) hle).mono ?_; rintro e w' ⟨rfl, hI5, hF5⟩)
             go_roundg (sz - (a3 + 2 * bs))
             case measure => omega
             case rel => exact ⟨a3 + 2 * bs, f3, _, by go_num, by go_num, hle, Nat.le_refl _, by omega, hI5, hB4.on hF5, heq3⟩
           · rw [if_neg hle] at heq3
             by_cases hm : a3 + bs < sz
             · rw [if_pos hm] at heq3
               go_wp2_with (go_at_call 290; refine (symMerge_w S (sz - a3) a3 (a3 + bs) sz _ _ _ d3 _ (by omega) (by omega) (by omega) (by omega) hI4 (by omega) hm (Nat.le_refl _)).mono ?_; rintro e w' ⟨rfl, hI5, hF5⟩)
               go_roundg (sz - 2 * bs)
               case measure => omega
               case rel => exact ⟨2 * bs, f2, _, by go_num, by omega, by omega, Nat.le_refl _, by omega, hI5, hB4.on hF5, by rw [← heq3] at heq2; exact heq2⟩
             · rw [if_neg hm] at heq3
               go_wp2
               go_roundg (sz - 2 * bs)
               case measure => omega
               case rel => exact ⟨2 * bs, f2, _, by go_num, by omega, by omega, Nat.le_refl _, by omega, hI4, hB4, by rw [← heq3] at heq2; exact heq2⟩
       · rw [if_neg hbs] at heq2
         go_wp2
         go_end0
         exact ⟨rfl, by rw [← heq2]; exact hI3, hB3.fr⟩
end
end Go.Proofs.YtlkidecpmfhheaaGreat

import Derived.Test.YtlkidecpmfhheaaGreatW2
set_option linter.all false
namespace Go.Proofs.YtlkidecpmfhheaaGreat
open Go Go.Proofs Go.Shelf Go.RowKit Go.Lib Go.Sort
open Go.Vx (Srt Bx fr_refl fr_trans fr_below fr_alloc' fr_drew fr_cell swpR rotF bsF upF dnF startF symF startF_range blkF mrgF stbF stableF)
variable {α : Type} [Inhabited α]
section
variable {I : World → Array α → Prop} {blk sz : Nat} {lt : α → α → Bool} {g : Nat} {lb : Array Value} {sf : Nat} {sb : Array Value}
set_option maxHeartbeats 3200000 in
set_option maxRecDepth 1000000 in
theorem symMerge_a (S : Srt Tryz.prog I blk sz lt g lb sf sb) (a b : Nat) (d : Array α) (w : World) (hI : I w d) (hab : a + 1 ≤ b) (hb : b ≤ sz) :
   Calls Tryz.prog 290 #[.agg #[.func (.func g) #[] lb, .func (.func sf) #[] sb], .int .i64 a, .int .i64 ((a : Int) + 1), .int .i64 b] w fun e w' => e = .returned (.tuple #[]) ∧
     I w' (upF d a (bsF (fun h => lt d[h]! d[a]!) (b - (a + 1)) (a + 1) b - 1 - a)) ∧ Vx.Fr w [blk] w' := by
 have hsm := S.small
 have eg := S.eg
 have hB := Bx.start S hI 232
 have hI1 := S.alloc (.cells #[.func (.func g) #[] lb, .func (.func sf) #[] sb] 232) hI
 go_enter Tryz.func290, Tryz.ntmps290
 go_wp2
 rw [show (((a : Int) + 1 - (a : Int)) == 1) = true by simp; omega]
 go_loopg [8, 9] b (fun kk vi vj wr => ∃ (i j f : Nat), vi = .int .i64 i ∧ vj = .int .i64 j ∧ a + 1 ≤ i ∧ i ≤ j ∧ j ≤ b ∧ j - i ≤ f ∧ j - i ≤ kk ∧ I wr d ∧ Bx blk w.heap.size lb g sf sb w wr ∧
   bsF (fun h => lt d[h]! d[a]!) f i j = bsF (fun h => lt d[h]! d[a]!) (b - (a + 1)) (a + 1) b)
 case atStart => exact ⟨a + 1, b, b - (a + 1), by congr 1, rfl, by omega, by omega, by omega, by omega, by omega, hI1, hB, rfl⟩
 case round =>
   obtain ⟨i, j, f, rfl, rfl, hai, hij, hjb, hf, hkk0, hIr, hBr, heq⟩ := hrel
   have c0 := hBr.c0
   have c1 := hBr.c1
   by_cases hlt : i < j
   · obtain ⟨f, rfl⟩ : ∃ k, f = k + 1 := ⟨f - 1, by omega⟩
     rw [bsF, if_pos hlt] at heq
     have hl := S.less hIr ((i + j) / 2) a (by omega) (by omega)
     rw [show ((((i + j) / 2 : Nat) : Int)) = ((i : Int) + (j : Int)) / 2 by omega] at hl
     cases hlv : lt d[(i + j) / 2]! d[a]! with
     | true =>
       rw [hlv] at hl heq
       rw [cond_true] at heq
       go_wp2_with (go_at_fn g; refine hl.mono ?_; rintro e w' ⟨rfl, hI2, hF2⟩)
       go_roundg (j - ((i + j) / 2 + 1))
       case measure => omega
       case rel => exact ⟨(i + j) / 2 + 1, j, f, by congr 1, rfl, by omega, by omega, by omega, by omega, by omega, hI2, hBr.on (fr_below hF2), heq⟩
     | false =>
       rw [hlv] at hl heq
       rw [cond_false] at heq
       go_wp2_with (go_at_fn g; refine hl.mono ?_; rintro e w' ⟨rfl, hI2, hF2⟩)
       go_roundg ((i + j) / 2 - i)
       case measure => omega
       case rel => exact ⟨i, (i + j) / 2, f, rfl, by congr 1, by omega, by omega, by omega, by omega, by omega, hI2, hBr.on (fr_below hF2), heq⟩
   · have he : i = bsF (fun h => lt d[h]! d[a]!) (b - (a + 1)) (a + 1) b := by
       rw [← heq]
       cases f with
       | zero => rfl
       | succ f => rw [bsF, if_neg hlt]
     clear heq eg
     go_wp2
     go_loopg [11] b (fun kk s11 wr2 => ∃ (k : Nat), s11 = .int .i64 k ∧ a ≤ k ∧ k ≤ i - 1 ∧ i - 1 - k ≤ kk ∧ I wr2 (upF d a (k - a)) ∧ Bx blk w.heap.size lb g sf sb w wr2)
     case atStart => exact ⟨a, rfl, Nat.le_refl _, by omega, by omega, by rw [Nat.sub_self]; exact hIr, hBr⟩
     case round =>
       obtain ⟨k, rfl, hak, hki, hkk, hI2, hB2⟩ := hrel
       by_cases hlt2 : k < i - 1
       · have c2 := hB2.c1
         obtain ⟨w2, hs, hI3, hF3, -⟩ := S.swap hI2 k (k + 1) (by omega) (by omega) (by omega)
         rw [show (((k + 1 : Nat) : Int)) = (k : Int) + 1 by omega] at hs
         clear c0 c1
         go_wp2
         go_roundg (i - 1 - (k + 1))
         case measure => omega
         case rel =>
           refine ⟨k + 1, by simp, by omega, by omega, Nat.le_refl _, ?_, hB2.on hF3⟩
           rw [show k + 1 - a = (k - a) + 1 by omega, upF, show a + (k - a) = k by omega]
           exact hI3
       · have hk : k = i - 1 := by omega
         subst hk
         go_wp2
         refine bodyPost_ret (results_none rfl _ _ _) rfl ⟨rfl, by rw [← he]; exact hI2, hB2.fr⟩
end
end Go.Proofs.YtlkidecpmfhheaaGreat

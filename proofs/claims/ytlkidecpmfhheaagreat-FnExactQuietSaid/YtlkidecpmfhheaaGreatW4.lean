import Derived.Test.YtlkidecpmfhheaaGreatW3
set_option linter.all false
namespace Go.Proofs.YtlkidecpmfhheaaGreat
open Go Go.Proofs Go.Shelf Go.RowKit Go.Lib Go.Sort
open Go.Vx (Srt Bx fr_refl fr_trans fr_below fr_alloc' fr_drew fr_cell swpR rotF bsF upF dnF startF symF startF_range blkF mrgF stbF stableF)
variable {α : Type} [Inhabited α]
section
variable {I : World → Array α → Prop} {blk sz : Nat} {lt : α → α → Bool} {g : Nat} {lb : Array Value} {sf : Nat} {sb : Array Value}
set_option maxHeartbeats 3200000 in
set_option maxRecDepth 1000000 in
theorem symMerge_b (S : Srt Tryz.prog I blk sz lt g lb sf sb) (a m : Nat) (d : Array α) (w : World) (hI : I w d) (ham : a + 1 < m) (hb : m + 1 ≤ sz) :
   Calls Tryz.prog 290 #[.agg #[.func (.func g) #[] lb, .func (.func sf) #[] sb], .int .i64 a, .int .i64 m, .int .i64 ((m : Int) + 1)] w fun e w' => e = .returned (.tuple #[]) ∧
     I w' (dnF d m (m - bsF (fun h => !lt d[m]! d[h]!) (m - a) a m)) ∧ Vx.Fr w [blk] w' := by
 have hsm := S.small
 have eg := S.eg
 have hB := Bx.start S hI 232
 have hI1 := S.alloc (.cells #[.func (.func g) #[] lb, .func (.func sf) #[] sb] 232) hI
 have hne : (((m : Int) - (a : Int)) == 1) = false := by simp; omega
 go_enter Tryz.func290, Tryz.ntmps290
 go_wp2
 try rw [show (((m : Int) + 1 - (m : Int)) == 1) = true by simp; omega]
 go_loopg [12, 13] sz (fun kk vi vj wr => ∃ (i j f : Nat), vi = .int .i64 i ∧ vj = .int .i64 j ∧ a ≤ i ∧ i ≤ j ∧ j ≤ m ∧ j - i ≤ f ∧ j - i ≤ kk ∧ I wr d ∧ Bx blk w.heap.size lb g sf sb w wr ∧
   bsF (fun h => !lt d[m]! d[h]!) f i j = bsF (fun h => !lt d[m]! d[h]!) (m - a) a m)
 case atStart => exact ⟨a, m, m - a, rfl, rfl, by omega, by omega, by omega, by omega, by omega, hI1, hB, rfl⟩
 case round =>
   obtain ⟨i, j, f, rfl, rfl, hai, hij, hjb, hf, hkk0, hIr, hBr, heq⟩ := hrel
   have c0 := hBr.c0
   have c1 := hBr.c1
   by_cases hlt : i < j
   · obtain ⟨f, rfl⟩ : ∃ k, f = k + 1 := ⟨f - 1, by omega⟩
     rw [bsF, if_pos hlt] at heq
     have hl := S.less hIr m ((i + j) / 2) (by omega) (by omega)
     rw [show ((((i + j) / 2 : Nat) : Int)) = ((i : Int) + (j : Int)) / 2 by omega] at hl
     cases hlv : lt d[m]! d[(i + j) / 2]! with
     | false =>
       rw [hlv] at hl heq
       rw [Bool.not_false, cond_true] at heq
       go_wp2_with (go_at_fn g; refine hl.mono ?_; rintro e w' ⟨rfl, hI2, hF2⟩)
       go_roundg (j - ((i + j) / 2 + 1))
       case measure => omega
       case rel => exact ⟨(i + j) / 2 + 1, j, f, by congr 1, rfl, by omega, by omega, by omega, by omega, by omega, hI2, hBr.on (fr_below hF2), heq⟩
     | true =>
       rw [hlv] at hl heq
       rw [Bool.not_true, cond_false] at heq
       go_wp2_with (go_at_fn g; refine hl.mono ?_; rintro e w' ⟨rfl, hI2, hF2⟩)
       go_roundg ((i + j) / 2 - i)
       case measure => omega
       case rel => exact ⟨i, (i + j) / 2, f, rfl, by congr 1, by omega, by omega, by omega, by omega, by omega, hI2, hBr.on (fr_below hF2), heq⟩
   · have he : i = bsF (fun h => !lt d[m]! d[h]!) (m - a) a m := by
       rw [← heq]
       cases f with
       | zero => rfl
       | succ f => rw [bsF, if_neg hlt]
     clear heq eg
     go_wp2
     go_loopg [15] sz (fun kk s11 wr2 => ∃ (k : Nat), s11 = .int .i64 k ∧ i ≤ k ∧ k ≤ m ∧ k - i ≤ kk ∧ I wr2 (dnF d m (m - k)) ∧ Bx blk w.heap.size lb g sf sb w wr2)
     case atStart => exact ⟨m, rfl, by omega, Nat.le_refl _, by omega, by rw [Nat.sub_self]; exact hIr, hBr⟩
     case round =>
       obtain ⟨k, rfl, hak, hki, hkk, hI2, hB2⟩ := hrel
       by_cases hlt2 : i < k
       · have c2 := hB2.c1
         obtain ⟨w2, hs, hI3, hF3, -⟩ := S.swap hI2 k (k - 1) (by omega) (by omega) (by omega)
         rw [show (((k - 1 : Nat) : Int)) = (k : Int) - 1 by omega] at hs
         clear c0 c1
         go_wp2
         go_roundg (k - 1 - i)
         case measure => omega
         case rel =>
           refine ⟨k - 1, by congr 1; omega, by omega, by omega, Nat.le_refl _, ?_, hB2.on hF3⟩
           rw [show m - (k - 1) = (m - k) + 1 by omega, dnF, show m - (m - k) = k by omega]
           exact hI3
       · have hk : k = i := by omega
         subst hk
         go_wp2
         refine bodyPost_ret (results_none rfl _ _ _) rfl ⟨rfl, by rw [← he]; exact hI2, hB2.fr⟩
end
end Go.Proofs.YtlkidecpmfhheaaGreat

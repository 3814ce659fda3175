import Derived.Test.YtlkidecpmfhheaaGreatW4
set_option linter.all false
namespace Go.Proofs.YtlkidecpmfhheaaGreat
open Go Go.Proofs Go.Shelf Go.RowKit Go.Lib Go.Sort
open Go.Vx (Srt Bx fr_refl fr_trans fr_below fr_alloc' fr_drew fr_cell swpR rotF bsF upF dnF startF symF startF_range blkF mrgF stbF stableF)
variable {α : Type} [Inhabited α]
section
variable {I : World → Array α → Prop} {blk sz : Nat} {lt : α → α → Bool} {g : Nat} {lb : Array Value} {sf : Nat} {sb : Array Value}
set_option maxHeartbeats 6400000 in
set_option maxRecDepth 1000000 in
theorem symMerge_w (S : Srt Tryz.prog I blk sz lt g lb sf sb) : ∀ (F a m b : Nat) (az mz bz : Int) (d : Array α) (w : World), az = a → mz = m → bz = b → b - a ≤ F → I w d → a < m → m < b → b ≤ sz →
   Calls Tryz.prog 290 #[.agg #[.func (.func g) #[] lb, .func (.func sf) #[] sb], .int .i64 az, .int .i64 mz, .int .i64 bz] w fun e w' => e = .returned (.tuple #[]) ∧ I w' (symF lt F a m b d) ∧ Vx.Fr w [blk] w' := by
 have hsm := S.small
 have eg := S.eg
 intro F
 induction F with
 | zero => intro a m b az mz bz d w h1 h2 h3 hF hI ham hmb hb; omega
 | succ F ih =>
   intro a m b az mz bz d w h1 h2 h3 hF hI ham hmb hb
   subst h1 h2 h3
   by_cases hA : m = a + 1
   · subst hA
     rw [show (((a + 1 : Nat) : Int)) = (a : Int) + 1 by omega]
     refine (symMerge_a S a b d w hI (by omega) hb).mono ?_
     rintro e w' ⟨rfl, h, hf⟩
     exact ⟨rfl, by rw [symF, if_pos rfl]; exact h, hf⟩
   · by_cases hB : b = m + 1
     · subst hB
       rw [show (((m + 1 : Nat) : Int)) = (m : Int) + 1 by omega]
       refine (symMerge_b S a m d w hI (by omega) hb).mono ?_
       rintro e w' ⟨rfl, h, hf⟩
       exact ⟨rfl, by rw [symF, if_neg hA, if_pos rfl]; exact h, hf⟩
     · have hne1 : (((m : Int) - (a : Int)) == 1) = false := by simp; omega
       have hne2 : (((b : Int) - (m : Int)) == 1) = false := by simp; omega
       have hBx := Bx.start S hI 232
       have hI1 := S.alloc (.cells #[.func (.func g) #[] lb, .func (.func sf) #[] sb] 232) hI
       go_enter Tryz.func290, Tryz.ntmps290
       by_cases hC : (a + b) / 2 < m
       · have hs0 : startF lt a m b d = bsF (fun c => !lt d[(a + b) / 2 + m - 1 - c]! d[c]!) ((a + b) / 2 - ((a + b) / 2 + m - b)) ((a + b) / 2 + m - b) ((a + b) / 2) := by unfold startF; rw [if_pos hC]
         go_wp2
         rw [show decide (((a : Int) + (b : Int)) / 2 < (m : Int)) = true by simp; omega]
         go_loopg [18, 19] b (fun kk vi vj wr => ∃ (i j f : Nat), vi = .int .i64 i ∧ vj = .int .i64 j ∧ a ≤ i ∧ ((a + b) / 2 + m - b) ≤ i ∧ i ≤ j ∧ j ≤ (a + b) / 2 ∧ j - i ≤ f ∧ j - i ≤ kk ∧ I wr d ∧ Bx blk w.heap.size lb g sf sb w wr ∧
           bsF (fun c => !lt d[(a + b) / 2 + m - 1 - c]! d[c]!) f i j = startF lt a m b d)
         case atStart => exact ⟨((a + b) / 2 + m - b), (a + b) / 2, ((a + b) / 2 - ((a + b) / 2 + m - b)), by first | rfl | (congr 1; omega), by first | rfl | (congr 1; omega), by omega, by omega, by omega, by omega, by omega, by omega, hI1, hBx, hs0.symm⟩
         case round =>
           obtain ⟨i, j, f, rfl, rfl, hai, hli, hij, hjb, hf, hkk0, hIr, hBr, heq⟩ := hrel
           have c0 := hBr.c0
           have c1 := hBr.c1
           by_cases hlt : i < j
           · obtain ⟨f, rfl⟩ : ∃ k, f = k + 1 := ⟨f - 1, by omega⟩
             rw [bsF, if_pos hlt] at heq
             have hl := S.less hIr ((a + b) / 2 + m - 1 - (i + j) / 2) ((i + j) / 2) (by omega) (by omega)
             rw [show ((((a + b) / 2 + m - 1 - (i + j) / 2 : Nat) : Int)) = ((a : Int) + (b : Int)) / 2 + (m : Int) - 1 - ((i : Int) + (j : Int)) / 2 by omega, show ((((i + j) / 2 : Nat) : Int)) = ((i : Int) + (j : Int)) / 2 by omega] at hl
             cases hlv : lt d[(a + b) / 2 + m - 1 - (i + j) / 2]! d[(i + j) / 2]! with
             | false =>
               rw [hlv] at hl heq
               rw [Bool.not_false, cond_true] at heq
               clear ih
               go_wp2_with (go_at_fn g; refine hl.mono ?_; rintro e w' ⟨rfl, hI2, hF2⟩)
               go_roundg (j - ((i + j) / 2 + 1))
               case measure => omega
               case rel => exact ⟨(i + j) / 2 + 1, j, f, by congr 1, rfl, by omega, by omega, by omega, by omega, by omega, by omega, hI2, hBr.on (fr_below hF2), heq⟩
             | true =>
               rw [hlv] at hl heq
               rw [Bool.not_true, cond_false] at heq
               clear ih
               go_wp2_with (go_at_fn g; refine hl.mono ?_; rintro e w' ⟨rfl, hI2, hF2⟩)
               go_roundg ((i + j) / 2 - i)
               case measure => omega
               case rel => exact ⟨i, (i + j) / 2, f, rfl, by congr 1, by omega, by omega, by omega, by omega, by omega, by omega, hI2, hBr.on (fr_below hF2), heq⟩
           · have he : i = startF lt a m b d := by
               rw [← heq]
               cases f with
               | zero => rfl
               | succ f => rw [bsF, if_neg hlt]
             have hr := startF_range lt a m b d ham hmb
             rw [← he] at hr
             clear heq hs0
             by_cases hR : i < m ∧ m < (a + b) / 2 + m - i
             · have q1 : decide ((i : Int) < (m : Int)) = true := by simp; omega
               have q2 : decide ((m : Int) < ((a : Int) + (b : Int)) / 2 + (m : Int) - (i : Int)) = true := by simp; omega
               by_cases hS : a < i ∧ i < (a + b) / 2
               · have q3 : decide ((a : Int) < (i : Int)) = true := by simp; omega
                 have q4 : decide ((i : Int) < ((a : Int) + (b : Int)) / 2) = true := by simp; omega
                 by_cases hT : (a + b) / 2 < (a + b) / 2 + m - i ∧ (a + b) / 2 + m - i < b
                 · have q5 : decide (((a : Int) + (b : Int)) / 2 < ((a : Int) + (b : Int)) / 2 + (m : Int) - (i : Int)) = true := by simp; omega
                   have q6 : decide (((a : Int) + (b : Int)) / 2 + (m : Int) - (i : Int) < (b : Int)) = true := by simp; omega
                   have Hsym : symF lt (F + 1) a m b d = (symF lt F ((a + b) / 2) ((a + b) / 2 + m - i) b (symF lt F a i ((a + b) / 2) (rotF m ((a + b) / 2 + m - i - i) (m - i) ((a + b) / 2 + m - i - m) d))) := by rw [symF, if_neg hA, if_neg hB]; dsimp only; rw [← he, if_pos hR, if_pos hS, if_pos hT]
                   clear he
                   go_wp2_with (go_at_call 324; refine (rotate_w S i m ((a + b) / 2 + m - i) _ _ _ (by omega) (by omega) (by omega) d _ hIr (by omega) (by omega) (by omega)).mono ?_; rintro e w1 ⟨rfl, hI2, hF2⟩; have hB1 := hBr.on hF2; have c0 := hB1.c0; have c1 := hB1.c1)
                   go_wp2_with (go_at_call 290; refine (ih a i ((a + b) / 2) _ _ _ (rotF m ((a + b) / 2 + m - i - i) (m - i) ((a + b) / 2 + m - i - m) d) _ (by omega) (by omega) (by omega) (by omega) hI2 (by omega) (by omega) (by omega)).mono ?_; rintro e w2 ⟨rfl, hI3, hF3⟩; have hB2 := hB1.on hF3; have c0 := hB2.c0; have c1 := hB2.c1)
                   go_wp2_with (go_at_call 290; refine (ih ((a + b) / 2) ((a + b) / 2 + m - i) b _ _ _ (symF lt F a i ((a + b) / 2) (rotF m ((a + b) / 2 + m - i - i) (m - i) ((a + b) / 2 + m - i - m) d)) _ (by omega) (by omega) (by omega) (by omega) hI3 (by omega) (by omega) (by omega)).mono ?_; rintro e w3 ⟨rfl, hI4, hF4⟩; have hB3 := hB2.on hF4; have c0 := hB3.c0; have c1 := hB3.c1)
                   all_goals go_wp2
                   all_goals first | (exact bodyPost_ret (results_none rfl _ _ _) rfl ⟨rfl, by first | exact hI4 | (rw [Hsym]; exact hI4), hB3.fr⟩) | (go_end0; exact ⟨rfl, by first | exact hI4 | (rw [Hsym]; exact hI4), hB3.fr⟩)
                 · have q5 : i = m ∨ b = (a + b) / 2 + m - i := by omega
                   have Hsym : symF lt (F + 1) a m b d = (symF lt F a i ((a + b) / 2) (rotF m ((a + b) / 2 + m - i - i) (m - i) ((a + b) / 2 + m - i - m) d)) := by rw [symF, if_neg hA, if_neg hB]; dsimp only; rw [← he, if_pos hR, if_pos hS, if_neg hT]
                   clear he
                   go_wp2_with (go_at_call 324; refine (rotate_w S i m ((a + b) / 2 + m - i) _ _ _ (by omega) (by omega) (by omega) d _ hIr (by omega) (by omega) (by omega)).mono ?_; rintro e w1 ⟨rfl, hI2, hF2⟩; have hB1 := hBr.on hF2; have c0 := hB1.c0; have c1 := hB1.c1)
                   go_wp2_with (go_at_call 290; refine (ih a i ((a + b) / 2) _ _ _ (rotF m ((a + b) / 2 + m - i - i) (m - i) ((a + b) / 2 + m - i - m) d) _ (by omega) (by omega) (by omega) (by omega) hI2 (by omega) (by omega) (by omega)).mono ?_; rintro e w2 ⟨rfl, hI3, hF3⟩; have hB2 := hB1.on hF3; have c0 := hB2.c0; have c1 := hB2.c1)
                   all_goals go_wp2
                   all_goals first | (exact bodyPost_ret (results_none rfl _ _ _) rfl ⟨rfl, by first | exact hI3 | (rw [Hsym]; exact hI3), hB2.fr⟩) | (go_end0; exact ⟨rfl, by first | exact hI3 | (rw [Hsym]; exact hI3), hB2.fr⟩)
               · have q3 : i = a ∨ i = (a + b) / 2 := by omega
                 by_cases hT : (a + b) / 2 < (a + b) / 2 + m - i ∧ (a + b) / 2 + m - i < b
                 · have q5 : decide (((a : Int) + (b : Int)) / 2 < ((a : Int) + (b : Int)) / 2 + (m : Int) - (i : Int)) = true := by simp; omega
                   have q6 : decide (((a : Int) + (b : Int)) / 2 + (m : Int) - (i : Int) < (b : Int)) = true := by simp; omega
                   have Hsym : symF lt (F + 1) a m b d = (symF lt F ((a + b) / 2) ((a + b) / 2 + m - i) b (rotF m ((a + b) / 2 + m - i - i) (m - i) ((a + b) / 2 + m - i - m) d)) := by rw [symF, if_neg hA, if_neg hB]; dsimp only; rw [← he, if_pos hR, if_neg hS, if_pos hT]
                   clear he
                   go_wp2_with (go_at_call 324; refine (rotate_w S i m ((a + b) / 2 + m - i) _ _ _ (by omega) (by omega) (by omega) d _ hIr (by omega) (by omega) (by omega)).mono ?_; rintro e w1 ⟨rfl, hI2, hF2⟩; have hB1 := hBr.on hF2; have c0 := hB1.c0; have c1 := hB1.c1)
                   go_wp2_with (go_at_call 290; refine (ih ((a + b) / 2) ((a + b) / 2 + m - i) b _ _ _ (rotF m ((a + b) / 2 + m - i - i) (m - i) ((a + b) / 2 + m - i - m) d) _ (by omega) (by omega) (by omega) (by omega) hI2 (by omega) (by omega) (by omega)).mono ?_; rintro e w2 ⟨rfl, hI3, hF3⟩; have hB2 := hB1.on hF3; have c0 := hB2.c0; have c1 := hB2.c1)
                   all_goals go_wp2
                   all_goals first | (exact bodyPost_ret (results_none rfl _ _ _) rfl ⟨rfl, by first | exact hI3 | (rw [Hsym]; exact hI3), hB2.fr⟩) | (go_end0; exact ⟨rfl, by first | exact hI3 | (rw [Hsym]; exact hI3), hB2.fr⟩)
                 · have q5 : i = m ∨ b = (a + b) / 2 + m - i := by omega
                   have Hsym : symF lt (F + 1) a m b d = (rotF m ((a + b) / 2 + m - i - i) (m - i) ((a + b) / 2 + m - i - m) d) := by rw [symF, if_neg hA, if_neg hB]; dsimp only; rw [← he, if_pos hR, if_neg hS, if_neg hT]
                   clear he
                   go_wp2_with (go_at_call 324; refine (rotate_w S i m ((a + b) / 2 + m - i) _ _ _ (by omega) (by omega) (by omega) d _ hIr (by omega) (by omega) (by omega)).mono ?_; rintro e w1 ⟨rfl, hI2, hF2⟩; have hB1 := hBr.on hF2; have c0 := hB1.c0; have c1 := hB1.c1)
                   all_goals go_wp2
                   all_goals first | (exact bodyPost_ret (results_none rfl _ _ _) rfl ⟨rfl, by first | exact hI2 | (rw [Hsym]; exact hI2), hB1.fr⟩) | (go_end0; exact ⟨rfl, by first | exact hI2 | (rw [Hsym]; exact hI2), hB1.fr⟩)
             · have q0 : i = m ∨ i = (a + b) / 2 := by omega
               by_cases hS : a < i ∧ i < (a + b) / 2
               · have q3 : decide ((a : Int) < (i : Int)) = true := by simp; omega
                 have q4 : decide ((i : Int) < ((a : Int) + (b : Int)) / 2) = true := by simp; omega
                 by_cases hT : (a + b) / 2 < (a + b) / 2 + m - i ∧ (a + b) / 2 + m - i < b
                 · have q5 : decide (((a : Int) + (b : Int)) / 2 < ((a : Int) + (b : Int)) / 2 + (m : Int) - (i : Int)) = true := by simp; omega
                   have q6 : decide (((a : Int) + (b : Int)) / 2 + (m : Int) - (i : Int) < (b : Int)) = true := by simp; omega
                   have Hsym : symF lt (F + 1) a m b d = (symF lt F ((a + b) / 2) ((a + b) / 2 + m - i) b (symF lt F a i ((a + b) / 2) d)) := by rw [symF, if_neg hA, if_neg hB]; dsimp only; rw [← he, if_neg hR, if_pos hS, if_pos hT]
                   clear he
                   go_wp2_with (go_at_call 290; refine (ih a i ((a + b) / 2) _ _ _ d _ (by omega) (by omega) (by omega) (by omega) hIr (by omega) (by omega) (by omega)).mono ?_; rintro e w1 ⟨rfl, hI2, hF2⟩; have hB1 := hBr.on hF2; have c0 := hB1.c0; have c1 := hB1.c1)
                   go_wp2_with (go_at_call 290; refine (ih ((a + b) / 2) ((a + b) / 2 + m - i) b _ _ _ (symF lt F a i ((a + b) / 2) d) _ (by omega) (by omega) (by omega) (by omega) hI2 (by omega) (by omega) (by omega)).mono ?_; rintro e w2 ⟨rfl, hI3, hF3⟩; have hB2 := hB1.on hF3; have c0 := hB2.c0; have c1 := hB2.c1)
                   all_goals go_wp2
                   all_goals first | (exact bodyPost_ret (results_none rfl _ _ _) rfl ⟨rfl, by first | exact hI3 | (rw [Hsym]; exact hI3), hB2.fr⟩) | (go_end0; exact ⟨rfl, by first | exact hI3 | (rw [Hsym]; exact hI3), hB2.fr⟩)
                 · have q5 : i = m ∨ b = (a + b) / 2 + m - i := by omega
                   have Hsym : symF lt (F + 1) a m b d = (symF lt F a i ((a + b) / 2) d) := by rw [symF, if_neg hA, if_neg hB]; dsimp only; rw [← he, if_neg hR, if_pos hS, if_neg hT]
                   clear he
                   go_wp2_with (go_at_call 290; refine (ih a i ((a + b) / 2) _ _ _ d _ (by omega) (by omega) (by omega) (by omega) hIr (by omega) (by omega) (by omega)).mono ?_; rintro e w1 ⟨rfl, hI2, hF2⟩; have hB1 := hBr.on hF2; have c0 := hB1.c0; have c1 := hB1.c1)
                   all_goals go_wp2
                   all_goals first | (exact bodyPost_ret (results_none rfl _ _ _) rfl ⟨rfl, by first | exact hI2 | (rw [Hsym]; exact hI2), hB1.fr⟩) | (go_end0; exact ⟨rfl, by first | exact hI2 | (rw [Hsym]; exact hI2), hB1.fr⟩)
               · have q3 : i = a ∨ i = (a + b) / 2 := by omega
                 by_cases hT : (a + b) / 2 < (a + b) / 2 + m - i ∧ (a + b) / 2 + m - i < b
                 · have q5 : decide (((a : Int) + (b : Int)) / 2 < ((a : Int) + (b : Int)) / 2 + (m : Int) - (i : Int)) = true := by simp; omega
                   have q6 : decide (((a : Int) + (b : Int)) / 2 + (m : Int) - (i : Int) < (b : Int)) = true := by simp; omega
                   have Hsym : symF lt (F + 1) a m b d = (symF lt F ((a + b) / 2) ((a + b) / 2 + m - i) b d) := by rw [symF, if_neg hA, if_neg hB]; dsimp only; rw [← he, if_neg hR, if_neg hS, if_pos hT]
                   clear he
                   go_wp2_with (go_at_call 290; refine (ih ((a + b) / 2) ((a + b) / 2 + m - i) b _ _ _ d _ (by omega) (by omega) (by omega) (by omega) hIr (by omega) (by omega) (by omega)).mono ?_; rintro e w1 ⟨rfl, hI2, hF2⟩; have hB1 := hBr.on hF2; have c0 := hB1.c0; have c1 := hB1.c1)
                   all_goals go_wp2
                   all_goals first | (exact bodyPost_ret (results_none rfl _ _ _) rfl ⟨rfl, by first | exact hI2 | (rw [Hsym]; exact hI2), hB1.fr⟩) | (go_end0; exact ⟨rfl, by first | exact hI2 | (rw [Hsym]; exact hI2), hB1.fr⟩)
                 · have q5 : i = m ∨ b = (a + b) / 2 + m - i := by omega
                   have Hsym : symF lt (F + 1) a m b d = d := by rw [symF, if_neg hA, if_neg hB]; dsimp only; rw [← he, if_neg hR, if_neg hS, if_neg hT]
                   clear he
                   all_goals go_wp2
                   all_goals first | (exact bodyPost_ret (results_none rfl _ _ _) rfl ⟨rfl, by first | exact hIr | (rw [Hsym]; exact hIr), hBr.fr⟩) | (go_end0; exact ⟨rfl, by first | exact hIr | (rw [Hsym]; exact hIr), hBr.fr⟩)
       · have hs0 : startF lt a m b d = bsF (fun c => !lt d[(a + b) / 2 + m - 1 - c]! d[c]!) (m - a) a m := by unfold startF; rw [if_neg hC]
         go_wp2
         rw [show decide (((a : Int) + (b : Int)) / 2 < (m : Int)) = false by simp; omega]
         go_loopg [18, 19] b (fun kk vi vj wr => ∃ (i j f : Nat), vi = .int .i64 i ∧ vj = .int .i64 j ∧ a ≤ i ∧ a ≤ i ∧ i ≤ j ∧ j ≤ m ∧ j - i ≤ f ∧ j - i ≤ kk ∧ I wr d ∧ Bx blk w.heap.size lb g sf sb w wr ∧
           bsF (fun c => !lt d[(a + b) / 2 + m - 1 - c]! d[c]!) f i j = startF lt a m b d)
         case atStart => exact ⟨a, m, (m - a), by first | rfl | (congr 1; omega), by first | rfl | (congr 1; omega), by omega, by omega, by omega, by omega, by omega, by omega, hI1, hBx, hs0.symm⟩
         case round =>
           obtain ⟨i, j, f, rfl, rfl, hai, hli, hij, hjb, hf, hkk0, hIr, hBr, heq⟩ := hrel
           have c0 := hBr.c0
           have c1 := hBr.c1
           by_cases hlt : i < j
           · obtain ⟨f, rfl⟩ : ∃ k, f = k + 1 := ⟨f - 1, by omega⟩
             rw [bsF, if_pos hlt] at heq
             have hl := S.less hIr ((a + b) / 2 + m - 1 - (i + j) / 2) ((i + j) / 2) (by omega) (by omega)
             rw [show ((((a + b) / 2 + m - 1 - (i + j) / 2 : Nat) : Int)) = ((a : Int) + (b : Int)) / 2 + (m : Int) - 1 - ((i : Int) + (j : Int)) / 2 by omega, show ((((i + j) / 2 : Nat) : Int)) = ((i : Int) + (j : Int)) / 2 by omega] at hl
             cases hlv : lt d[(a + b) / 2 + m - 1 - (i + j) / 2]! d[(i + j) / 2]! with
             | false =>
               rw [hlv] at hl heq
               rw [Bool.not_false, cond_true] at heq
               clear ih
               go_wp2_with (go_at_fn g; refine hl.mono ?_; rintro e w' ⟨rfl, hI2, hF2⟩)
               go_roundg (j - ((i + j) / 2 + 1))
               case measure => omega
               case rel => exact ⟨(i + j) / 2 + 1, j, f, by congr 1, rfl, by omega, by omega, by omega, by omega, by omega, by omega, hI2, hBr.on (fr_below hF2), heq⟩
             | true =>
               rw [hlv] at hl heq
               rw [Bool.not_true, cond_false] at heq
               clear ih
               go_wp2_with (go_at_fn g; refine hl.mono ?_; rintro e w' ⟨rfl, hI2, hF2⟩)
               go_roundg ((i + j) / 2 - i)
               case measure => omega
               case rel => exact ⟨i, (i + j) / 2, f, rfl, by congr 1, by omega, by omega, by omega, by omega, by omega, by omega, hI2, hBr.on (fr_below hF2), heq⟩
           · have he : i = startF lt a m b d := by
               rw [← heq]
               cases f with
               | zero => rfl
               | succ f => rw [bsF, if_neg hlt]
             have hr := startF_range lt a m b d ham hmb
             rw [← he] at hr
             clear heq hs0
             by_cases hR : i < m ∧ m < (a + b) / 2 + m - i
             · have q1 : decide ((i : Int) < (m : Int)) = true := by simp; omega
               have q2 : decide ((m : Int) < ((a : Int) + (b : Int)) / 2 + (m : Int) - (i : Int)) = true := by simp; omega
               by_cases hS : a < i ∧ i < (a + b) / 2
               · have q3 : decide ((a : Int) < (i : Int)) = true := by simp; omega
                 have q4 : decide ((i : Int) < ((a : Int) + (b : Int)) / 2) = true := by simp; omega
                 by_cases hT : (a + b) / 2 < (a + b) / 2 + m - i ∧ (a + b) / 2 + m - i < b
                 · have q5 : decide (((a : Int) + (b : Int)) / 2 < ((a : Int) + (b : Int)) / 2 + (m : Int) - (i : Int)) = true := by simp; omega
                   have q6 : decide (((a : Int) + (b : Int)) / 2 + (m : Int) - (i : Int) < (b : Int)) = true := by simp; omega
                   have Hsym : symF lt (F + 1) a m b d = (symF lt F ((a + b) / 2) ((a + b) / 2 + m - i) b (symF lt F a i ((a + b) / 2) (rotF m ((a + b) / 2 + m - i - i) (m - i) ((a + b) / 2 + m - i - m) d))) := by rw [symF, if_neg hA, if_neg hB]; dsimp only; rw [← he, if_pos hR, if_pos hS, if_pos hT]
                   clear he
                   go_wp2_with (go_at_call 324; refine (rotate_w S i m ((a + b) / 2 + m - i) _ _ _ (by omega) (by omega) (by omega) d _ hIr (by omega) (by omega) (by omega)).mono ?_; rintro e w1 ⟨rfl, hI2, hF2⟩; have hB1 := hBr.on hF2; have c0 := hB1.c0; have c1 := hB1.c1)
                   go_wp2_with (go_at_call 290; refine (ih a i ((a + b) / 2) _ _ _ (rotF m ((a + b) / 2 + m - i - i) (m - i) ((a + b) / 2 + m - i - m) d) _ (by omega) (by omega) (by omega) (by omega) hI2 (by omega) (by omega) (by omega)).mono ?_; rintro e w2 ⟨rfl, hI3, hF3⟩; have hB2 := hB1.on hF3; have c0 := hB2.c0; have c1 := hB2.c1)
                   go_wp2_with (go_at_call 290; refine (ih ((a + b) / 2) ((a + b) / 2 + m - i) b _ _ _ (symF lt F a i ((a + b) / 2) (rotF m ((a + b) / 2 + m - i - i) (m - i) ((a + b) / 2 + m - i - m) d)) _ (by omega) (by omega) (by omega) (by omega) hI3 (by omega) (by omega) (by omega)).mono ?_; rintro e w3 ⟨rfl, hI4, hF4⟩; have hB3 := hB2.on hF4; have c0 := hB3.c0; have c1 := hB3.c1)
                   all_goals go_wp2
                   all_goals first | (exact bodyPost_ret (results_none rfl _ _ _) rfl ⟨rfl, by first | exact hI4 | (rw [Hsym]; exact hI4), hB3.fr⟩) | (go_end0; exact ⟨rfl, by first | exact hI4 | (rw [Hsym]; exact hI4), hB3.fr⟩)
                 · have q5 : i = m ∨ b = (a + b) / 2 + m - i := by omega
                   have Hsym : symF lt (F + 1) a m b d = (symF lt F a i ((a + b) / 2) (rotF m ((a + b) / 2 + m - i - i) (m - i) ((a + b) / 2 + m - i - m) d)) := by rw [symF, if_neg hA, if_neg hB]; dsimp only; rw [← he, if_pos hR, if_pos hS, if_neg hT]
                   clear he
                   go_wp2_with (go_at_call 324; refine (rotate_w S i m ((a + b) / 2 + m - i) _ _ _ (by omega) (by omega) (by omega) d _ hIr (by omega) (by omega) (by omega)).mono ?_; rintro e w1 ⟨rfl, hI2, hF2⟩; have hB1 := hBr.on hF2; have c0 := hB1.c0; have c1 := hB1.c1)
                   go_wp2_with (go_at_call 290; refine (ih a i ((a + b) / 2) _ _ _ (rotF m ((a + b) / 2 + m - i - i) (m - i) ((a + b) / 2 + m - i - m) d) _ (by omega) (by omega) (by omega) (by omega) hI2 (by omega) (by omega) (by omega)).mono ?_; rintro e w2 ⟨rfl, hI3, hF3⟩; have hB2 := hB1.on hF3; have c0 := hB2.c0; have c1 := hB2.c1)
                   all_goals go_wp2
                   all_goals first | (exact bodyPost_ret (results_none rfl _ _ _) rfl ⟨rfl, by first | exact hI3 | (rw [Hsym]; exact hI3), hB2.fr⟩) | (go_end0; exact ⟨rfl, by first | exact hI3 | (rw [Hsym]; exact hI3), hB2.fr⟩)
               · have q3 : i = a ∨ i = (a + b) / 2 := by omega
                 by_cases hT : (a + b) / 2 < (a + b) / 2 + m - i ∧ (a + b) / 2 + m - i < b
                 · have q5 : decide (((a : Int) + (b : Int)) / 2 < ((a : Int) + (b : Int)) / 2 + (m : Int) - (i : Int)) = true := by simp; omega
                   have q6 : decide (((a : Int) + (b : Int)) / 2 + (m : Int) - (i : Int) < (b : Int)) = true := by simp; omega
                   have Hsym : symF lt (F + 1) a m b d = (symF lt F ((a + b) / 2) ((a + b) / 2 + m - i) b (rotF m ((a + b) / 2 + m - i - i) (m - i) ((a + b) / 2 + m - i - m) d)) := by rw [symF, if_neg hA, if_neg hB]; dsimp only; rw [← he, if_pos hR, if_neg hS, if_pos hT]
                   clear he
                   go_wp2_with (go_at_call 324; refine (rotate_w S i m ((a + b) / 2 + m - i) _ _ _ (by omega) (by omega) (by omega) d _ hIr (by omega) (by omega) (by omega)).mono ?_; rintro e w1 ⟨rfl, hI2, hF2⟩; have hB1 := hBr.on hF2; have c0 := hB1.c0; have c1 := hB1.c1)
                   go_wp2_with (go_at_call 290; refine (ih ((a + b) / 2) ((a + b) / 2 + m - i) b _ _ _ (rotF m ((a + b) / 2 + m - i - i) (m - i) ((a + b) / 2 + m - i - m) d) _ (by omega) (by omega) (by omega) (by omega) hI2 (by omega) (by omega) (by omega)).mono ?_; rintro e w2 ⟨rfl, hI3, hF3⟩; have hB2 := hB1.on hF3; have c0 := hB2.c0; have c1 := hB2.c1)
                   all_goals go_wp2
                   all_goals first | (exact bodyPost_ret (results_none rfl _ _ _) rfl ⟨rfl, by first | exact hI3 | (rw [Hsym]; exact hI3), hB2.fr⟩) | (go_end0; exact ⟨rfl, by first | exact hI3 | (rw [Hsym]; exact hI3), hB2.fr⟩)
                 · have q5 : i = m ∨ b = (a + b) / 2 + m - i := by omega
                   have Hsym : symF lt (F + 1) a m b d = (rotF m ((a + b) / 2 + m - i - i) (m - i) ((a + b) / 2 + m - i - m) d) := by rw [symF, if_neg hA, if_neg hB]; dsimp only; rw [← he, if_pos hR, if_neg hS, if_neg hT]
                   clear he
                   go_wp2_with (go_at_call 324; refine (rotate_w S i m ((a + b) / 2 + m - i) _ _ _ (by omega) (by omega) (by omega) d _ hIr (by omega) (by omega) (by omega)).mono ?_; rintro e w1 ⟨rfl, hI2, hF2⟩; have hB1 := hBr.on hF2; have c0 := hB1.c0; have c1 := hB1.c1)
                   all_goals go_wp2
                   all_goals first | (exact bodyPost_ret (results_none rfl _ _ _) rfl ⟨rfl, by first | exact hI2 | (rw [Hsym]; exact hI2), hB1.fr⟩) | (go_end0; exact ⟨rfl, by first | exact hI2 | (rw [Hsym]; exact hI2), hB1.fr⟩)
             · have q0 : i = m ∨ i = (a + b) / 2 := by omega
               by_cases hS : a < i ∧ i < (a + b) / 2
               · have q3 : decide ((a : Int) < (i : Int)) = true := by simp; omega
                 have q4 : decide ((i : Int) < ((a : Int) + (b : Int)) / 2) = true := by simp; omega
                 by_cases hT : (a + b) / 2 < (a + b) / 2 + m - i ∧ (a + b) / 2 + m - i < b
                 · have q5 : decide (((a : Int) + (b : Int)) / 2 < ((a : Int) + (b : Int)) / 2 + (m : Int) - (i : Int)) = true := by simp; omega
                   have q6 : decide (((a : Int) + (b : Int)) / 2 + (m : Int) - (i : Int) < (b : Int)) = true := by simp; omega
                   have Hsym : symF lt (F + 1) a m b d = (symF lt F ((a + b) / 2) ((a + b) / 2 + m - i) b (symF lt F a i ((a + b) / 2) d)) := by rw [symF, if_neg hA, if_neg hB]; dsimp only; rw [← he, if_neg hR, if_pos hS, if_pos hT]
                   clear he
                   go_wp2_with (go_at_call 290; refine (ih a i ((a + b) / 2) _ _ _ d _ (by omega) (by omega) (by omega) (by omega) hIr (by omega) (by omega) (by omega)).mono ?_; rintro e w1 ⟨rfl, hI2, hF2⟩; have hB1 := hBr.on hF2; have c0 := hB1.c0; have c1 := hB1.c1)
                   go_wp2_with (go_at_call 290; refine (ih ((a + b) / 2) ((a + b) / 2 + m - i) b _ _ _ (symF lt F a i ((a + b) / 2) d) _ (by omega) (by omega) (by omega) (by omega) hI2 (by omega) (by omega) (by omega)).mono ?_; rintro e w2 ⟨rfl, hI3, hF3⟩; have hB2 := hB1.on hF3; have c0 := hB2.c0; have c1 := hB2.c1)
                   all_goals go_wp2
                   all_goals first | (exact bodyPost_ret (results_none rfl _ _ _) rfl ⟨rfl, by first | exact hI3 | (rw [Hsym]; exact hI3), hB2.fr⟩) | (go_end0; exact ⟨rfl, by first | exact hI3 | (rw [Hsym]; exact hI3), hB2.fr⟩)
                 · have q5 : i = m ∨ b = (a + b) / 2 + m - i := by omega
                   have Hsym : symF lt (F + 1) a m b d = (symF lt F a i ((a + b) / 2) d) := by rw [symF, if_neg hA, if_neg hB]; dsimp only; rw [← he, if_neg hR, if_pos hS, if_neg hT]
                   clear he
                   go_wp2_with (go_at_call 290; refine (ih a i ((a + b) / 2) _ _ _ d _ (by omega) (by omega) (by omega) (by omega) hIr (by omega) (by omega) (by omega)).mono ?_; rintro e w1 ⟨rfl, hI2, hF2⟩; have hB1 := hBr.on hF2; have c0 := hB1.c0; have c1 := hB1.c1)
                   all_goals go_wp2
                   all_goals first | (exact bodyPost_ret (results_none rfl _ _ _) rfl ⟨rfl, by first | exact hI2 | (rw [Hsym]; exact hI2), hB1.fr⟩) | (go_end0; exact ⟨rfl, by first | exact hI2 | (rw [Hsym]; exact hI2), hB1.fr⟩)
               · have q3 : i = a ∨ i = (a + b) / 2 := by omega
                 by_cases hT : (a + b) / 2 < (a + b) / 2 + m - i ∧ (a + b) / 2 + m - i < b
                 · have q5 : decide (((a : Int) + (b : Int)) / 2 < ((a : Int) + (b : Int)) / 2 + (m : Int) - (i : Int)) = true := by simp; omega
                   have q6 : decide (((a : Int) + (b : Int)) / 2 + (m : Int) - (i : Int) < (b : Int)) = true := by simp; omega
                   have Hsym : symF lt (F + 1) a m b d = (symF lt F ((a + b) / 2) ((a + b) / 2 + m - i) b d) := by rw [symF, if_neg hA, if_neg hB]; dsimp only; rw [← he, if_neg hR, if_neg hS, if_pos hT]
                   clear he
                   go_wp2_with (go_at_call 290; refine (ih ((a + b) / 2) ((a + b) / 2 + m - i) b _ _ _ d _ (by omega) (by omega) (by omega) (by omega) hIr (by omega) (by omega) (by omega)).mono ?_; rintro e w1 ⟨rfl, hI2, hF2⟩; have hB1 := hBr.on hF2; have c0 := hB1.c0; have c1 := hB1.c1)
                   all_goals go_wp2
                   all_goals first | (exact bodyPost_ret (results_none rfl _ _ _) rfl ⟨rfl, by first | exact hI2 | (rw [Hsym]; exact hI2), hB1.fr⟩) | (go_end0; exact ⟨rfl, by first | exact hI2 | (rw [Hsym]; exact hI2), hB1.fr⟩)
                 · have q5 : i = m ∨ b = (a + b) / 2 + m - i := by omega
                   have Hsym : symF lt (F + 1) a m b d = d := by rw [symF, if_neg hA, if_neg hB]; dsimp only; rw [← he, if_neg hR, if_neg hS, if_neg hT]
                   clear he
                   all_goals go_wp2
                   all_goals first | (exact bodyPost_ret (results_none rfl _ _ _) rfl ⟨rfl, by first | exact hIr | (rw [Hsym]; exact hIr), hBr.fr⟩) | (go_end0; exact ⟨rfl, by first | exact hIr | (rw [Hsym]; exact hIr), hBr.fr⟩)
end
end Go.Proofs.YtlkidecpmfhheaaGreat

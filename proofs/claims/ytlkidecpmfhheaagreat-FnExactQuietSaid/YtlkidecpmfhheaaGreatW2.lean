import Derived.Test.YtlkidecpmfhheaaGreatW1
set_option linter.all false
namespace Go.Proofs.YtlkidecpmfhheaaGreat
open Go Go.Proofs Go.Shelf Go.RowKit Go.Lib Go.Sort
open Go.Vx (Srt Bx fr_refl fr_trans fr_below fr_alloc' fr_drew fr_cell swpR rotF bsF upF dnF startF symF startF_range blkF mrgF stbF stableF)
variable {α : Type} [Inhabited α]
section
variable {I : World → Array α → Prop} {blk sz : Nat} {lt : α → α → Bool} {g : Nat} {lb : Array Value} {sf : Nat} {sb : Array Value}
set_option maxHeartbeats 3200000 in
set_option maxRecDepth 1000000 in
theorem rotate_w (S : Srt Tryz.prog I blk sz lt g lb sf sb) (a m b : Nat) (az mz bz : Int) (haz : az = a) (hmz : mz = m) (hbz : bz = b) (d : Array α) (w : World) (hI : I w d) (ham : a < m) (hmb : m < b) (hb : b ≤ sz) :
   Calls Tryz.prog 324 #[.agg #[.func (.func g) #[] lb, .func (.func sf) #[] sb], .int .i64 az, .int .i64 mz, .int .i64 bz] w fun e w' => e = .returned (.tuple #[]) ∧ I w' (rotF m (b - a) (m - a) (b - m) d) ∧ Vx.Fr w [blk] w' := by
 subst haz hmz hbz
 have hsm := S.small
 have hB := Bx.start S hI 232
 have hI1 := S.alloc (.cells #[.func (.func g) #[] lb, .func (.func sf) #[] sb] 232) hI
 go_enter Tryz.func324, Tryz.ntmps324
 go_wp2
 go_loopg [8, 9] (b - a) (fun k s8 s9 wr => ∃ (i j f : Nat) (dk : Array α), s8 = .int .i64 i ∧ s9 = .int .i64 j ∧ 1 ≤ i ∧ 1 ≤ j ∧ i ≤ m ∧ m + j ≤ b ∧ i + j ≤ k ∧ i + j ≤ f ∧ I wr dk ∧ Bx blk w.heap.size lb g sf sb w wr ∧ rotF m f i j dk = rotF m (b - a) (m - a) (b - m) d)
 case atStart => exact ⟨m - a, b - m, b - a, d, by congr 1; omega, by congr 1; omega, by omega, by omega, by omega, by omega, by omega, by omega, hI1, hB, rfl⟩
 case round =>
   obtain ⟨i, j, f, dk, rfl, rfl, hi1, hj1, him, hjb, hk, hf, hIr, hBr, heq⟩ := hrel
   obtain ⟨f, rfl⟩ : ∃ g, f = g + 1 := ⟨f - 1, by omega⟩
   have c0 := hBr.c0
   have c1 := hBr.c1
   have hcall : ∀ (x y z : Nat) (az bz nz : Int), az = x → bz = y → nz = z → x ≠ y → x + z ≤ sz → y + z ≤ sz → Calls Tryz.prog 338 #[.agg #[.func (.func g) #[] lb, .func (.func sf) #[] sb], .int .i64 az, .int .i64 bz, .int .i64 nz] wr fun e w' => e = .returned (.tuple #[]) ∧ I w' (swpR dk x y z) ∧ Vx.Fr wr [blk] w' := fun x y z az bz nz h1 h2 h3 h0 h4 h5 =>
     swapRange_w S x y z az bz nz h1 h2 h3 dk wr hIr h0 h4 h5
   rw [rotF] at heq
   by_cases hij : i = j
   · subst hij
     rw [if_pos rfl] at heq
     go_wp2_with (go_at_call 338; refine (hcall (m - i) m i _ _ _ (by omega) (by omega) (by omega) (by omega) (by omega) (by omega)).mono ?_; rintro e w' ⟨rfl, hI2, hF2⟩)
     go_end0
     exact ⟨rfl, by rw [← heq]; exact hI2, (hBr.on hF2).fr⟩
   · rw [if_neg hij] at heq
     by_cases hlt : j < i
     · rw [if_pos hlt] at heq
       go_wp2_with (go_at_call 338; refine (hcall (m - i) m j _ _ _ (by omega) (by omega) (by omega) (by omega) (by omega) (by omega)).mono ?_; rintro e w' ⟨rfl, hI2, hF2⟩)
       go_roundg (i - j + j)
       case measure => omega
       case rel => exact ⟨i - j, j, f, swpR dk (m - i) m j, by congr 1; omega, rfl, by omega, by omega, by omega, by omega, by omega, by omega, hI2, hBr.on hF2, heq⟩
     · rw [if_neg hlt] at heq
       go_wp2_with (go_at_call 338; refine (hcall (m - i) (m + j - i) i _ _ _ (by omega) (by omega) (by omega) (by omega) (by omega) (by omega)).mono ?_; rintro e w' ⟨rfl, hI2, hF2⟩)
       go_roundg (i + (j - i))
       case measure => omega
       case rel => exact ⟨i, j - i, f, swpR dk (m - i) (m + j - i) i, rfl, by congr 1; omega, by omega, by omega, by omega, by omega, by omega, by omega, hI2, hBr.on hF2, heq⟩
end
end Go.Proofs.YtlkidecpmfhheaaGreat

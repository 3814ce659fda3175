/-
  A text is bent: by hand.
-/
import Derived.Test.YthibophjhdoooaaDoorD6
import Derived.WalkKit
import Derived.Lib.ConvBytes
import Derived.Deep.RegionLaw
import Derived.Laws.BytesArg
set_option linter.unusedVariables false
set_option linter.unusedSimpArgs false
namespace Go.Proofs.YthibophjhdoooaaDoor
open Go.Vx Go.RowKit

theorem hid' {p : Prop} (h : p) : Hid p := h
theorem k3 (k : Nat) (h : k < 5) : k = 0 ∨ k = 1 ∨ k = 2 ∨ k = 3 ∨ k = 4 := by omega
theorem info5 : (Tryd.prog.info? 5).map (fun i => (i.zero, i.size, i.bytes)) = some (some (.int .u8 0), 1, 1) := by kernel_rfl

/-- What is moved one to the left. -/
def moved (bs : Nat → Int) (i n : Nat) : List Value := (List.range (n - (i + 1))).map fun j => .int .u8 (bs (i + 1 + j))
theorem moved_length {bs : Nat → Int} {i n : Nat} : (moved bs i n).length = n - (i + 1) := by simp [moved]
theorem moved_get {bs : Nat → Int} {i n j : Nat} (hj : j < n - (i + 1)) : (moved bs i n)[j]? = some (.int .u8 (bs (i + 1 + j))) := by simp [moved, hj]

set_option maxRecDepth 1000000 in
set_option maxHeartbeats 4000000 in
theorem walk0 (g cap : Nat) (s : ByteArray) (w W1 : World) (blk : Nat) (bs : Nat → Int) (h0 : ¬ ((s.size : Int) = 0)) (hcv : (convert 9 22 (.string s)).run Tryd.prog w = .ok (.slice (some ⟨blk, 0, none⟩) s.size cap) W1)
    (hcap : s.size ≤ cap) (hsz : s.size ≤ 1048576) (hcm : cap ≤ 9223372036854775807) (R : Value → World → Prop)
    (h : Hid (Calls Tryd.prog 34 #[.pointer (some ⟨g, 0, none⟩), .int .i64 s.size] W1 fun e w2 => ∃ i : Nat, e = .returned (.int .i64 i) ∧ i < s.size ∧ Hid (
       Calls Tryd.prog 34 #[.pointer (some ⟨g, 0, none⟩), .int .i64 5] w2 fun e w3 => ∃ k : Nat, e = .returned (.int .i64 k) ∧ k < 5 ∧
        (k = 0 → Hid (Calls Tryd.prog 36 #[.pointer (some ⟨g, 0, none⟩), .slice (some ⟨w3.heap.size, 0, none⟩) 8 8] (w3.alloc (.cells #[.int .i64 34, .int .i64 61, .int .i64 44, .int .i64 32, .int .i64 97, .int .i64 123, .int .i64 125, .int .i64 200] 3)) fun e w4 =>
          ∃ v : Int, ∃ c0 : Value, ∃ r, e = .returned (.int .i64 v) ∧ w4.cell? ⟨blk, i, none⟩ = some c0 ∧ w4.frozen? ⟨blk, i, none⟩ = false ∧
            (convert 22 9 (.slice (some ⟨blk, 0, none⟩) s.size cap)).run Tryd.prog (w4.setCell ⟨blk, i, none⟩ (.int .u8 (v % 256))) = .ok r (w4.setCell ⟨blk, i, none⟩ (.int .u8 (v % 256))) ∧ R r (w4.setCell ⟨blk, i, none⟩ (.int .u8 (v % 256))))) ∧
        (k = 1 → ∃ r, (convert 22 9 (.slice (some ⟨blk, 0, none⟩) (i + (s.size - (i + 1))) cap)).run Tryd.prog (w3.drew.setCells blk i (moved bs i s.size)) = .ok r (w3.drew.setCells blk i (moved bs i s.size)) ∧ R r (w3.drew.setCells blk i (moved bs i s.size)) ∧
          (∀ j, j < s.size → w3.cell? ⟨blk, j, none⟩ = some (.int .u8 (bs j))) ∧ ∀ j, j < s.size → w3.frozen? ⟨blk, j, none⟩ = false) ∧
        (k ≠ 0 → k ≠ 1 → ∃ r, (convert 22 9 (.slice (some ⟨blk, 0, none⟩) s.size cap)).run Tryd.prog w3 = .ok r w3 ∧ R r w3)))) :
    Calls Tryd.prog 23 #[.pointer (some ⟨g, 0, none⟩), .string s] w fun e w' => ∃ r, e = .returned r ∧ R r w' := by
  obtain ⟨i0, hi0, hz0, hz1, hz2⟩ := info_parts info5
  go_enter Tryd.func23, Tryd.ntmps23
  go_wp2_with (first | (go_at_call 34; refine h.out.mono ?_; clear h; rintro e w2 ⟨i, rfl, hi, h2⟩) | (go_at_call 34; refine h2.out.mono ?_; clear h2; rintro e w3 ⟨k, rfl, hk, h3, h3', h4⟩; rcases k3 k hk with rfl | rfl | rfl | rfl | rfl <;> first | (replace h3 := hid' (h3 rfl); clear h3' h4) | (obtain ⟨r, h5, h6, h7⟩ := h3' rfl; replace h7 := hid' h7; clear h3 h4) | (obtain ⟨r, h5, h6⟩ := h4 (by decide) (by decide); clear h3 h3')))
  · refine h3.out.out.mono ?_
    clear h3
    rintro e w4 ⟨v, c0, r, rfl, h5, h6, h7, h8⟩
    go_wp2
    go_ret
    exact ⟨r, rfl, h8⟩
  · obtain ⟨A, hA, hnews⟩ : ∃ A : Addr, (if cap = i + 1 then some (⟨blk, 0, none⟩ : Addr) else some ⟨blk, i + 1, none⟩) = some A ∧ Hid (∀ j u, (moved bs i s.size)[j]? = some u → w3.drew.cell? (A.add j) = some u) := by
      by_cases h : cap = i + 1
      · refine ⟨⟨blk, 0, none⟩, by simp [h], fun j u hu => ?_⟩
        have h0 : (moved bs i s.size).length = 0 := by rw [moved_length]; omega
        rw [List.length_eq_zero_iff.1 h0] at hu
        simp at hu
      · refine ⟨⟨blk, i + 1, none⟩, by simp [h], fun j u hu => ?_⟩
        have hj : j < s.size - (i + 1) := by
          have := (List.getElem?_eq_some_iff.1 hu).1
          rwa [moved_length] at this
        rw [moved_get hj] at hu
        rw [Addr.add_lit, show i + 1 + j = i + 1 + j by omega]
        exact (h7.out.1 (i + 1 + j) (by omega)).trans hu
    have s1 : Hid ((moved bs i s.size).length = (s.size - (i + 1)) * 1) := by rw [Nat.mul_one]; exact moved_length
    have s2 : Hid (∀ u ∈ moved bs i s.size, u.oneCell' = true) := by
      intro u hu
      obtain ⟨x, _, rfl⟩ := List.mem_map.1 hu
      rfl
    have s3 : Hid (∀ j, j < (moved bs i s.size).length → (w3.drew.cell? ⟨blk, 0 + i * 1 + j, none⟩).isSome = true ∧ w3.drew.frozen? ⟨blk, 0 + i * 1 + j, none⟩ = false) := by
      intro j hj
      rw [moved_length] at hj
      rw [Nat.mul_one, Nat.zero_add]
      exact ⟨by show (w3.cell? _).isSome = true; rw [h7.out.1 (i + j) (by omega)]; rfl, h7.out.2 (i + j) (by omega)⟩
    have hic : i ≤ cap := by omega
    have hwr : IntKind.i64.wrap ((i : Int) + 1) = (i : Int) + 1 := by rw [IntKind.wrap_i64]; omega
    have hp0 : (0 : Int) ≤ (i : Int) + 1 := by omega
    have hp1 : (i : Int) + 1 ≤ (s.size : Int) := by omega
    have hp2 : ((i : Int) + 1).toNat = i + 1 := by omega
    go_wp2_with fail
    go_region_law (refine step_append_room rfl (.tmp 32) (.tmp 36) 22 rfl 5 i0 1 Tryd.underlying22 hi0 hz1 blk 0 i cap (by simp [Act.eval, Act.put]) A (s.size - (i + 1)) (cap - (i + 1)) (moved bs i s.size) (by simp [Act.eval, Act.put]) s1.out hnews.out s2.out (by omega) s3.out ?_)
    go_wp2
    go_ret
    exact ⟨r, rfl, h6⟩
  all_goals (go_wp2; go_ret; exact ⟨r, rfl, h6⟩)

set_option maxRecDepth 1000000 in
set_option maxHeartbeats 4000000 in
theorem walkE (g cap : Nat) (s : ByteArray) (w W1 : World) (a : Option Addr) (h0 : ((s.size : Int) = 0)) (hcv : (convert 9 22 (.string s)).run Tryd.prog w = .ok (.slice a s.size cap) W1) :
    Calls Tryd.prog 23 #[.pointer (some ⟨g, 0, none⟩), .string s] w fun e w' => e = .returned (.string s) ∧ w' = W1 := by
  go_enter Tryd.func23, Tryd.ntmps23
  go_wp2
  go_ret
  exact ⟨rfl, rfl⟩
end Go.Proofs.YthibophjhdoooaaDoor


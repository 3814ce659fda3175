import Derived.Test.YtlkidecpmfhheaaGreatY10
set_option linter.all false
namespace Go.Proofs.YtlkidecpmfhheaaGreat
open Go.Vx
theorem taskW_no {w : List D} {k : Nat} (h : ¬ TaskP (rowN (cell w 17).asList k) k) : ¬ taskW w k := fun h' => h h'.1
theorem taskW_idle {w : List D} {k : Nat} (h : TaskP (rowN (cell w 17).asList k) k) (h0 : (cell (rowN (cell w 17).asList k) 0).asInt = 0) : taskW w k := ⟨h, fun hn => absurd h0 hn⟩
theorem taskW_eq {w t d : List D} {k h : Nat} (ht : rowN (cell w 17).asList k = t) (hT : TaskP t k) (h0 : (cell t 0).asInt ≠ 0) (hH : (cell t 11).asInt = (h : Int)) (hd : rowN (cell w 18).asList h = d) :
   taskW w k ↔ h < (cell w 18).asList.length ∧ (cell d 1).asInt = k ∧ (cell d 14).asInt = -1 ∧ (cell d 0).asInt = deedOp (cell t 0).asInt ∧ ((cell d 13).asInt ≠ -1 ↔ (cell t 0).asInt = 1 ∧ (cell t 1).asInt = 2) ∧ deedF w t d := by
 subst ht
 unfold taskW
 rw [hH, Int.toNat_natCast, hd]
 constructor
 · intro h; have := h.2 h0; exact ⟨by omega, this.2⟩
 · intro h; exact ⟨hT, fun _ => ⟨by omega, h.2⟩⟩
theorem seen_le {w t : List D} {k : Int} (hp : partsP w) (h : TaskP t k) (h3 : (cell t 0).asInt = 3 ∨ (cell t 0).asInt = 4) (h1 : (cell t 1).asInt = 2 → ((cell t 8).asList.length : Int) = (cell w 0).asInt) (h2 : (cell t 1).asInt ≠ 2 → (cell t 7).asInt < (cell w 0).asInt) : (cell t 8).asList.length ≤ (cell w 8).asList.length := by
 simp only [partsP] at hp
 rcases h3 with h3 | h4
 · obtain ⟨_, hs⟩ := task3 h h3
   by_cases hc : (cell t 1).asInt = 2
   · have := h1 hc; omega
   · have e1 := h2 hc
     have e2 := (hs.2.2 hc).1
     omega
 · have := (h.2.2.2.2.2.2.2.2.2.2.2.1 h4).2.2.2.2.2.2.1
   omega
theorem ok91 : Good1 Tryz.prog Φ g91 := good1 tok mixed (l := [g155, g159, g160, g161, g162, g163, g164]) (by simp [ok155, ok159, ok160, ok161, ok162, ok163, ok164]) Tryz.func91 (by decide) (by decide) v91_eq (args2 fun a b hw hp => by
 simp [g91, Φ91, mBw] at hp
 obtain ⟨hsz, hparts, hb0, hbl⟩ := hp
 obtain ⟨n, hn⟩ := Int.eq_ofNat_of_zero_le hb0
 rw [show (fun l => l = retDs (fun c' => Φ g91.f c' [a, b]) 0 g91.rets) = fun l => l = [.bool (tt (taskW a.row b.asInt.toNat))] from rfl]
 rw [hn] at hbl ⊢
 rw [Int.toNat_natCast]
 have hnl : n < (cell a.row 17).asList.length := by omega
 obtain ⟨t, ht⟩ : ∃ t, rowN (cell a.row 17).asList n = t := ⟨_, rfl⟩
 by_cases hT : TaskP t n
 · by_cases h0 : (cell t 0).asInt = 0
   · have := taskW_idle (w := a.row) (k := n) (ht ▸ hT) (ht ▸ h0)
     simp [v91, Φ91, Φ155, Φ159, Φ160, Φ161, Φ162, Φ163, Φ164, mBw, mB, mDeedOp, mFindA, mEqA, mEqL, mSeenW, hn, hnl, rowAt_nat, ht, hT, h0, this]
   · obtain ⟨h, hH⟩ := Int.eq_ofNat_of_zero_le hT.1
     obtain ⟨d, hd⟩ : ∃ d, rowN (cell a.row 18).asList h = d := ⟨_, rfl⟩
     have e := taskW_eq ht hT h0 hH hd
     have hop := hT.2.2.2.2.2.2.1
     simp only [In] at hop
     by_cases hl : h < (cell a.row 18).asList.length
     · by_cases h1 : (cell t 0).asInt = 1
       · have hlen := task1_len hT h1
         simp [v91, Φ91, Φ155, Φ159, Φ160, Φ161, Φ162, Φ163, Φ164, mBw, mB, mDeedOp, mFindA, mEqA, mEqL, mSeenW, hn, hnl, rowAt_nat, ht, hT, hH, hd, hl, e, eq_tt, deedOp, deedF, h1, eqA, eqS, taskA, eqA_cells, hlen, In]
         grind
       by_cases h2 : (cell t 0).asInt = 2
       · simp [v91, Φ91, Φ155, Φ159, Φ160, Φ161, Φ162, Φ163, Φ164, mBw, mB, mDeedOp, mFindA, mEqA, mEqL, mSeenW, hn, hnl, rowAt_nat, ht, hT, hH, hd, hl, e, eq_tt, deedOp, deedF, h2, eqA, eqS, taskA, In]
         grind
       by_cases h3 : (cell t 0).asInt = 3
       · have hle := @seen_le a.row t n hparts hT (.inl h3)
         simp [v91, Φ91, Φ155, Φ159, Φ160, Φ161, Φ162, Φ163, Φ164, mBw, mB, mDeedOp, mFindA, mEqA, mEqL, mSeenW, hn, hnl, rowAt_nat, ht, hT, hH, hd, hl, e, eq_tt, deedOp, deedF, h3, eqA, eqS, taskA, In, hsz, hparts]
         grind
       by_cases h4 : (cell t 0).asInt = 4
       · have hle := @seen_le a.row t n hparts hT (.inr h4)
         simp [v91, Φ91, Φ155, Φ159, Φ160, Φ161, Φ162, Φ163, Φ164, mBw, mB, mDeedOp, mFindA, mEqA, mEqL, mSeenW, hn, hnl, rowAt_nat, ht, hT, hH, hd, hl, e, eq_tt, deedOp, deedF, h4, eqA, eqS, taskA, In, hsz, hparts]
         grind
       by_cases h5 : (cell t 0).asInt = 5
       · simp [v91, Φ91, Φ155, Φ159, Φ160, Φ161, Φ162, Φ163, Φ164, mBw, mB, mDeedOp, mFindA, mEqA, mEqL, mSeenW, hn, hnl, rowAt_nat, ht, hT, hH, hd, hl, e, eq_tt, deedOp, deedF, h5, eqA, eqS, taskA, In]
         grind
       have h6 : (cell t 0).asInt = 6 := by omega
       simp [v91, Φ91, Φ155, Φ159, Φ160, Φ161, Φ162, Φ163, Φ164, mBw, mB, mDeedOp, mFindA, mEqA, mEqL, mSeenW, hn, hnl, rowAt_nat, ht, hT, hH, hd, hl, e, eq_tt, deedOp, deedF, h6, eqA, eqS, taskA, In]
       grind
     · simp [v91, Φ91, Φ155, Φ159, Φ160, Φ161, Φ162, Φ163, Φ164, mBw, mB, mDeedOp, mFindA, mEqA, mEqL, mSeenW, hn, hnl, rowAt_nat, ht, hT, h0, hH, hl, e]
 · have := taskW_no (w := a.row) (k := n) (ht ▸ hT)
   simp [v91, Φ91, Φ155, Φ159, Φ160, Φ161, Φ162, Φ163, Φ164, mBw, mB, mDeedOp, mFindA, mEqA, mEqL, mSeenW, hn, hnl, rowAt_nat, ht, hT, this])
end Go.Proofs.YtlkidecpmfhheaaGreat

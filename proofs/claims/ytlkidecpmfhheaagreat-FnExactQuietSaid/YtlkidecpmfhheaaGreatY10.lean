import Derived.Test.YtlkidecpmfhheaaGreatY9
import Derived.Test.YtlkidecpmfhheaaGreatS7
set_option linter.all false
namespace Go.Proofs.YtlkidecpmfhheaaGreat
open Go.Vx
theorem partsTake_len {xs : List (List D)} (n : Nat) (h : xs.length + sumR (szDs kPart) xs ≤ 1048576) : ((xs.take n).flatMap partA).length ≤ 1048576 := by
 have h1 := parts_sum (xs.take n)
 have h2 := sumR_take_le (szDs kPart) (xs := xs) (i := n)
 omega
theorem mAlIn_eq (a : D) : mAlIn 0 [a] = .sl (partA a.row) := rfl
theorem ok164 : Good1 Tryz.prog Φ g164 := good1 tok mixed (l := [g136, g208]) (by simp [ok136, ok208]) Tryz.func164 (by decide) (by decide) v164_eq (args2 fun a b hw hp => by
 simp [g164, Φ164, mSeenW] at hp
 obtain ⟨hsz, hle⟩ := hp
 have hst := szSt a.row
 show v164.wp Φ (fun l => l = [.bool (tt (seenW a.row b.row))]) [a, b] _
 have hl := wfs_at hw.2.1 8 rfl
 refine wp_loop' (fun v => ∃ (i : Nat) (x : D), v = [.bool (tt (∀ j, j < i → verP a.row b.row j)), .int i, x] ∧ i ≤ (cell b.row 8).asList.length ∧ (∀ j, j < i → leP a.row b.row j) ∧ x.asList = ((cell a.row 8).asList.take i).flatMap partA) (fun v => (cell b.row 8).asList.length - (cell v 1).asInt.toNat) ⟨0, _, by simp; rfl, by omega, by omega, by simp [chunk]⟩ ?_
 simp only [allN_succ, allN_zero]
 intro d1 d2 d3
 refine kinds_intro fun _ => ?_
 rintro ⟨i, x, hd, hi, hI, hx⟩
 simp only [List.cons.injEq, and_true] at hd
 obtain ⟨rfl, rfl, rfl⟩ := hd
 rw [wp_ite']
 refine ⟨fun hc => ?_, fun hc => ?_⟩
 · simp at hc
   have hi2 : i < (cell a.row 8).asList.length := by omega
   rw [wp_req', wp_ite']
   refine ⟨by simp; omega, fun hv => ?_, fun hv => ?_⟩
   · simp [rowAt_nat] at hv
     have : ¬ seenW a.row b.row := fun h => by have := h.1 i hc; omega
     simp [tt_no _ |>.mpr this]
   · simp [rowAt_nat] at hv
     have h1 := partsTake_len i (xs := (cell a.row 8).asList) (by omega)
     have h2 := partsTake_len (i + 1) (xs := (cell a.row 8).asList) (by omega)
     rw [fm_take hi2, List.length_append] at h2
     have h3 : szDs kPart (rowN (cell a.row 8).asList i) ≤ sumR (szDs kPart) (cell a.row 8).asList := sumR_rowN hi2
     have hv' : leP a.row b.row i := hv
     rw [wp_req', wp_req', wp_back', setB_eq]
     have hm : (mAlIn 1000 [.sl [rowN (cell a.row 8).asList i]]).asBool = true := by simp [mAlIn]; omega
     refine ⟨by simp; omega, by simp [rowAt_nat, hm, Φ208, mAlIn_eq, hx, lenMax, -List.length_flatMap]; omega, ⟨i + 1, .sl (d3.asList ++ partA (rowN (cell a.row 8).asList i)), ?_, by omega, all_next hI hv', ?_⟩, ?_⟩
     · simp [rowAt_nat, w64 (show -9223372036854775808 ≤ (i : Int) + 1 by omega) (show (i : Int) + 1 ≤ 9223372036854775807 by omega)]
       exact ⟨⟨fun h => all_next h.1 h.2, fun h => ⟨fun j hj => h j (by omega), h i (by omega)⟩⟩, rfl⟩
     · simp [rowAt_nat, Φ208, mAlIn_eq, hx, fm_take hi2, -List.length_flatMap]
     · simp [w64 (show -9223372036854775808 ≤ (i : Int) + 1 by omega) (show (i : Int) + 1 ≤ 9223372036854775807 by omega)]
       omega
 · simp at hc
   have : i = (cell b.row 8).asList.length := by omega
   subst this
   have e := eqRs_symm kAlarm ((cell a.row 8).asList.take (cell b.row 8).asList.length |>.flatMap partA) (cell b.row 9).asList
   simp [Φ164, Φ136, Φ208, mSeenW, mEqL, mAlIn, hx, e, seenW_eq, eq_tt]
   grind)
theorem task3 {t : List D} {k : Int} (h : TaskP t k) (h3 : (cell t 0).asInt = 3) : In (cell t 1).asInt 0 2 ∧ seenP t := ⟨h.2.1, (h.2.2.2.2.2.2.2.2.2.2.1 h3).2.2.2.2⟩
theorem ok249 : Good1 Tryz.prog Φ g249 := good1 tok mixed (l := [g147, g218]) (by simp [ok147, ok218]) Tryz.func249 (by decide) (by decide) v249_eq (args2 fun a b hw hp => by
 simp [g249, Φ249, mBw] at hp
 obtain ⟨hsz, hparts, h3, k, hk⟩ := hp
 have hst := szSt a.row
 obtain ⟨hpc, hseen⟩ := task3 hk h3
 show v249.wp Φ (fun l => l = [.bool (tt (snapF a.row b.row))]) [a, b] _
 have hl := wfs_at hw.2.1 8 rfl
 unfold v249
 rw [wp_ite']
 refine ⟨fun hc => ?_, fun hc => ?_⟩
 · simp at hc
   have : ¬ snapF a.row b.row := fun h => by
     obtain ⟨s1, s2, _⟩ := h
     simp only [In] at hpc
     rcases hc with ⟨c1, c2⟩ | ⟨c1, c2⟩
     · have := s2 (by omega); omega
     · exact c2 (s1 c1)
   simp [tt_no _ |>.mpr this]
 have hs : ((cell b.row 1).asInt = 2 → ((cell b.row 8).asList.length : Int) = (cell a.row 0).asInt) ∧ ((cell b.row 1).asInt ≠ 2 → (cell b.row 7).asInt < (cell a.row 0).asInt) := by
   simp at hc
   simp only [In] at hpc
   refine ⟨fun h => hc.2 h, fun h => by have := hc.1 (by omega); omega⟩
 have hle : (cell b.row 8).asList.length ≤ (cell a.row 8).asList.length := by
   simp only [partsP] at hparts
   by_cases h2 : (cell b.row 1).asInt = 2
   · have := hs.1 h2; omega
   · have e1 := hs.2 h2
     have e2 := (hseen.2.2 h2).1
     omega
 refine wp_loop' (fun v => ∃ (i : Nat) (x : D), v = [.bool (tt (∀ j, j < i → verP a.row b.row j)), x, .int i] ∧ i ≤ (cell b.row 8).asList.length ∧ (∀ j, j < i → leP a.row b.row j) ∧ x.asList = ((cell a.row 8).asList.take i).flatMap partA) (fun v => (cell b.row 8).asList.length - (cell v 2).asInt.toNat) ⟨0, _, by simp; rfl, by omega, by omega, by simp [chunk]⟩ ?_
 simp only [allN_succ, allN_zero]
 intro d1 d2 d3
 refine kinds_intro fun _ => ?_
 rintro ⟨i, x, hd, hi, hI, hx⟩
 simp only [List.cons.injEq, and_true] at hd
 obtain ⟨rfl, rfl, rfl⟩ := hd
 rw [wp_ite']
 refine ⟨fun hc => ?_, fun hc => ?_⟩
 · simp at hc
   have hi2 : i < (cell a.row 8).asList.length := by omega
   rw [wp_req', wp_req', wp_ite']
   refine ⟨by simp; omega, by simp; omega, fun hv => ?_, fun hv => ?_⟩
   · simp [rowAt_nat] at hv
     have : ¬ snapF a.row b.row := fun h => by have := h.2.2.1 i hc; omega
     simp [tt_no _ |>.mpr this]
   · simp [rowAt_nat] at hv
     have h1 := partsTake_len i (xs := (cell a.row 8).asList) (by omega)
     have h2 := partsTake_len (i + 1) (xs := (cell a.row 8).asList) (by omega)
     rw [fm_take hi2, List.length_append] at h2
     have h3 : szDs kPart (rowN (cell a.row 8).asList i) ≤ sumR (szDs kPart) (cell a.row 8).asList := sumR_rowN hi2
     have hv' : leP a.row b.row i := hv
     rw [wp_req', wp_req', wp_back', setB_eq]
     have hm : (mAlIn 1000 [.sl [rowN (cell a.row 8).asList i]]).asBool = true := by simp [mAlIn]; omega
     refine ⟨by simp; omega, by simp [rowAt_nat, hm, Φ218, mAlIn_eq, hx, lenMax, -List.length_flatMap]; omega, ⟨i + 1, .sl (d2.asList ++ partA (rowN (cell a.row 8).asList i)), ?_, by omega, all_next hI hv', ?_⟩, ?_⟩
     · simp [rowAt_nat, w64 (show -9223372036854775808 ≤ (i : Int) + 1 by omega) (show (i : Int) + 1 ≤ 9223372036854775807 by omega)]
       exact ⟨⟨fun h => all_next h.1 h.2, fun h => ⟨fun j hj => h j (by omega), h i (by omega)⟩⟩, rfl⟩
     · simp [rowAt_nat, hx, fm_take hi2, -List.length_flatMap]
     · simp [w64 (show -9223372036854775808 ≤ (i : Int) + 1 by omega) (show (i : Int) + 1 ≤ 9223372036854775807 by omega)]
       omega
 · simp at hc
   have : i = (cell b.row 8).asList.length := by omega
   subst this
   simp [Φ249, Φ147, Φ218, mBw, mEqL, mAlIn, hx, snapF, seenW_eq, eq_tt]
   grind)
theorem eqA_cells (x y : List D) : eqDs kAlarm [.sl (cell x 0).asList, cell x 1, cell x 2, cell x 3] y = eqDs kAlarm x y := by
 simp [eqDs_cons, eqDs_nil, eqD_sl, eqD_int, eqD_str]
theorem task1_len {t : List D} {k : Int} (h : TaskP t k) (h1 : (cell t 0).asInt = 1) : (cell t 2).asList.length ≤ 1048576 := by
 have := (h.2.2.2.2.2.2.2.2.1 h1).2.1
 exact al_len (r := taskA t) this
theorem task4_seen {w t : List D} {k : Int} (h : TaskP t k) (h4 : (cell t 0).asInt = 4) : (cell t 1).asInt < 2 ∧ seenW w t := by
 have := h.2.2.2.2.2.2.2.2.2.2.2.1 h4
 have e8 : (cell t 8).asList = [] := List.length_eq_zero_iff.1 this.2.2.2.2.2.2.1
 have e9 : (cell t 9).asList = [] := List.length_eq_zero_iff.1 this.2.2.2.2.2.2.2
 exact ⟨this.2.1, by simp [seenW, e8, e9, eqR]⟩
theorem ok181 : Good1 Tryz.prog Φ g181 := good1 tok mixed (l := [g176, g217, g247, g248, g249]) (by simp [ok176, ok217, ok247, ok248, ok249]) Tryz.func181 (by decide) (by decide) v181_eq (args3 fun a b c hw hp => by
 simp [g181, Φ181, mBw] at hp
 obtain ⟨hsz, hparts, h0, k, hk⟩ := hp
 have hop := hk.2.2.2.2.2.2.1
 simp only [In] at hop
 rw [show (fun l => l = retDs (fun c' => Φ g181.f c' [a, b, c]) 0 g181.rets) = fun l => l = [.bool (tt ((cell c.row 0).asInt = deedOp (cell b.row 0).asInt ∧ deedF a.row b.row c.row))] from rfl]
 by_cases h1 : (cell b.row 0).asInt = 1
 · have hlen := task1_len hk h1
   simp [v181, g181, Φ181, Φ176, Φ217, Φ247, Φ248, Φ249, mBw, mB, mEqA, mFindA, mEqL, eq_tt, deedOp, deedF, h1, eqA, eqS, taskA, eqA_cells]
   grind
 by_cases h2 : (cell b.row 0).asInt = 2
 · simp [v181, g181, Φ181, Φ176, Φ217, Φ247, Φ248, Φ249, mBw, mB, mEqA, mFindA, mEqL, eq_tt, deedOp, deedF, h2, eqA, eqS, taskA]
 by_cases h3 : (cell b.row 0).asInt = 3
 · simp [v181, g181, Φ181, Φ176, Φ217, Φ247, Φ248, Φ249, mBw, mB, mEqA, mFindA, mEqL, eq_tt, deedOp, deedF, snapF, h3, eqA, eqS, taskA, hsz, hparts]
   grind
 by_cases h4 : (cell b.row 0).asInt = 4
 · have hs := @task4_seen a.row b.row k hk h4
   have hne : ¬ (cell b.row 1).asInt = 2 := by omega
   simp [v181, g181, Φ181, Φ176, Φ217, Φ247, Φ248, Φ249, mBw, mB, mEqA, mFindA, mEqL, eq_tt, deedOp, deedF, h4, eqA, eqS, taskA, hs, hne]
 by_cases h5 : (cell b.row 0).asInt = 5
 · simp [v181, g181, Φ181, Φ176, Φ217, Φ247, Φ248, Φ249, mBw, mB, mEqA, mFindA, mEqL, eq_tt, deedOp, deedF, h5, eqA, eqS, taskA]
 have h6 : (cell b.row 0).asInt = 6 := by omega
 simp [v181, g181, Φ181, Φ176, Φ217, Φ247, Φ248, Φ249, mBw, mB, mEqA, mFindA, mEqL, eq_tt, deedOp, deedF, h6, eqA, eqS, taskA]
 grind)
end Go.Proofs.YtlkidecpmfhheaaGreat

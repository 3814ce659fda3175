import Derived.Test.YtlkidecpmfhheaaGreatY15
set_option linter.all false
namespace Go.Proofs.YtlkidecpmfhheaaGreat
open Go.Vx
theorem fm_len (f : List D → List D) (xs : List (List D)) : (xs.flatMap fun r => [f r]).length = xs.length := by
 induction xs with
 | nil => rfl
 | cons x xs ih => rw [List.flatMap_cons, List.length_append, ih]; simp; omega
theorem partA_len (p : List D) : (partA p).length = sumR (fun c => (cell c 1).asList.length) (cell p 2).asList := by
 unfold partA
 generalize (cell p 2).asList = xs
 induction xs with
 | nil => rfl
 | cons x xs ih => rw [List.flatMap_cons, List.length_append, ih, fm_len]; rfl
theorem allSt_len (l : List (List D)) : (allSt l).length = cntS l := by
 unfold allSt cntS
 rw [stS_length]
 induction l with
 | nil => rfl
 | cons x l ih => rw [List.flatMap_cons, List.length_append, ih, partA_len]; rfl
theorem ok105 : Good1 Tryz.prog Φ g105 := good1 tok mixed (l := [g148, g174, g175, g176]) (by simp [ok148, ok174, ok175, ok176]) Tryz.func105 (by decide) (by decide) v105_eq (args1 fun a hw hp => by
 simp [g105, Φ105, mBw] at hp
 have hst := szSt a.row
 have hln := allSt_len (cell a.row 8).asList
 have hcn := @cntP_le (cell a.row 8).asList
 have hc : (cell a.row 8).asList.length + sumR (szDs kPart) (cell a.row 8).asList ≤ 1048576 := by omega
 show v105.wp Φ (fun l => l = [.bool (tt (StoreR a.row))]) [a] _
 by_cases h1 : StoreP (cell a.row 8).asList ∧ ((cell a.row 8).asList.length : Int) = (cell a.row 0).asInt ∧ (cntS (cell a.row 8).asList : Int) ≤ (cell a.row 1).asInt
 · obtain ⟨h1, h2, h3⟩ := h1
   have h3' : ¬ (cell a.row 1).asInt < (cntS (cell a.row 8).asList : Int) := by omega
   unfold v105
   rw [wp_req', wp_ite']
   refine ⟨by simp [Φ105, Φ148, Φ174, Φ175, Φ176, mBw, mAllA, mB, mCnt, h1, hc], fun h => ?_, fun _ => ?_⟩
   · simp [Φ105, Φ148, Φ174, Φ175, Φ176, mBw, mAllA, mB, mCnt, h1, h2, h3'] at h
   rw [wp_req']
   refine ⟨by simp [Φ105, Φ148, Φ174, Φ175, Φ176, mBw, mAllA, mB, mCnt, hc], ?_⟩
   refine scan_all2 (s := 0) (N := (allSt (cell a.row 8).asList).length) (fun i => FitsP (rowN (allSt (cell a.row 8).asList) i)) rfl (fun d => by simp [Φ105, Φ148, Φ174, Φ175, Φ176, mBw, mAllA, mB, mCnt]) (by omega) (by omega) (fun h i _ hi => h.2.2.2 i hi) (fun i _ hi _ => ?_) fun h i q => ?_
   · simp [Φ105, Φ148, Φ174, Φ175, Φ176, mBw, mAllA, mB, mCnt, rowAt_nat, hi]
   · simp [eq_tt]
     exact ⟨h1, h2, h3, fun j hj => h j (by omega) hj⟩
 · have hz : ¬ StoreR a.row := fun h => h1 ⟨h.1, h.2.1, h.2.2.1⟩
   unfold v105
   rw [wp_req', wp_ite']
   refine ⟨by simp [Φ105, Φ148, Φ174, Φ175, Φ176, mBw, mAllA, mB, mCnt, hc], fun _ => by simp [tt_no _ |>.mpr hz], fun h => ?_⟩
   simp [Φ105, Φ148, Φ174, Φ175, Φ176, mBw, mAllA, mB, mCnt] at h
   exact absurd ⟨h.1.1, h.1.2, h.2⟩ h1)
theorem ok87 : Good1 Tryz.prog Φ g87 := good1 tok mixed (l := [g137, g154, g155]) (by simp [ok137, ok154, ok155]) Tryz.func87 (by decide) (by decide) v87_eq (args1 fun a hw hp => by
 simp [g87, Φ87, mBw] at hp
 have hst := szSt a.row
 have hln := allSt_len (cell a.row 8).asList
 have hcn := @cntP_le (cell a.row 8).asList
 have hc : (cell a.row 8).asList.length + sumR (szDs kPart) (cell a.row 8).asList ≤ 1048576 := by omega
 show v87.wp Φ (fun l => l = [.bool (tt (StoreR a.row))]) [a] _
 by_cases h1 : StoreP (cell a.row 8).asList ∧ ((cell a.row 8).asList.length : Int) = (cell a.row 0).asInt
 · obtain ⟨h1, h2⟩ := h1
   unfold v87
   rw [wp_req', wp_ite']
   refine ⟨by simp [Φ87, Φ137, Φ154, Φ155, mBw, mAllA, mB, h1, hc], fun h => ?_, fun _ => ?_⟩
   · simp [Φ87, Φ137, Φ154, Φ155, mBw, mAllA, mB, h1, h2] at h
   rw [wp_req']
   refine ⟨by simp [Φ87, Φ137, Φ154, Φ155, mBw, mAllA, mB, hc], ?_⟩
   refine scan_all (s := 0) (N := (allSt (cell a.row 8).asList).length) (fun i => FitsP (rowN (allSt (cell a.row 8).asList) i)) rfl (fun d => by simp [Φ87, Φ137, Φ154, Φ155, mBw, mAllA, mB]) (by omega) (by omega) (fun h i _ hi => h.2.2.2 i hi) (fun i _ hi _ => ?_) fun h i q => ?_
   · simp [Φ87, Φ137, Φ154, Φ155, mBw, mAllA, mB, rowAt_nat, hi]
   · simp [Φ87, Φ137, Φ154, Φ155, mBw, mAllA, mB, eq_tt, hln, StoreR, h1, h2]
     exact fun _ j hj => h j (by omega) (by omega)
 · have hz : ¬ StoreR a.row := fun h => h1 ⟨h.1, h.2.1⟩
   unfold v87
   rw [wp_req', wp_ite']
   refine ⟨by simp [Φ87, Φ137, Φ154, Φ155, mBw, mAllA, mB, hc], fun _ => by simp [tt_no _ |>.mpr hz], fun h => ?_⟩
   simp [Φ87, Φ137, Φ154, Φ155, mBw, mAllA, mB] at h
   exact absurd h h1)
end Go.Proofs.YtlkidecpmfhheaaGreat

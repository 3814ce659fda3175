import Derived.Test.YtlkidecpmfhheaaGreatY16
set_option linter.all false
namespace Go.Proofs.YtlkidecpmfhheaaGreat
open Go.Vx
theorem rowAt4 (xs : List (List D)) : Go.Vx.rowAt xs 4 = rowN xs 4 := rfl
def heapR (w : List D) (j : Nat) : List D := rowN (cell w 14).asList j
def rightAt (w g : List D) (j : Nat) : Prop := (cell (heapR w j) 1).asInt = (cell g 0).asInt ∧ (cell (heapR w j) 0).asInt = dueI (cell g 2).asInt (cell g 3).asInt (cell w 3).asInt (cell w 4).asInt
def timedTo (w g : List D) (i : Nat) : Prop := ((cell (rowN (cell w 17).asList 4) 0).asInt = 6 ∧ (cell (rowN (cell w 17).asList 4) 10).asInt = (cell g 0).asInt) ∨ ∃ j, j < i ∧ rightAt w g j
theorem timedTo_zero {w g : List D} : timedTo w g 0 ↔ ((cell (rowN (cell w 17).asList 4) 0).asInt = 6 ∧ (cell (rowN (cell w 17).asList 4) 10).asInt = (cell g 0).asInt) :=
 ⟨fun h => h.elim id fun ⟨j, hj, _⟩ => absurd hj (by omega), .inl⟩
theorem timedTo_next {w g : List D} {i : Nat} : timedTo w g (i + 1) ↔ (timedTo w g i ∨ rightAt w g i) := by
 constructor
 · rintro (h | ⟨j, hj, h⟩)
   · exact .inl (.inl h)
   · by_cases e : j = i
     · exact .inr (e ▸ h)
     · exact .inl (.inr ⟨j, by omega, h⟩)
 · rintro ((h | ⟨j, hj, h⟩) | h)
   · exact .inl h
   · exact .inr ⟨j, by omega, h⟩
   · exact .inr ⟨i, by omega, h⟩
theorem timedTo_all {w g : List D} : timedTo w g (cell w 14).asList.length ↔ timedP w g := Iff.rfl
def TimerAt (w : List D) (i : Nat) : Prop := (cell (heapR w i) 1).asInt < (cell w 13).asInt ∧ ∀ k, k < i → (cell (heapR w k) 1).asInt ≠ (cell (heapR w i) 1).asInt
def GroupAt (w : List D) (i : Nat) : Prop := timedP w (rowN (cell w 12).asList i) ∧ (cell (rowN (cell w 12).asList i) 2).asInt ≤ (cell w 7).asInt ∧ (cell (rowN (cell w 12).asList i) 3).asInt ≤ (cell w 7).asInt ∧ (cell (rowN (cell w 12).asList i) 0).asInt < (cell w 13).asInt
theorem ok93 : Good1 Tryz.prog Φ g93 := good1 tok mixed (l := [g167, g168, g169]) (by simp [ok167, ok168, ok169]) Tryz.func93 (by decide) (by decide) v93_eq (args1 fun a hw hp => by
 simp [g93, Φ93, mBw] at hp
 obtain ⟨_, h5⟩ := hp
 show v93.wp Φ (fun l => l = [.bool (tt (groupsW a.row))]) [a] _
 unfold v93
 by_cases h1 : GroupsP (cell a.row 12).asList (cell a.row 5).asList ∧ HeapP (cell a.row 14).asList
 · obtain ⟨h1, h2⟩ := h1
   have hl12 := h1.1
   have hl14 := h2.1
   rw [wp_req', wp_ite']
   refine ⟨by simp [Φ93, Φ167, Φ168, Φ169, mBw, mB, mDue], fun h => ?_, fun _ => ?_⟩
   · simp [Φ93, Φ167, Φ168, Φ169, mBw, mB, mDue, h1, h2] at h
   refine loop1_wp (Φ := Φ) (N := (cell a.row 14).asList.length) rfl (fun _ => by simp) (by omega) (fun i => ∀ j, j < i → TimerAt a.row j) (by omega) (fun i hi hI => ?_) (fun hH p => ?_)
   · have hz : ¬ TimerAt a.row i → ¬ groupsW a.row := fun h h' => h (h'.2.2.1 i hi)
     rw [wp_req', wp_ite']
     refine ⟨by simp [hi], fun h => ?_, fun hc => ?_⟩
     · simp [rowAt_nat] at h
       have hz := hz fun h' => by have := h'.1; simp only [heapR] at this; omega
       simp [tt_no _ |>.mpr hz]
     · simp [rowAt_nat] at hc
       refine scan_all (s := 0) (N := i) (fun k => (cell (heapR a.row k) 1).asInt ≠ (cell (heapR a.row i) 1).asInt) rfl (fun d => by simp) (by omega) (by omega) (fun h k _ hk => (h.2.2.1 i hi).2 k hk) (fun k _ hk _ => ?_) fun h k q => ?_
       · simp [rowAt_nat, hi, heapR]
         omega
       · rw [wp_back', setB_ne (by decide)]
         simp
         exact all_next hI ⟨by simp only [heapR]; omega, fun k hk => h k (by omega) hk⟩
   refine loop1_wp (Φ := Φ) (N := (cell a.row 12).asList.length) rfl (fun _ => by simp) (by omega) (fun i => ∀ j, j < i → GroupAt a.row j) (by omega) (fun i hi hI => ?_) (fun hG p => ?_)
   · have hz : ¬ GroupAt a.row i → ¬ groupsW a.row := fun h h' => h (h'.2.2.2 i hi)
     rw [wp_req', wp_req']
     refine ⟨by simp [hi], by simp [h5], ?_⟩
     refine loop2'_wp (N := (cell a.row 14).asList.length) rfl (fun d d' => by simp) (by omega) (fun k x => x = .bool (tt (timedTo a.row (rowN (cell a.row 12).asList i) k))) (by simp [rowAt_nat, timedTo_zero, rowAt4]) (fun k x hk _ hx => ?_) fun x _ hx p => ?_
     · subst hx
       simp [Φ93, Φ167, Φ168, Φ169, mBw, mB, mDue, rowAt_nat, hk, timedTo_next, rightAt, heapR, eq_tt]
     · subst hx
       by_cases hok : GroupAt a.row i
       · have := all_next hI hok
         obtain ⟨k1, k2, k3, k4⟩ := hok
         have k1' := timedTo_all.2 k1
         simp [rowAt_nat, k1', setB_ne (show (0 : Nat) ≠ 1 by decide)]
         grind
       · have hz := tt_no _ |>.mpr (hz hok)
         simp [rowAt_nat, hz, timedTo_all]
         simp only [GroupAt] at hok
         grind
   · have : groupsW a.row := ⟨h1, h2, hH, hG⟩
     simp [tt_ok _ |>.mpr this]
 · have hz : ¬ groupsW a.row := fun h => h1 ⟨h.1, h.2.1⟩
   rw [wp_req', wp_ite']
   refine ⟨by simp [Φ93, Φ167, Φ168, Φ169, mBw, mB, mDue], fun _ => by simp [tt_no _ |>.mpr hz], fun h => ?_⟩
   simp [Φ93, Φ167, Φ168, Φ169, mBw, mB, mDue] at h
   exact absurd h h1)
theorem ok110 : Good1 Tryz.prog Φ g110 := good1 tok mixed (l := [g184, g185, g186]) (by simp [ok184, ok185, ok186]) Tryz.func110 (by decide) (by decide) v110_eq (args1 fun a hw hp => by
 simp [g110, Φ110, mBw] at hp
 obtain ⟨_, h5⟩ := hp
 show v110.wp Φ (fun l => l = [.bool (tt (groupsW a.row))]) [a] _
 unfold v110
 by_cases h1 : GroupsP (cell a.row 12).asList (cell a.row 5).asList ∧ HeapP (cell a.row 14).asList
 · obtain ⟨h1, h2⟩ := h1
   have hl12 := h1.1
   have hl14 := h2.1
   rw [wp_req', wp_ite']
   refine ⟨by simp [Φ110, Φ184, Φ185, Φ186, mBw, mB, mDue], fun h => ?_, fun _ => ?_⟩
   · simp [Φ110, Φ184, Φ185, Φ186, mBw, mB, mDue, h1, h2] at h
   refine loop1_wp (Φ := Φ) (N := (cell a.row 12).asList.length) rfl (fun _ => by simp) (by omega) (fun i => ∀ j, j < i → GroupAt a.row j) (by omega) (fun i hi hI => ?_) (fun hG p => ?_)
   · have hz : ¬ GroupAt a.row i → ¬ groupsW a.row := fun h h' => h (h'.2.2.2 i hi)
     rw [wp_req', wp_ite']
     refine ⟨by simp [hi], fun h => ?_, fun hc => ?_⟩
     · simp [rowAt_nat] at h
       have hz := hz fun h' => by simp only [GroupAt] at h'; omega
       simp [tt_no _ |>.mpr hz]
     rw [wp_req']
     refine ⟨by simp [h5], ?_⟩
     refine loop2'_wp (N := (cell a.row 14).asList.length) rfl (fun d d' => by simp) (by omega) (fun k x => x = .bool (tt (timedTo a.row (rowN (cell a.row 12).asList i) k))) (by simp [rowAt_nat, timedTo_zero, rowAt4]) (fun k x hk _ hx => ?_) fun x _ hx p => ?_
     · subst hx
       simp [Φ110, Φ184, Φ185, Φ186, mBw, mB, mDue, rowAt_nat, hk, timedTo_next, rightAt, heapR, eq_tt]
     · subst hx
       simp [rowAt_nat] at hc
       by_cases hok : timedP a.row (rowN (cell a.row 12).asList i)
       · have := all_next (p := fun j => GroupAt a.row j) hI (show GroupAt a.row i from ⟨hok, by omega, by omega, by omega⟩)
         simp [timedTo_all, hok, setB_ne (show (0 : Nat) ≠ 1 by decide)]
         exact this
       · have hz := tt_no _ |>.mpr (hz fun h => hok h.1)
         simp [hz, timedTo_all, hok]
   refine loop1_wp (Φ := Φ) (N := (cell a.row 14).asList.length) rfl (fun _ => by simp) (by omega) (fun i => ∀ j, j < i → TimerAt a.row j) (by omega) (fun i hi hI => ?_) (fun hH p => ?_)
   · have hz : ¬ TimerAt a.row i → ¬ groupsW a.row := fun h h' => h (h'.2.2.1 i hi)
     rw [wp_req', wp_ite']
     refine ⟨by simp [hi], fun h => ?_, fun hc => ?_⟩
     · simp [rowAt_nat] at h
       have hz := hz fun h' => by have := h'.1; simp only [heapR] at this; omega
       simp [tt_no _ |>.mpr hz]
     · simp [rowAt_nat] at hc
       rw [wp_req']
       refine ⟨by simp; omega, ?_⟩
       refine scan_all (s := 0) (N := i) (fun k => (cell (heapR a.row k) 1).asInt ≠ (cell (heapR a.row i) 1).asInt) rfl (fun d => by simp; omega) (by omega) (by omega) (fun h k _ hk => (h.2.2.1 i hi).2 k hk) (fun k _ hk _ => ?_) fun h k q => ?_
       · simp [rowAt_nat, hi, heapR, rowN_take hk]
         omega
       · rw [wp_back', setB_ne (by decide)]
         simp
         exact all_next hI ⟨by simp only [heapR]; omega, fun k hk => h k (by omega) hk⟩
   · have : groupsW a.row := ⟨h1, h2, hH, hG⟩
     simp [tt_ok _ |>.mpr this]
 · have hz : ¬ groupsW a.row := fun h => h1 ⟨h.1, h.2.1⟩
   rw [wp_req', wp_ite']
   refine ⟨by simp [Φ110, Φ184, Φ185, Φ186, mBw, mB, mDue], fun _ => by simp [tt_no _ |>.mpr hz], fun h => ?_⟩
   simp [Φ110, Φ184, Φ185, Φ186, mBw, mB, mDue] at h
   exact absurd h h1)
end Go.Proofs.YtlkidecpmfhheaaGreat

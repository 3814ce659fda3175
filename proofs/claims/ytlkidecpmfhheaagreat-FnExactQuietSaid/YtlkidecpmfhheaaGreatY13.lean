import Derived.Test.YtlkidecpmfhheaaGreatY12
set_option linter.all false
namespace Go.Proofs.YtlkidecpmfhheaaGreat
open Go.Vx
def LockAt (w : List D) (i k : Nat) : Prop := holdsT (rowN (cell w 17).asList k) (cell w 8).asList.length = (i : Int) ↔ (cell (rowN (cell w 8).asList i) 0).asInt = (k : Int)
def GroupLock (w : List D) (k : Nat) : Prop := HoldsG (rowN (cell w 17).asList k) ↔ (cell w 11).asInt = (k : Int)
theorem ok109 : Good1 Tryz.prog Φ g109 := good1 tok mixed (l := [g104, g182, g183]) (by simp [ok104, ok182, ok183]) Tryz.func109 (by decide) (by decide) v109_eq (args1 fun a hw hp => by
 show v109.wp Φ (fun l => l = [.bool (tt (locksP a.row))]) [a] _
 have hl := wfs_at hw.1 8 rfl
 have hl' := wfs_at hw.1 17 rfl
 refine loop1_wp (Φ := Φ) (N := (cell a.row 8).asList.length) rfl (fun _ => by simp) hl (fun i => ∀ j, j < i → ∀ k, k < (cell a.row 17).asList.length → LockAt a.row j k) (by omega) (fun i hi hI => ?_) (fun hI p => ?_)
 · rw [wp_req']
   refine ⟨by simp [hi], ?_⟩
   refine loop1_wp (Φ := Φ) (N := (cell a.row 17).asList.length) rfl (fun _ => by simp) hl' (fun k => ∀ m, m < k → LockAt a.row i m) (by omega) (fun k hk hJ => ?_) (fun hJ p => ?_)
   · by_cases hok : LockAt a.row i k
     · have := all_next hJ hok
       simp only [LockAt] at hok
       simp [Φ109, Φ104, Φ182, Φ183, mB, mHolds, rowAt_nat, hi, hk]
       exact ⟨fun h => absurd hok h, fun _ => this⟩
     · have hz : ¬ locksP a.row := fun h => hok (h.1 i hi k hk)
       simp only [LockAt] at hok
       simp [Φ109, Φ104, Φ182, Φ183, mB, mHolds, rowAt_nat, hi, hk, tt_no _ |>.mpr hz]
       exact fun h => absurd h hok
   · rw [wp_back', setB_ne (by decide)]
     simp
     exact all_next hI hJ
 · refine scan_all2 (s := 0) (N := (cell a.row 17).asList.length) (GroupLock a.row) rfl (fun d => by simp) hl' (by omega) (fun h i h1 h2 => h.2.1 i h2) (fun i h1 hi _ => ?_) fun h i q => ?_
   · simp [Φ109, Φ104, Φ182, Φ183, mB, mHolds, rowAt_nat, hi, GroupLock]
   · have h' : ∀ k, k < (cell a.row 17).asList.length → GroupLock a.row k := fun k hk => h k (by omega) hk
     simp [Φ109, Φ104, Φ182, Φ183, mB, mHolds, locksP, In]
     exact ⟨fun h => ⟨hI, h', h⟩, fun h => h.2.2⟩)
noncomputable def hold (w : List D) (k : Nat) : Int := holdsT (rowN (cell w 17).asList k) (cell w 8).asList.length
def heldOf (w : List D) (i : Nat) : Int := (cell (rowN (cell w 8).asList i) 0).asInt
def HeldIs (w : List D) (k : Nat) (held : List (List D)) : Prop := held.length = (cell w 8).asList.length ∧ ∀ j, j < (cell w 8).asList.length → ∃ c : Int, rowN held j = [.int c] ∧ (∀ m : Nat, m < k → (hold w m = (j : Int) ↔ c = (m : Int))) ∧ -1 ≤ c ∧ c < k
def GroupIs (w : List D) (k : Nat) (gi : Int) : Prop := (∀ m : Nat, m < k → (HoldsG (rowN (cell w 17).asList m) ↔ gi = (m : Int))) ∧ -1 ≤ gi ∧ gi < k
theorem rowN_set {xs : List (List D)} {i j : Nat} {r : List D} : rowN (xs.set i r) j = if i = j ∧ j < xs.length then r else rowN xs j := by
 unfold rowN
 simp only [List.getD_eq_getElem?_getD, List.getElem?_set]
 by_cases h : i = j
 · subst h
   by_cases hl : i < xs.length <;> simp [hl]
 · simp [h]
theorem held_put {w : List D} {k i : Nat} {held : List (List D)} (h : HeldIs w k held) (hi : i < (cell w 8).asList.length) (hk : hold w k = (i : Int)) (hc : rowN held i = [.int (-1)]) : HeldIs w (k + 1) (held.set i [.int k]) := by
 refine ⟨by simp [h.1], fun j hj => ?_⟩
 obtain ⟨c, h1, h2, h3, h4⟩ := h.2 j hj
 rw [rowN_set]
 by_cases e : i = j
 · subst e
   rw [if_pos ⟨rfl, by rw [h.1]; exact hi⟩]
   refine ⟨k, rfl, fun m hm => ?_, by omega, by omega⟩
   rw [hc] at h1
   simp only [List.cons.injEq, D.int.injEq, and_true] at h1
   by_cases e : m = k
   · subst e; exact ⟨fun _ => rfl, fun _ => hk⟩
   · have := h2 m (by omega); omega
 · rw [if_neg fun h => e h.1]
   refine ⟨c, h1, fun m hm => ?_, h3, by omega⟩
   by_cases e' : m = k
   · subst e'; omega
   · exact h2 m (by omega)
theorem held_keep {w : List D} {k : Nat} {held : List (List D)} (h : HeldIs w k held) (hk : hold w k < 0) : HeldIs w (k + 1) held := by
 refine ⟨h.1, fun j hj => ?_⟩
 obtain ⟨c, h1, h2, h3, h4⟩ := h.2 j hj
 refine ⟨c, h1, fun m hm => ?_, h3, by omega⟩
 by_cases e' : m = k
 · subst e'; omega
 · exact h2 m (by omega)
theorem held_twice {w : List D} {k i : Nat} {held : List (List D)} (h : HeldIs w k held) (hi : i < (cell w 8).asList.length) (hkl : k < (cell w 17).asList.length) (hk : hold w k = (i : Int)) {c : Int} (hc : rowN held i = [.int c]) (hne : c ≠ -1) : ¬ locksP w := fun hp => by
 obtain ⟨c', h1, h2, h3, h4⟩ := h.2 i hi
 rw [hc] at h1
 simp only [List.cons.injEq, D.int.injEq, and_true] at h1
 subst h1
 obtain ⟨m, hm⟩ := Int.eq_ofNat_of_zero_le (show 0 ≤ c by omega)
 have e1 := (hp.1 i hi m (by omega)).1 ((h2 m (by omega)).2 hm)
 have e2 := (hp.1 i hi k hkl).1 hk
 omega
theorem group_twice {w : List D} {k : Nat} {gi : Int} (h : GroupIs w k gi) (hkl : k < (cell w 17).asList.length) (hk : HoldsG (rowN (cell w 17).asList k)) (hne : gi ≠ -1) : ¬ locksP w := fun hp => by
 obtain ⟨m, hm⟩ := Int.eq_ofNat_of_zero_le (show 0 ≤ gi by have := h.2.1; omega)
 have e1 := (hp.2.1 m (by have := h.2.2; omega)).1 ((h.1 m (by have := h.2.2; omega)).2 hm)
 have e2 := (hp.2.1 k hkl).1 hk
 have := h.2.2
 omega
theorem group_put {w : List D} {k : Nat} (h : GroupIs w k (-1)) (hk : HoldsG (rowN (cell w 17).asList k)) : GroupIs w (k + 1) k := by
 refine ⟨fun m hm => ?_, by omega, by omega⟩
 by_cases e : m = k
 · subst e; exact ⟨fun _ => rfl, fun _ => hk⟩
 · have := h.1 m (by omega)
   constructor
   · intro hg; have := this.1 hg; omega
   · intro he; omega
theorem group_keep {w : List D} {k : Nat} {gi : Int} (h : GroupIs w k gi) (hk : ¬ HoldsG (rowN (cell w 17).asList k)) : GroupIs w (k + 1) gi := by
 refine ⟨fun m hm => ?_, h.2.1, by have := h.2.2; omega⟩
 by_cases e : m = k
 · subst e; exact ⟨fun hg => absurd hg hk, fun he => by have := h.2.2; omega⟩
 · exact h.1 m (by omega)
theorem locks_at {w : List D} {i : Nat} {held : List (List D)} (hh : heldP w) (h : HeldIs w 5 held) (hp : locksP w) (hi : i < (cell w 8).asList.length) : rowN held i = [.int (heldOf w i)] := by
 obtain ⟨c, h1, h2, h3, h4⟩ := h.2 i hi
 rw [h1]
 have hin := hh.2.1 i hi
 simp only [In] at hin
 have hlk := hh.1
 have : c = heldOf w i := by
   unfold heldOf
   by_cases hc : 0 ≤ c
   · obtain ⟨m, hm⟩ := Int.eq_ofNat_of_zero_le hc
     have := (hp.1 i hi m (by omega)).1 ((h2 m (by omega)).2 hm)
     omega
   · by_cases hd : 0 ≤ (cell (rowN (cell w 8).asList i) 0).asInt
     · obtain ⟨m, hm⟩ := Int.eq_ofNat_of_zero_le hd
       have := (h2 m (by omega)).1 ((hp.1 i hi m (by omega)).2 hm)
       omega
     · omega
 rw [this]
theorem locks_end {w : List D} {held : List (List D)} {gi : Int} (hh : heldP w) (h : HeldIs w 5 held) (hg : GroupIs w 5 gi) (he : ∀ i, i < (cell w 8).asList.length → rowN held i = [.int (heldOf w i)]) : locksP w ↔ (cell w 11).asInt = gi := by
 have hlk := hh.1
 constructor
 · intro hp
   have hin := hp.2.2
   simp only [In] at hin
   by_cases hc : 0 ≤ gi
   · obtain ⟨m, hm⟩ := Int.eq_ofNat_of_zero_le hc
     have := (hp.2.1 m (by have := hg.2.2; omega)).1 ((hg.1 m (by have := hg.2.2; omega)).2 hm)
     omega
   · by_cases hd : 0 ≤ (cell w 11).asInt
     · obtain ⟨m, hm⟩ := Int.eq_ofNat_of_zero_le hd
       have := (hg.1 m (by omega)).1 ((hp.2.1 m (by omega)).2 hm)
       omega
     · have := hg.2.1; omega
 · intro e
   refine ⟨fun i hi k hk => ?_, fun k hk => ?_, ?_⟩
   · obtain ⟨c, h1, h2, h3, h4⟩ := h.2 i hi
     rw [he i hi] at h1
     simp only [List.cons.injEq, D.int.injEq, and_true] at h1
     have := h2 k (by omega)
     rw [← h1] at this
     exact this
   · rw [e]; exact hg.1 k (by omega)
   · rw [e]; exact ⟨hg.2.1, by have := hg.2.2; omega⟩
end Go.Proofs.YtlkidecpmfhheaaGreat

import Derived.Test.YtlkidecpmfhheaaGreatY8
set_option linter.all false
namespace Go.Proofs.YtlkidecpmfhheaaGreat
open Go.Vx
def GroupsAt (l by' : List (List D)) (i : Nat) : Prop := GroupP (rowN l i) by' ∧ (0 < i → (cell (rowN l (i - 1)) 0).asInt < (cell (rowN l i) 0).asInt) ∧ ∀ k, k < i → eqR (eqDs kLabel) (cell (rowN l k) 1).asList (cell (rowN l i) 1).asList = false
theorem ok167 : Good1 Tryz.prog Φ g167 := good1 tok mixed (l := [g163, g234]) (by simp [ok163, ok234]) Tryz.func167 (by decide) (by decide) v167_eq (args2 fun a b hw hp => by
 simp [g167, lenMax] at hw
 show v167.wp Φ (fun l => l = [.bool (tt (GroupsP a.asList b.asList))]) [a, b] _
 refine loop1_wp (Φ := Φ) (N := a.asList.length) rfl (fun _ => by simp) (by omega) (fun i => ∀ j, j < i → GroupsAt a.asList b.asList j) (by omega) (fun i hi hI => ?_) (fun hI p => ?_)
 · have hp0 : 0 < i → Go.Vx.rowAt a.asList ((i : Int) - 1) = rowN a.asList (i - 1) := fun h => pred_at _ h
   have hq := pred64 (i := i) (by omega)
   rw [wp_req', wp_ite']
   refine ⟨by simp [Φ167, Φ163, Φ234, mB, mEqL, rowAt_nat, hi, hq]; omega, fun hc => ?_, fun hc => ?_⟩
   · have : ¬ GroupsP a.asList b.asList := fun hp => by
       have := hp.2 i hi
       by_cases h0 : 0 < i
       · simp [Φ167, Φ163, Φ234, mB, mEqL, rowAt_nat, hq, hp0 h0, h0] at hc
         grind
       · have : i = 0 := by omega
         subst this
         simp [Φ167, Φ163, Φ234, mB, mEqL, rowAt_0] at hc
         grind
     simp [tt_no _ |>.mpr this]
   · have hc' : GroupP (rowN a.asList i) b.asList ∧ (0 < i → (cell (rowN a.asList (i - 1)) 0).asInt < (cell (rowN a.asList i) 0).asInt) := by
       by_cases h0 : 0 < i
       · simp [Φ167, Φ163, Φ234, mB, mEqL, rowAt_nat, hq, hp0 h0, h0] at hc
         grind
       · have : i = 0 := by omega
         subst this
         simp [Φ167, Φ163, Φ234, mB, mEqL, rowAt_0] at hc
         grind
     refine loop1_wp (Φ := Φ) (N := i) rfl (fun _ => by simp) (by omega) (fun m => ∀ q, q < m → eqR (eqDs kLabel) (cell (rowN a.asList q) 1).asList (cell (rowN a.asList i) 1).asList = false) (by omega) (fun m hm hJ => ?_) (fun hJ p => ?_)
     · simp [Φ167, Φ163, Φ234, mB, mEqL, rowAt_nat, hi, show m < a.asList.length by omega]
       refine ⟨fun h => fun hp => ?_, fun h => all_next hJ h⟩
       have := (hp.2 i hi).2.2 m hm
       rw [h] at this; cases this
     · rw [wp_back', setB_ne (by decide)]
       simp
       exact all_next hI ⟨hc'.1, hc'.2, hJ⟩
 · simp [GroupsP]
   exact ⟨fun h => ⟨by omega, fun i hi => hI i hi⟩, fun h => by omega⟩)
theorem ok184 : Good1 Tryz.prog Φ g184 := good1 tok mixed (l := [g251, g252]) (by simp [ok251, ok252]) Tryz.func184 (by decide) (by decide) v184_eq (args2 fun a b hw hp => by
 simp [g184, lenMax] at hw
 show v184.wp Φ (fun l => l = [.bool (tt (GroupsP a.asList b.asList))]) [a, b] _
 have first : ∀ i, i < a.asList.length → ((findR (fun g => eqR (eqDs kLabel) (cell g 1).asList (cell (rowN a.asList i) 1).asList = true) a.asList 0 = (i : Int)) ↔ ∀ k, k < i → eqR (eqDs kLabel) (cell (rowN a.asList k) 1).asList (cell (rowN a.asList i) 1).asList = false) := fun i hi => by
   constructor
   · intro h k hk
     rcases findR_cases (fun g => eqR (eqDs kLabel) (cell g 1).asList (cell (rowN a.asList i) 1).asList = true) a.asList with ⟨e, _⟩ | ⟨j, hj, e, _, h2⟩
     · rw [e] at h; omega
     · rw [e] at h
       have := h2 k (by omega)
       simpa using this
   · intro h
     exact findR_eq (p := fun g => eqR (eqDs kLabel) (cell g 1).asList (cell (rowN a.asList i) 1).asList = true) hi (fun j _ hj => by simpa using h j hj) (eqL_self _)
 refine scan_all2 (s := 0) (N := a.asList.length) (fun i => i < 12 ∧ GroupsAt a.asList b.asList i) rfl (fun d => by simp) (by omega) (by omega) (fun h i h1 h2 => ⟨by have := h.1; omega, h.2 i h2⟩) (fun i h1 hi _ => ?_) fun h i q => ?_
 · have hf := first i hi
   by_cases h0 : 0 < i
   · simp [Φ184, show Φ 251 = mB _ from rfl, Φ252, mB, mGroupOf, rowAt_nat, hi, pred_at _ h0, pred64 (i := i) (by omega), h0, GroupsAt, ← hf]
     grind
   · have : i = 0 := by omega
     subst this
     have hf : findR (fun g => eqR (eqDs kLabel) (cell g 1).asList (cell (rowN a.asList 0) 1).asList = true) a.asList 0 = 0 := hf.2 fun k hk => by omega
     simp [Φ184, show Φ 251 = mB _ from rfl, Φ252, mB, mGroupOf, rowAt_0, hi, GroupsAt, hf]
 · simp [GroupsP]
   refine ⟨?_, fun i hi => (h i (by omega) hi).2⟩
   by_cases h12 : a.asList.length ≤ 12
   · exact h12
   · have := (h 12 (by omega) (by omega)).1; omega)
theorem szSt (r : List D) : (cell r 8).asList.length + sumR (szDs kPart) (cell r 8).asList ≤ szDs kWorld r := by
 simp only [szDs_cons, szDs_nil, szD, cell_tail, Nat.zero_add, Nat.reduceAdd]
 omega
def verP (w t : List D) (i : Nat) : Prop := (cell (rowN (cell t 8).asList i) 0).asInt = (cell (rowN (cell w 8).asList i) 1).asInt
def leP (w t : List D) (i : Nat) : Prop := (cell (rowN (cell t 8).asList i) 0).asInt ≤ (cell (rowN (cell w 8).asList i) 1).asInt
theorem seenW_eq (w t : List D) : seenW w t ↔ (∀ i, i < (cell t 8).asList.length → leP w t i) ∧ ((∀ i, i < (cell t 8).asList.length → verP w t i) → eqR (eqDs kAlarm) (cell t 9).asList (((cell w 8).asList.take (cell t 8).asList.length).flatMap partA) = true) := Iff.rfl
theorem eqRs_symm (ks : List K) (xs ys : List (List D)) : eqR (eqDs ks) xs ys = eqR (eqDs ks) ys xs := eqR_symm' (fun x y => eqDs_symm ks x y) xs ys
end Go.Proofs.YtlkidecpmfhheaaGreat

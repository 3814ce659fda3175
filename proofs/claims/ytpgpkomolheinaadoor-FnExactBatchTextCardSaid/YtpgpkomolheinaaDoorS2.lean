/-
  Contracts: names, plain texts, labels, alarms.
-/
import Derived.Test.YtpgpkomolheinaaDoorSH
import Derived.Test.YtpgpkomolheinaaDoorSF
namespace Go.Proofs.YtpgpkomolheinaaDoor
open Go.Vx

theorem ok39 : Good1 Tryd.prog Φ g39 := good1 tok mixed (l := []) (by simp) Tryd.func39 (by decide) (by decide) v39_eq (args3 fun a b c hw hp => by
  simp [v39, g39, show Φ 39 = mB _ from rfl, mB]
  done)
theorem ok41 : Good1 Tryd.prog Φ g41 := good1 tok mixed (l := []) (by simp) Tryd.func41 (by decide) (by decide) v41_eq (args3 fun a b c hw hp => by
  simp [v41, g41, show Φ 41 = mB _ from rfl, mB]
  done)
theorem ok46 : Good1 Tryd.prog Φ g46 := good1 tok mixed (l := []) (by simp) Tryd.func46 (by decide) (by decide) v46_eq (args2 fun a b hw hp => by
  simp [v46, g46, show Φ 46 = mB _ from rfl, mB]
  rw [Bool.eq_iff_iff]; simp)

theorem tt_true {p : Prop} (h : p) : tt p = true := by simpa using h
theorem tt_false {p : Prop} (h : ¬ p) : tt p = false := by simpa using h

theorem all_next {p : Nat → Prop} {i : Nat} (h : ∀ j, j < i → p j) (hi : p i) : ∀ j, j < i + 1 → p j := fun j hj => by
  by_cases e : j = i
  · exact e ▸ hi
  · exact h j (by omega)

theorem ok51 : Good1 Tryd.prog Φ g51 := good1 tok mixed (l := [g39]) (by simp [ok39]) Tryd.func51 (by decide) (by decide) v51_eq (args1 fun a hw hp => by
  simp [g51, lenMax] at hw
  refine loop1_wp (Φ := Φ) (N := a.asStr.size) rfl (fun _ => by simp) (by omega) (fun i => ∀ j, j < i → NameB a.asStr j) (by omega) (fun i hi hI => ?_) (fun hI p => ?_)
  · simp [g51, show Φ 51 = mB _ from rfl, mB, hi]
    refine ⟨by omega, fun h => ?_, fun h1 h2 => all_next hI ⟨by unfold byte; omega, by unfold byte; omega⟩⟩
    rintro ⟨-, h3⟩
    have := h3 i hi
    simp only [NameB, byte] at this
    omega
  · simp [g51, show Φ 51 = mB _ from rfl, show Φ 39 = mB _ from rfl, mB, NameOk, -tt_ok]
    congr 1
    exact ⟨fun h => ⟨by omega, hI⟩, fun h => by omega⟩)
theorem ok53 : Good1 Tryd.prog Φ g53 := good1 tok mixed (l := [g41]) (by simp [ok41]) Tryd.func53 (by decide) (by decide) v53_eq (args1 fun a hw hp => by
  simp [g53, lenMax] at hw
  unfold v53
  rw [wp_req', wp_ite']
  refine ⟨by simp [show Φ 41 = mB _ from rfl, mB], fun h => ?_, fun h => ?_⟩
  · simp [g53, show Φ 53 = mB _ from rfl, show Φ 41 = mB _ from rfl, mB, NameOk] at h ⊢
    intro h1 h2; omega
  simp [show Φ 41 = mB _ from rfl, mB] at h
  refine loop1_wp (Φ := Φ) (N := a.asStr.size) rfl (fun _ => by simp) (by omega) (fun i => ∀ j, j < i → NameB a.asStr j) (by omega) (fun i hi hI => ?_) (fun hI p => ?_)
  · simp [g53, show Φ 53 = mB _ from rfl, mB, hi]
    refine ⟨by omega, fun h => ?_, fun h1 h2 => all_next hI ⟨by unfold byte; omega, by unfold byte; omega⟩⟩
    rintro ⟨-, h3⟩
    have := h3 i hi
    simp only [NameB, byte] at this
    omega
  · simp [g53, show Φ 53 = mB _ from rfl, mB, NameOk]
    exact ⟨by omega, hI⟩)
theorem ok40 : Good1 Tryd.prog Φ g40 := good1 tok mixed (l := []) (by simp) Tryd.func40 (by decide) (by decide) v40_eq (args1 fun a hw hp => by
  simp [g40, lenMax] at hw
  refine loop1_wp (Φ := Φ) (N := a.asStr.size) rfl (fun _ => by simp) (by omega) (fun i => ∀ j, j < i → PlainB a.asStr j) (by omega) (fun i hi hI => ?_) (fun hI p => ?_)
  · simp [g40, show Φ 40 = mB _ from rfl, mB, hi]
    refine ⟨by omega, fun h => ?_, fun h1 h2 h3 h4 => all_next hI ⟨by unfold byte; omega, by unfold byte; omega, by unfold byte; omega, by unfold byte; omega⟩⟩
    rintro ⟨-, h3⟩
    have := h3 i hi
    simp only [PlainB, byte] at this
    omega
  · simp [g40, show Φ 40 = mB _ from rfl, mB, PlainOk, -tt_ok]
    congr 1
    exact ⟨fun h => ⟨by omega, hI⟩, fun h => by omega⟩)
theorem ok42 : Good1 Tryd.prog Φ g42 := good1 tok mixed (l := []) (by simp) Tryd.func42 (by decide) (by decide) v42_eq (args1 fun a hw hp => by
  simp [g42, lenMax] at hw
  unfold v42
  rw [wp_ite']
  refine ⟨fun h => ?_, fun h => ?_⟩
  · simp [g42, show Φ 42 = mB _ from rfl, mB, PlainOk] at h ⊢
    intro h1; omega
  simp at h
  refine loop1_wp (Φ := Φ) (N := a.asStr.size) rfl (fun _ => by simp) (by omega) (fun i => ∀ j, j < i → PlainB a.asStr j) (by omega) (fun i hi hI => ?_) (fun hI p => ?_)
  · simp [g42, show Φ 42 = mB _ from rfl, mB, hi]
    refine ⟨by omega, fun h => ?_, fun h1 h2 h3 h4 => all_next hI ⟨by unfold byte; omega, by unfold byte; omega, by unfold byte; omega, by unfold byte; omega⟩⟩
    rintro ⟨-, h3⟩
    have := h3 i hi
    simp only [PlainB, byte] at this
    omega
  · simp [g42, show Φ 42 = mB _ from rfl, mB, PlainOk]
    exact ⟨by omega, hI⟩)
theorem ok45 : Good1 Tryd.prog Φ g45 := good1 tok mixed (l := [g40, g51]) (by simp [ok51, ok40]) Tryd.func45 (by decide) (by decide) v45_eq (args1 fun a hw hp => by
  simp [v45, g45, show Φ 45 = mB _ from rfl, show Φ 51 = mB _ from rfl, show Φ 40 = mB _ from rfl, mB, LabOk])
theorem ok48 : Good1 Tryd.prog Φ g48 := good1 tok mixed (l := [g42, g53]) (by simp [ok53, ok42]) Tryd.func48 (by decide) (by decide) v48_eq (args1 fun a hw hp => by
  simp [v48, g48, show Φ 48 = mB _ from rfl, show Φ 53 = mB _ from rfl, show Φ 42 = mB _ from rfl, mB, LabOk])

theorem setAt_iff (xs : List (List D)) (i : Nat) (h : i ≤ 140737488355328) : SetAt xs i ↔ LabOk (rowN xs i) ∧ (0 < i → Op.bytesLess (cell (Go.Vx.rowAt xs (IntKind.i64.wrap ((i : Int) - 1))) 0).asStr.toList (cell (rowN xs i) 0).asStr.toList = true) := by
  unfold SetAt
  by_cases e : 0 < i
  · rw [w64 (by omega) (by omega), show ((i : Int) - 1) = ((i - 1 : Nat) : Int) by omega, Go.Vx.rowAt_nat]
  · simp [e]
theorem wrap_pred (i : Nat) (h : i ≤ 140737488355328) : i = 0 ∨ IntKind.i64.wrap ((i : Int) - 1) = (i : Int) - 1 := by
  by_cases e : i = 0
  · exact .inl e
  · exact .inr (w64 (by omega) (by omega))

theorem ok34 : Good1 Tryd.prog Φ g34 := good1 tok mixed (l := [g45, g46]) (by simp [ok45, ok46]) Tryd.func34 (by decide) (by decide) v34_eq (args1 fun a hw hp => by
  simp [g34, lenMax] at hw
  refine loop1_wp (Φ := Φ) (N := a.asList.length) rfl (fun _ => by simp) (by omega) (fun i => ∀ j, j < i → SetAt a.asList j) (by omega) (fun i hi hI => ?_) (fun hI p => ?_)
  · have hs := setAt_iff a.asList i (by omega)
    have hw' := wrap_pred i (by omega)
    have hno : ¬ SetAt a.asList i → ¬ SetOk a.asList := fun h h' => h (h'.2 i hi)
    simp [rowAt_nat, g34, show Φ 34 = mB _ from rfl, show Φ 45 = mB _ from rfl, show Φ 46 = mB _ from rfl, mB, hi]
    generalize IntKind.i64.wrap ((i : Int) - 1) = W at hs hw' ⊢
    generalize Op.bytesLess (cell (Go.Vx.rowAt a.asList W) 0).asStr.toList (cell (rowN a.asList i) 0).asStr.toList = b at hs ⊢
    generalize LabOk (rowN a.asList i) = L at hs ⊢
    refine ⟨⟨by omega, by omega, ?_, ?_⟩, fun h => hno fun h' => ?_, fun h1 h2 => all_next hI (hs.2 ⟨h1, h2⟩)⟩
    · by_cases hL : L <;> simp [hL]
    · by_cases hL : L <;> simp [hL]
    · obtain ⟨h1, h2⟩ := hs.1 h'
      rcases h with h | ⟨h3, h4⟩
      · exact h h1
      · rw [h2 h3] at h4; cases h4
  · simp [g34, show Φ 34 = mB _ from rfl, mB, SetOk, -tt_ok]
    congr 1
    exact ⟨fun h => ⟨by omega, hI⟩, fun h => by omega⟩)

theorem ok37 : Good1 Tryd.prog Φ g37 := good1 tok mixed (l := [g48]) (by simp [ok48]) Tryd.func37 (by decide) (by decide) v37_eq (args1 fun a hw hp => by
  simp [g37, lenMax] at hw
  refine loop1_wp (Φ := Φ) (N := a.asList.length) rfl (fun _ => by simp) (by omega) (fun i => i ≤ 4 ∧ ∀ j, j < i → SetAt a.asList j) ⟨by omega, by omega⟩ (fun i hi ⟨hi4, hI⟩ => ?_) (fun ⟨hi4, hI⟩ p => ?_)
  · have hs := setAt_iff a.asList i (by omega)
    have hw' := wrap_pred i (by omega)
    have hno : ¬ SetAt a.asList i → ¬ SetOk a.asList := fun h h' => h (h'.2 i hi)
    have hno4 : ¬ i < 4 → ¬ SetOk a.asList := fun h h' => by have := h'.1; omega
    simp [rowAt_nat, g37, show Φ 37 = mB _ from rfl, show Φ 48 = mB _ from rfl, mB, hi]
    generalize IntKind.i64.wrap ((i : Int) - 1) = W at hs hw' ⊢
    generalize Op.bytesLess (cell (Go.Vx.rowAt a.asList W) 0).asStr.toList (cell (rowN a.asList i) 0).asStr.toList = b at hs ⊢
    generalize LabOk (rowN a.asList i) = L at hs ⊢
    by_cases hi' : i < 4
    · have e1 : ((i : Int) < 4) = True := by simp; omega
      have e2 : ((4 : Int) ≤ i) = False := by simp; omega
      simp only [e1, e2]
      by_cases hL : L
      · have e0 : L = True := by simp [hL]
        subst e0
        simp at hs ⊢
        refine ⟨by omega, fun h3 h4 => hno fun h' => ?_, fun h2 => ⟨by omega, all_next hI (hs.2 h2)⟩⟩
        rw [hs.1 h' h3] at h4; cases h4
      · have e0 : L = False := by simp [hL]
        subst e0
        simp at hs ⊢
        exact hno hs
    · have e1 : ((i : Int) < 4) = False := by simp; omega
      have e2 : ((4 : Int) ≤ i) = True := by simp; omega
      simp only [e1, e2]
      simp
      exact hno4 hi'
  · simp [g37, show Φ 37 = mB _ from rfl, mB, SetOk]
    exact ⟨by omega, hI⟩)
theorem ok28 : Good1 Tryd.prog Φ g28 := good1 tok mixed (l := [g34, g39, g40]) (by simp [ok34, ok39, ok40]) Tryd.func28 (by decide) (by decide) v28_eq (args1 fun a hw hp => by
  simp [v28, g28, show Φ 28 = mB _ from rfl, show Φ 34 = mB _ from rfl, show Φ 39 = mB _ from rfl, show Φ 40 = mB _ from rfl, mB, AlOk, -tt_ok]
  simp only [and_assoc])
theorem ok29 : Good1 Tryd.prog Φ g29 := good1 tok mixed (l := [g37, g41, g42]) (by simp [ok37, ok41, ok42]) Tryd.func29 (by decide) (by decide) v29_eq (args1 fun a hw hp => by
  simp [v29, g29, show Φ 29 = mB _ from rfl, show Φ 37 = mB _ from rfl, show Φ 41 = mB _ from rfl, show Φ 42 = mB _ from rfl, mB, AlOk, -tt_ok]
  exact ⟨fun ⟨⟨⟨⟨h1, h2⟩, h3⟩, h4⟩, h5⟩ => ⟨⟨h2, h1⟩, h3, h4, h5⟩, fun ⟨⟨h2, h1⟩, h3, h4, h5⟩ => ⟨⟨⟨⟨h1, h2⟩, h3⟩, h4⟩, h5⟩⟩)
end Go.Proofs.YtpgpkomolheinaaDoor

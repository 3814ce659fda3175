/-
  Contracts: names, plain texts, labels, alarms.
-/
import Derived.Test.YthibophjhdoooaaDoorSH
set_option linter.unusedVariables false
set_option linter.unusedSimpArgs false
namespace Go.Proofs.YthibophjhdoooaaDoor
open Go.Vx

theorem ok50 : Good1 Tryd.prog Φ g50 := good1 tok mixed (l := []) (by simp) Tryd.func50 (by decide) (by decide) v50_eq (args3 fun a b c hw hp => by
  simp [v50, g50, show Φ 50 = mB _ from rfl, mB]
  done)
theorem ok31 : Good1 Tryd.prog Φ g31 := good1 tok mixed (l := []) (by simp) Tryd.func31 (by decide) (by decide) v31_eq (args3 fun a b c hw hp => by
  simp [v31, g31, show Φ 31 = mB _ from rfl, mB]
  done)
theorem ok75 : Good1 Tryd.prog Φ g75 := good1 tok mixed (l := []) (by simp) Tryd.func75 (by decide) (by decide) v75_eq (args2 fun a b hw hp => by
  simp [v75, g75, show Φ 75 = mB _ from rfl, mB]
  rw [Bool.eq_iff_iff]; simp)

theorem tt_true {p : Prop} (h : p) : tt p = true := by simpa using h
theorem tt_false {p : Prop} (h : ¬ p) : tt p = false := by simpa using h

theorem all_next {p : Nat → Prop} {i : Nat} (h : ∀ j, j < i → p j) (hi : p i) : ∀ j, j < i + 1 → p j := fun j hj => by
  by_cases e : j = i
  · exact e ▸ hi
  · exact h j (by omega)

theorem ok84 : Good1 Tryd.prog Φ g84 := good1 tok mixed (l := [g50]) (by simp [ok50]) Tryd.func84 (by decide) (by decide) v84_eq (args1 fun a hw hp => by
  simp [g84, lenMax] at hw
  refine loop1_wp (Φ := Φ) (N := a.asStr.size) rfl (fun _ => by simp) (by omega) (fun i => ∀ j, j < i → NameB a.asStr j) (by omega) (fun i hi hI => ?_) (fun hI p => ?_)
  · simp [g84, show Φ 84 = mB _ from rfl, mB, hi]
    refine ⟨by omega, fun h => ?_, fun h1 h2 => all_next hI ⟨by unfold byte; omega, by unfold byte; omega⟩⟩
    rintro ⟨-, h3⟩
    have := h3 i hi
    simp only [NameB, byte] at this
    omega
  · simp [g84, show Φ 84 = mB _ from rfl, show Φ 50 = mB _ from rfl, mB, NameOk, -tt_ok]
    congr 1
    exact ⟨fun h => ⟨by omega, hI⟩, fun h => by omega⟩)
theorem ok65 : Good1 Tryd.prog Φ g65 := good1 tok mixed (l := [g31]) (by simp [ok31]) Tryd.func65 (by decide) (by decide) v65_eq (args1 fun a hw hp => by
  simp [g65, lenMax] at hw
  unfold v65
  rw [wp_req', wp_ite']
  refine ⟨by simp [show Φ 31 = mB _ from rfl, mB], fun h => ?_, fun h => ?_⟩
  · simp [g65, show Φ 65 = mB _ from rfl, show Φ 31 = mB _ from rfl, mB, NameOk] at h ⊢
    intro h1 h2; omega
  simp [show Φ 31 = mB _ from rfl, mB] at h
  refine loop1_wp (Φ := Φ) (N := a.asStr.size) rfl (fun _ => by simp) (by omega) (fun i => ∀ j, j < i → NameB a.asStr j) (by omega) (fun i hi hI => ?_) (fun hI p => ?_)
  · simp [g65, show Φ 65 = mB _ from rfl, mB, hi]
    refine ⟨by omega, fun h => ?_, fun h1 h2 => all_next hI ⟨by unfold byte; omega, by unfold byte; omega⟩⟩
    rintro ⟨-, h3⟩
    have := h3 i hi
    simp only [NameB, byte] at this
    omega
  · simp [g65, show Φ 65 = mB _ from rfl, mB, NameOk]
    exact ⟨by omega, hI⟩)
theorem ok64 : Good1 Tryd.prog Φ g64 := good1 tok mixed (l := []) (by simp) Tryd.func64 (by decide) (by decide) v64_eq (args1 fun a hw hp => by
  simp [g64, lenMax] at hw
  refine loop1_wp (Φ := Φ) (N := a.asStr.size) rfl (fun _ => by simp) (by omega) (fun i => ∀ j, j < i → PlainB a.asStr j) (by omega) (fun i hi hI => ?_) (fun hI p => ?_)
  · simp [g64, show Φ 64 = mB _ from rfl, mB, hi]
    refine ⟨by omega, fun h => ?_, fun h1 h2 h3 h4 => all_next hI ⟨by unfold byte; omega, by unfold byte; omega, by unfold byte; omega, by unfold byte; omega⟩⟩
    rintro ⟨-, h3⟩
    have := h3 i hi
    simp only [PlainB, byte] at this
    omega
  · simp [g64, show Φ 64 = mB _ from rfl, mB, PlainOk, -tt_ok]
    congr 1
    exact ⟨fun h => ⟨by omega, hI⟩, fun h => by omega⟩)
theorem ok32 : Good1 Tryd.prog Φ g32 := good1 tok mixed (l := []) (by simp) Tryd.func32 (by decide) (by decide) v32_eq (args1 fun a hw hp => by
  simp [g32, lenMax] at hw
  unfold v32
  rw [wp_ite']
  refine ⟨fun h => ?_, fun h => ?_⟩
  · simp [g32, show Φ 32 = mB _ from rfl, mB, PlainOk] at h ⊢
    intro h1; omega
  simp at h
  refine loop1_wp (Φ := Φ) (N := a.asStr.size) rfl (fun _ => by simp) (by omega) (fun i => ∀ j, j < i → PlainB a.asStr j) (by omega) (fun i hi hI => ?_) (fun hI p => ?_)
  · simp [g32, show Φ 32 = mB _ from rfl, mB, hi]
    refine ⟨by omega, fun h => ?_, fun h1 h2 h3 h4 => all_next hI ⟨by unfold byte; omega, by unfold byte; omega, by unfold byte; omega, by unfold byte; omega⟩⟩
    rintro ⟨-, h3⟩
    have := h3 i hi
    simp only [PlainB, byte] at this
    omega
  · simp [g32, show Φ 32 = mB _ from rfl, mB, PlainOk]
    exact ⟨by omega, hI⟩)
theorem ok74 : Good1 Tryd.prog Φ g74 := good1 tok mixed (l := [g64, g84]) (by simp [ok84, ok64]) Tryd.func74 (by decide) (by decide) v74_eq (args1 fun a hw hp => by
  simp [v74, g74, show Φ 74 = mB _ from rfl, show Φ 84 = mB _ from rfl, show Φ 64 = mB _ from rfl, mB, LabOk])
theorem ok51 : Good1 Tryd.prog Φ g51 := good1 tok mixed (l := [g32, g65]) (by simp [ok65, ok32]) Tryd.func51 (by decide) (by decide) v51_eq (args1 fun a hw hp => by
  simp [v51, g51, show Φ 51 = mB _ from rfl, show Φ 65 = mB _ from rfl, show Φ 32 = mB _ from rfl, mB, LabOk])

theorem setAt_iff (xs : List (List D)) (i : Nat) (h : i ≤ 140737488355328) : SetAt xs i ↔ LabOk (rowN xs i) ∧ (0 < i → Op.bytesLess (cell (Go.Vx.rowAt xs (IntKind.i64.wrap ((i : Int) - 1))) 0).asStr.toList (cell (rowN xs i) 0).asStr.toList = true) := by
  unfold SetAt
  by_cases e : 0 < i
  · rw [w64 (by omega) (by omega), show ((i : Int) - 1) = ((i - 1 : Nat) : Int) by omega, Go.Vx.rowAt_nat]
  · simp [e]
theorem wrap_pred (i : Nat) (h : i ≤ 140737488355328) : i = 0 ∨ IntKind.i64.wrap ((i : Int) - 1) = (i : Int) - 1 := by
  by_cases e : i = 0
  · exact .inl e
  · exact .inr (w64 (by omega) (by omega))

theorem ok63 : Good1 Tryd.prog Φ g63 := good1 tok mixed (l := [g74, g75]) (by simp [ok74, ok75]) Tryd.func63 (by decide) (by decide) v63_eq (args1 fun a hw hp => by
  simp [g63, lenMax] at hw
  refine loop1_wp (Φ := Φ) (N := a.asList.length) rfl (fun _ => by simp) (by omega) (fun i => ∀ j, j < i → SetAt a.asList j) (by omega) (fun i hi hI => ?_) (fun hI p => ?_)
  · have hs := setAt_iff a.asList i (by omega)
    have hw' := wrap_pred i (by omega)
    have hno : ¬ SetAt a.asList i → ¬ SetOk a.asList := fun h h' => h (h'.2 i hi)
    simp [rowAt_nat, g63, show Φ 63 = mB _ from rfl, show Φ 74 = mB _ from rfl, show Φ 75 = mB _ from rfl, mB, hi]
    generalize IntKind.i64.wrap ((i : Int) - 1) = W at hs hw' ⊢
    generalize Op.bytesLess (cell (Go.Vx.rowAt a.asList W) 0).asStr.toList (cell (rowN a.asList i) 0).asStr.toList = b at hs ⊢
    generalize LabOk (rowN a.asList i) = L at hs ⊢
    refine ⟨⟨by omega, by omega, ?_, ?_⟩, fun h => hno fun h' => ?_, fun h1 h2 => all_next hI (hs.2 ⟨h1, h2⟩)⟩
    · by_cases hL : L <;> simp [hL]
    · by_cases hL : L <;> simp [hL]
    · obtain ⟨h1, h2⟩ := hs.1 h'
      rcases h with h | ⟨h3, h4⟩
      · exact h h1
      · rw [h2 h3] at h4; cases h4
  · simp [g63, show Φ 63 = mB _ from rfl, mB, SetOk, -tt_ok]
    congr 1
    exact ⟨fun h => ⟨by omega, hI⟩, fun h => by omega⟩)

theorem ok30 : Good1 Tryd.prog Φ g30 := good1 tok mixed (l := [g51]) (by simp [ok51]) Tryd.func30 (by decide) (by decide) v30_eq (args1 fun a hw hp => by
  simp [g30, lenMax] at hw
  refine loop1_wp (Φ := Φ) (N := a.asList.length) rfl (fun _ => by simp) (by omega) (fun i => i ≤ 4 ∧ ∀ j, j < i → SetAt a.asList j) ⟨by omega, by omega⟩ (fun i hi ⟨hi4, hI⟩ => ?_) (fun ⟨hi4, hI⟩ p => ?_)
  · have hs := setAt_iff a.asList i (by omega)
    have hw' := wrap_pred i (by omega)
    have hno : ¬ SetAt a.asList i → ¬ SetOk a.asList := fun h h' => h (h'.2 i hi)
    have hno4 : ¬ i < 4 → ¬ SetOk a.asList := fun h h' => by have := h'.1; omega
    simp [rowAt_nat, g30, show Φ 30 = mB _ from rfl, show Φ 51 = mB _ from rfl, mB, hi]
    generalize IntKind.i64.wrap ((i : Int) - 1) = W at hs hw' ⊢
    generalize Op.bytesLess (cell (Go.Vx.rowAt a.asList W) 0).asStr.toList (cell (rowN a.asList i) 0).asStr.toList = b at hs ⊢
    generalize LabOk (rowN a.asList i) = L at hs ⊢
    by_cases hi' : i < 4
    · have e1 : ((i : Int) < 4) = True := by simp; omega
      have e2 : ((4 : Int) ≤ i) = False := by simp; omega
      simp only [e1, e2]
      by_cases hL : L
      · have e0 : L = True := by simp [hL]
        subst e0
        simp at hs ⊢
        refine ⟨by omega, fun h3 h4 => hno fun h' => ?_, fun h2 => ⟨by omega, all_next hI (hs.2 h2)⟩⟩
        rw [hs.1 h' h3] at h4; cases h4
      · have e0 : L = False := by simp [hL]
        subst e0
        simp at hs ⊢
        exact hno hs
    · have e1 : ((i : Int) < 4) = False := by simp; omega
      have e2 : ((4 : Int) ≤ i) = True := by simp; omega
      simp only [e1, e2]
      simp
      exact hno4 hi'
  · simp [g30, show Φ 30 = mB _ from rfl, mB, SetOk]
    exact ⟨by omega, hI⟩)
theorem ok45 : Good1 Tryd.prog Φ g45 := good1 tok mixed (l := [g50, g63, g64]) (by simp [ok63, ok50, ok64]) Tryd.func45 (by decide) (by decide) v45_eq (args1 fun a hw hp => by
  simp [v45, g45, show Φ 45 = mB _ from rfl, show Φ 63 = mB _ from rfl, show Φ 50 = mB _ from rfl, show Φ 64 = mB _ from rfl, mB, AlOk, -tt_ok]
  simp only [and_assoc])
theorem ok10 : Good1 Tryd.prog Φ g10 := good1 tok mixed (l := [g30, g31, g32]) (by simp [ok30, ok31, ok32]) Tryd.func10 (by decide) (by decide) v10_eq (args1 fun a hw hp => by
  simp [v10, g10, show Φ 10 = mB _ from rfl, show Φ 30 = mB _ from rfl, show Φ 31 = mB _ from rfl, show Φ 32 = mB _ from rfl, mB, AlOk, -tt_ok]
  exact ⟨fun ⟨⟨⟨⟨h1, h2⟩, h3⟩, h4⟩, h5⟩ => ⟨⟨h2, h1⟩, h3, h4, h5⟩, fun ⟨⟨h2, h1⟩, h3, h4, h5⟩ => ⟨⟨⟨⟨h1, h2⟩, h3⟩, h4⟩, h5⟩⟩)
end Go.Proofs.YthibophjhdoooaaDoor


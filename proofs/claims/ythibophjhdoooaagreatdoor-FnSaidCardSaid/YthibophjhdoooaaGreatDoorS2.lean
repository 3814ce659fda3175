/-
  Contracts: names, plain texts, labels, alarms.
-/
import Derived.Test.YthibophjhdoooaaGreatDoorSH
set_option linter.unusedVariables false
set_option linter.unusedSimpArgs false
namespace Go.Proofs.YthibophjhdoooaaGreatDoor
open Go.Vx

theorem ok38 : Good1 Tryz.prog Φ g38 := good1 tok mixed (l := []) (by simp) Tryz.func38 (by decide) (by decide) v38_eq (args3 fun a b c hw hp => by
  simp [v38, g38, show Φ 38 = mB _ from rfl, mB]
  done)
theorem ok36 : Good1 Tryz.prog Φ g36 := good1 tok mixed (l := []) (by simp) Tryz.func36 (by decide) (by decide) v36_eq (args3 fun a b c hw hp => by
  simp [v36, g36, show Φ 36 = mB _ from rfl, mB]
  done)
theorem ok83 : Good1 Tryz.prog Φ g83 := good1 tok mixed (l := []) (by simp) Tryz.func83 (by decide) (by decide) v83_eq (args2 fun a b hw hp => by
  simp [v83, g83, show Φ 83 = mB _ from rfl, mB]
  rw [Bool.eq_iff_iff]; simp)

theorem tt_true {p : Prop} (h : p) : tt p = true := by simpa using h
theorem tt_false {p : Prop} (h : ¬ p) : tt p = false := by simpa using h

theorem all_next {p : Nat → Prop} {i : Nat} (h : ∀ j, j < i → p j) (hi : p i) : ∀ j, j < i + 1 → p j := fun j hj => by
  by_cases e : j = i
  · exact e ▸ hi
  · exact h j (by omega)

theorem ok98 : Good1 Tryz.prog Φ g98 := good1 tok mixed (l := [g38]) (by simp [ok38]) Tryz.func98 (by decide) (by decide) v98_eq (args1 fun a hw hp => by
  simp [g98, lenMax] at hw
  refine loop1_wp (Φ := Φ) (N := a.asStr.size) rfl (fun _ => by simp) (by omega) (fun i => ∀ j, j < i → NameB a.asStr j) (by omega) (fun i hi hI => ?_) (fun hI p => ?_)
  · simp [g98, show Φ 98 = mB _ from rfl, mB, hi]
    refine ⟨by omega, fun h => ?_, fun h1 h2 => all_next hI ⟨by unfold byte; omega, by unfold byte; omega⟩⟩
    rintro ⟨-, h3⟩
    have := h3 i hi
    simp only [NameB, byte] at this
    omega
  · simp [g98, show Φ 98 = mB _ from rfl, show Φ 38 = mB _ from rfl, mB, NameOk, -tt_ok]
    congr 1
    exact ⟨fun h => ⟨by omega, hI⟩, fun h => by omega⟩)
theorem ok92 : Good1 Tryz.prog Φ g92 := good1 tok mixed (l := [g36]) (by simp [ok36]) Tryz.func92 (by decide) (by decide) v92_eq (args1 fun a hw hp => by
  simp [g92, lenMax] at hw
  unfold v92
  rw [wp_req', wp_ite']
  refine ⟨by simp [show Φ 36 = mB _ from rfl, mB], fun h => ?_, fun h => ?_⟩
  · simp [g92, show Φ 92 = mB _ from rfl, show Φ 36 = mB _ from rfl, mB, NameOk] at h ⊢
    intro h1 h2; omega
  simp [show Φ 36 = mB _ from rfl, mB] at h
  refine loop1_wp (Φ := Φ) (N := a.asStr.size) rfl (fun _ => by simp) (by omega) (fun i => ∀ j, j < i → NameB a.asStr j) (by omega) (fun i hi hI => ?_) (fun hI p => ?_)
  · simp [g92, show Φ 92 = mB _ from rfl, mB, hi]
    refine ⟨by omega, fun h => ?_, fun h1 h2 => all_next hI ⟨by unfold byte; omega, by unfold byte; omega⟩⟩
    rintro ⟨-, h3⟩
    have := h3 i hi
    simp only [NameB, byte] at this
    omega
  · simp [g92, show Φ 92 = mB _ from rfl, mB, NameOk]
    exact ⟨by omega, hI⟩)
theorem ok84 : Good1 Tryz.prog Φ g84 := good1 tok mixed (l := []) (by simp) Tryz.func84 (by decide) (by decide) v84_eq (args1 fun a hw hp => by
  simp [g84, lenMax] at hw
  refine loop1_wp (Φ := Φ) (N := a.asStr.size) rfl (fun _ => by simp) (by omega) (fun i => ∀ j, j < i → PlainB a.asStr j) (by omega) (fun i hi hI => ?_) (fun hI p => ?_)
  · simp [g84, show Φ 84 = mB _ from rfl, mB, hi]
    refine ⟨by omega, fun h => ?_, fun h1 h2 h3 h4 => all_next hI ⟨by unfold byte; omega, by unfold byte; omega, by unfold byte; omega, by unfold byte; omega⟩⟩
    rintro ⟨-, h3⟩
    have := h3 i hi
    simp only [PlainB, byte] at this
    omega
  · simp [g84, show Φ 84 = mB _ from rfl, mB, PlainOk, -tt_ok]
    congr 1
    exact ⟨fun h => ⟨by omega, hI⟩, fun h => by omega⟩)
theorem ok76 : Good1 Tryz.prog Φ g76 := good1 tok mixed (l := []) (by simp) Tryz.func76 (by decide) (by decide) v76_eq (args1 fun a hw hp => by
  simp [g76, lenMax] at hw
  unfold v76
  rw [wp_ite']
  refine ⟨fun h => ?_, fun h => ?_⟩
  · simp [g76, show Φ 76 = mB _ from rfl, mB, PlainOk] at h ⊢
    intro h1; omega
  simp at h
  refine loop1_wp (Φ := Φ) (N := a.asStr.size) rfl (fun _ => by simp) (by omega) (fun i => ∀ j, j < i → PlainB a.asStr j) (by omega) (fun i hi hI => ?_) (fun hI p => ?_)
  · simp [g76, show Φ 76 = mB _ from rfl, mB, hi]
    refine ⟨by omega, fun h => ?_, fun h1 h2 h3 h4 => all_next hI ⟨by unfold byte; omega, by unfold byte; omega, by unfold byte; omega, by unfold byte; omega⟩⟩
    rintro ⟨-, h3⟩
    have := h3 i hi
    simp only [PlainB, byte] at this
    omega
  · simp [g76, show Φ 76 = mB _ from rfl, mB, PlainOk]
    exact ⟨by omega, hI⟩)
theorem ok82 : Good1 Tryz.prog Φ g82 := good1 tok mixed (l := [g84, g98]) (by simp [ok98, ok84]) Tryz.func82 (by decide) (by decide) v82_eq (args1 fun a hw hp => by
  simp [v82, g82, show Φ 82 = mB _ from rfl, show Φ 98 = mB _ from rfl, show Φ 84 = mB _ from rfl, mB, LabOk])
theorem ok77 : Good1 Tryz.prog Φ g77 := good1 tok mixed (l := [g76, g92]) (by simp [ok92, ok76]) Tryz.func77 (by decide) (by decide) v77_eq (args1 fun a hw hp => by
  simp [v77, g77, show Φ 77 = mB _ from rfl, show Φ 92 = mB _ from rfl, show Φ 76 = mB _ from rfl, mB, LabOk])

theorem setAt_iff (xs : List (List D)) (i : Nat) (h : i ≤ 140737488355328) : SetAt xs i ↔ LabOk (rowN xs i) ∧ (0 < i → Op.bytesLess (cell (Go.Vx.rowAt xs (IntKind.i64.wrap ((i : Int) - 1))) 0).asStr.toList (cell (rowN xs i) 0).asStr.toList = true) := by
  unfold SetAt
  by_cases e : 0 < i
  · rw [w64 (by omega) (by omega), show ((i : Int) - 1) = ((i - 1 : Nat) : Int) by omega, Go.Vx.rowAt_nat]
  · simp [e]
theorem wrap_pred (i : Nat) (h : i ≤ 140737488355328) : i = 0 ∨ IntKind.i64.wrap ((i : Int) - 1) = (i : Int) - 1 := by
  by_cases e : i = 0
  · exact .inl e
  · exact .inr (w64 (by omega) (by omega))

theorem ok61 : Good1 Tryz.prog Φ g61 := good1 tok mixed (l := [g82, g83]) (by simp [ok82, ok83]) Tryz.func61 (by decide) (by decide) v61_eq (args1 fun a hw hp => by
  simp [g61, lenMax] at hw
  refine loop1_wp (Φ := Φ) (N := a.asList.length) rfl (fun _ => by simp) (by omega) (fun i => ∀ j, j < i → SetAt a.asList j) (by omega) (fun i hi hI => ?_) (fun hI p => ?_)
  · have hs := setAt_iff a.asList i (by omega)
    have hw' := wrap_pred i (by omega)
    have hno : ¬ SetAt a.asList i → ¬ SetOk a.asList := fun h h' => h (h'.2 i hi)
    simp [rowAt_nat, g61, show Φ 61 = mB _ from rfl, show Φ 82 = mB _ from rfl, show Φ 83 = mB _ from rfl, mB, hi]
    generalize IntKind.i64.wrap ((i : Int) - 1) = W at hs hw' ⊢
    generalize Op.bytesLess (cell (Go.Vx.rowAt a.asList W) 0).asStr.toList (cell (rowN a.asList i) 0).asStr.toList = b at hs ⊢
    generalize LabOk (rowN a.asList i) = L at hs ⊢
    refine ⟨⟨by omega, by omega, ?_, ?_⟩, fun h => hno fun h' => ?_, fun h1 h2 => all_next hI (hs.2 ⟨h1, h2⟩)⟩
    · by_cases hL : L <;> simp [hL]
    · by_cases hL : L <;> simp [hL]
    · obtain ⟨h1, h2⟩ := hs.1 h'
      rcases h with h | ⟨h3, h4⟩
      · exact h h1
      · rw [h2 h3] at h4; cases h4
  · simp [g61, show Φ 61 = mB _ from rfl, mB, SetOk, -tt_ok]
    congr 1
    exact ⟨fun h => ⟨by omega, hI⟩, fun h => by omega⟩)

theorem ok58 : Good1 Tryz.prog Φ g58 := good1 tok mixed (l := [g77]) (by simp [ok77]) Tryz.func58 (by decide) (by decide) v58_eq (args1 fun a hw hp => by
  simp [g58, lenMax] at hw
  refine loop1_wp (Φ := Φ) (N := a.asList.length) rfl (fun _ => by simp) (by omega) (fun i => i ≤ 4 ∧ ∀ j, j < i → SetAt a.asList j) ⟨by omega, by omega⟩ (fun i hi ⟨hi4, hI⟩ => ?_) (fun ⟨hi4, hI⟩ p => ?_)
  · have hs := setAt_iff a.asList i (by omega)
    have hw' := wrap_pred i (by omega)
    have hno : ¬ SetAt a.asList i → ¬ SetOk a.asList := fun h h' => h (h'.2 i hi)
    have hno4 : ¬ i < 4 → ¬ SetOk a.asList := fun h h' => by have := h'.1; omega
    simp [rowAt_nat, g58, show Φ 58 = mB _ from rfl, show Φ 77 = mB _ from rfl, mB, hi]
    generalize IntKind.i64.wrap ((i : Int) - 1) = W at hs hw' ⊢
    generalize Op.bytesLess (cell (Go.Vx.rowAt a.asList W) 0).asStr.toList (cell (rowN a.asList i) 0).asStr.toList = b at hs ⊢
    generalize LabOk (rowN a.asList i) = L at hs ⊢
    by_cases hi' : i < 4
    · have e1 : ((i : Int) < 4) = True := by simp; omega
      have e2 : ((4 : Int) ≤ i) = False := by simp; omega
      simp only [e1, e2]
      by_cases hL : L
      · have e0 : L = True := by simp [hL]
        subst e0
        simp at hs ⊢
        refine ⟨by omega, fun h3 h4 => hno fun h' => ?_, fun h2 => ⟨by omega, all_next hI (hs.2 h2)⟩⟩
        rw [hs.1 h' h3] at h4; cases h4
      · have e0 : L = False := by simp [hL]
        subst e0
        simp at hs ⊢
        exact hno hs
    · have e1 : ((i : Int) < 4) = False := by simp; omega
      have e2 : ((4 : Int) ≤ i) = True := by simp; omega
      simp only [e1, e2]
      simp
      exact hno4 hi'
  · simp [g58, show Φ 58 = mB _ from rfl, mB, SetOk]
    exact ⟨by omega, hI⟩)
theorem ok62 : Good1 Tryz.prog Φ g62 := good1 tok mixed (l := [g38, g61, g84]) (by simp [ok61, ok38, ok84]) Tryz.func62 (by decide) (by decide) v62_eq (args1 fun a hw hp => by
  simp [v62, g62, show Φ 62 = mB _ from rfl, show Φ 61 = mB _ from rfl, show Φ 38 = mB _ from rfl, show Φ 84 = mB _ from rfl, mB, AlOk, -tt_ok]
  simp only [and_assoc])
theorem ok57 : Good1 Tryz.prog Φ g57 := good1 tok mixed (l := [g36, g58, g76]) (by simp [ok58, ok36, ok76]) Tryz.func57 (by decide) (by decide) v57_eq (args1 fun a hw hp => by
  simp [v57, g57, show Φ 57 = mB _ from rfl, show Φ 58 = mB _ from rfl, show Φ 36 = mB _ from rfl, show Φ 76 = mB _ from rfl, mB, AlOk, -tt_ok]
  exact ⟨fun ⟨⟨⟨⟨h1, h2⟩, h3⟩, h4⟩, h5⟩ => ⟨⟨h2, h1⟩, h3, h4, h5⟩, fun ⟨⟨h2, h1⟩, h3, h4, h5⟩ => ⟨⟨⟨⟨h1, h2⟩, h3⟩, h4⟩, h5⟩⟩)
end Go.Proofs.YthibophjhdoooaaGreatDoor


/-
  Contracts: names, plain texts, labels, alarms.
-/
import Derived.Test.YtmfbmdipchnmaaaDoorSH
import Derived.Test.YtmfbmdipchnmaaaDoorSF
set_option linter.unusedVariables false
set_option linter.unusedSimpArgs false
namespace Go.Proofs.YtmfbmdipchnmaaaDoor
open Go.Vx

theorem ok35 : Good1 Tryd.prog Φ g35 := good1 tok mixed (l := []) (by simp) Tryd.func35 (by decide) (by decide) v35_eq (args3 fun a b c hw hp => by
  simp [v35, g35, show Φ 35 = mB _ from rfl, mB]
  done)
theorem ok40 : Good1 Tryd.prog Φ g40 := good1 tok mixed (l := []) (by simp) Tryd.func40 (by decide) (by decide) v40_eq (args3 fun a b c hw hp => by
  simp [v40, g40, show Φ 40 = mB _ from rfl, mB]
  done)
theorem ok99 : Good1 Tryd.prog Φ g99 := good1 tok mixed (l := []) (by simp) Tryd.func99 (by decide) (by decide) v99_eq (args2 fun a b hw hp => by
  simp [v99, g99, show Φ 99 = mB _ from rfl, mB]
  rw [Bool.eq_iff_iff]; simp)

theorem tt_true {p : Prop} (h : p) : tt p = true := by simpa using h
theorem tt_false {p : Prop} (h : ¬ p) : tt p = false := by simpa using h

theorem all_next {p : Nat → Prop} {i : Nat} (h : ∀ j, j < i → p j) (hi : p i) : ∀ j, j < i + 1 → p j := fun j hj => by
  by_cases e : j = i
  · exact e ▸ hi
  · exact h j (by omega)

theorem ok112 : Good1 Tryd.prog Φ g112 := good1 tok mixed (l := [g35]) (by simp [ok35]) Tryd.func112 (by decide) (by decide) v112_eq (args1 fun a hw hp => by
  simp [g112, lenMax] at hw
  refine loop1_wp (Φ := Φ) (N := a.asStr.size) rfl (fun _ => by simp) (by omega) (fun i => ∀ j, j < i → NameB a.asStr j) (by omega) (fun i hi hI => ?_) (fun hI p => ?_)
  · simp [g112, show Φ 112 = mB _ from rfl, mB, hi]
    refine ⟨by omega, fun h => ?_, fun h1 h2 => all_next hI ⟨by unfold byte; omega, by unfold byte; omega⟩⟩
    rintro ⟨-, h3⟩
    have := h3 i hi
    simp only [NameB, byte] at this
    omega
  · simp [g112, show Φ 112 = mB _ from rfl, show Φ 35 = mB _ from rfl, mB, NameOk, -tt_ok]
    congr 1
    exact ⟨fun h => ⟨by omega, hI⟩, fun h => by omega⟩)
theorem ok104 : Good1 Tryd.prog Φ g104 := good1 tok mixed (l := [g40]) (by simp [ok40]) Tryd.func104 (by decide) (by decide) v104_eq (args1 fun a hw hp => by
  simp [g104, lenMax] at hw
  unfold v104
  rw [wp_req', wp_ite']
  refine ⟨by simp [show Φ 40 = mB _ from rfl, mB], fun h => ?_, fun h => ?_⟩
  · simp [g104, show Φ 104 = mB _ from rfl, show Φ 40 = mB _ from rfl, mB, NameOk] at h ⊢
    intro h1 h2; omega
  simp [show Φ 40 = mB _ from rfl, mB] at h
  refine loop1_wp (Φ := Φ) (N := a.asStr.size) rfl (fun _ => by simp) (by omega) (fun i => ∀ j, j < i → NameB a.asStr j) (by omega) (fun i hi hI => ?_) (fun hI p => ?_)
  · simp [g104, show Φ 104 = mB _ from rfl, mB, hi]
    refine ⟨by omega, fun h => ?_, fun h1 h2 => all_next hI ⟨by unfold byte; omega, by unfold byte; omega⟩⟩
    rintro ⟨-, h3⟩
    have := h3 i hi
    simp only [NameB, byte] at this
    omega
  · simp [g104, show Φ 104 = mB _ from rfl, mB, NameOk]
    exact ⟨by omega, hI⟩)
theorem ok85 : Good1 Tryd.prog Φ g85 := good1 tok mixed (l := []) (by simp) Tryd.func85 (by decide) (by decide) v85_eq (args1 fun a hw hp => by
  simp [g85, lenMax] at hw
  refine loop1_wp (Φ := Φ) (N := a.asStr.size) rfl (fun _ => by simp) (by omega) (fun i => ∀ j, j < i → PlainB a.asStr j) (by omega) (fun i hi hI => ?_) (fun hI p => ?_)
  · simp [g85, show Φ 85 = mB _ from rfl, mB, hi]
    refine ⟨by omega, fun h => ?_, fun h1 h2 h3 h4 => all_next hI ⟨by unfold byte; omega, by unfold byte; omega, by unfold byte; omega, by unfold byte; omega⟩⟩
    rintro ⟨-, h3⟩
    have := h3 i hi
    simp only [PlainB, byte] at this
    omega
  · simp [g85, show Φ 85 = mB _ from rfl, mB, PlainOk, -tt_ok]
    congr 1
    exact ⟨fun h => ⟨by omega, hI⟩, fun h => by omega⟩)
theorem ok90 : Good1 Tryd.prog Φ g90 := good1 tok mixed (l := []) (by simp) Tryd.func90 (by decide) (by decide) v90_eq (args1 fun a hw hp => by
  simp [g90, lenMax] at hw
  unfold v90
  rw [wp_ite']
  refine ⟨fun h => ?_, fun h => ?_⟩
  · simp [g90, show Φ 90 = mB _ from rfl, mB, PlainOk] at h ⊢
    intro h1; omega
  simp at h
  refine loop1_wp (Φ := Φ) (N := a.asStr.size) rfl (fun _ => by simp) (by omega) (fun i => ∀ j, j < i → PlainB a.asStr j) (by omega) (fun i hi hI => ?_) (fun hI p => ?_)
  · simp [g90, show Φ 90 = mB _ from rfl, mB, hi]
    refine ⟨by omega, fun h => ?_, fun h1 h2 h3 h4 => all_next hI ⟨by unfold byte; omega, by unfold byte; omega, by unfold byte; omega, by unfold byte; omega⟩⟩
    rintro ⟨-, h3⟩
    have := h3 i hi
    simp only [PlainB, byte] at this
    omega
  · simp [g90, show Φ 90 = mB _ from rfl, mB, PlainOk]
    exact ⟨by omega, hI⟩)
theorem ok98 : Good1 Tryd.prog Φ g98 := good1 tok mixed (l := [g85, g112]) (by simp [ok112, ok85]) Tryd.func98 (by decide) (by decide) v98_eq (args1 fun a hw hp => by
  simp [v98, g98, show Φ 98 = mB _ from rfl, show Φ 112 = mB _ from rfl, show Φ 85 = mB _ from rfl, mB, LabOk])
theorem ok91 : Good1 Tryd.prog Φ g91 := good1 tok mixed (l := [g90, g104]) (by simp [ok104, ok90]) Tryd.func91 (by decide) (by decide) v91_eq (args1 fun a hw hp => by
  simp [v91, g91, show Φ 91 = mB _ from rfl, show Φ 104 = mB _ from rfl, show Φ 90 = mB _ from rfl, mB, LabOk])

theorem setAt_iff (xs : List (List D)) (i : Nat) (h : i ≤ 140737488355328) : SetAt xs i ↔ LabOk (rowN xs i) ∧ (0 < i → Op.bytesLess (cell (Go.Vx.rowAt xs (IntKind.i64.wrap ((i : Int) - 1))) 0).asStr.toList (cell (rowN xs i) 0).asStr.toList = true) := by
  unfold SetAt
  by_cases e : 0 < i
  · rw [w64 (by omega) (by omega), show ((i : Int) - 1) = ((i - 1 : Nat) : Int) by omega, Go.Vx.rowAt_nat]
  · simp [e]
theorem wrap_pred (i : Nat) (h : i ≤ 140737488355328) : i = 0 ∨ IntKind.i64.wrap ((i : Int) - 1) = (i : Int) - 1 := by
  by_cases e : i = 0
  · exact .inl e
  · exact .inr (w64 (by omega) (by omega))

theorem ok84 : Good1 Tryd.prog Φ g84 := good1 tok mixed (l := [g98, g99]) (by simp [ok98, ok99]) Tryd.func84 (by decide) (by decide) v84_eq (args1 fun a hw hp => by
  simp [g84, lenMax] at hw
  refine loop1_wp (Φ := Φ) (N := a.asList.length) rfl (fun _ => by simp) (by omega) (fun i => ∀ j, j < i → SetAt a.asList j) (by omega) (fun i hi hI => ?_) (fun hI p => ?_)
  · have hs := setAt_iff a.asList i (by omega)
    have hw' := wrap_pred i (by omega)
    have hno : ¬ SetAt a.asList i → ¬ SetOk a.asList := fun h h' => h (h'.2 i hi)
    simp [rowAt_nat, g84, show Φ 84 = mB _ from rfl, show Φ 98 = mB _ from rfl, show Φ 99 = mB _ from rfl, mB, hi]
    generalize IntKind.i64.wrap ((i : Int) - 1) = W at hs hw' ⊢
    generalize Op.bytesLess (cell (Go.Vx.rowAt a.asList W) 0).asStr.toList (cell (rowN a.asList i) 0).asStr.toList = b at hs ⊢
    generalize LabOk (rowN a.asList i) = L at hs ⊢
    refine ⟨⟨by omega, by omega, ?_, ?_⟩, fun h => hno fun h' => ?_, fun h1 h2 => all_next hI (hs.2 ⟨h1, h2⟩)⟩
    · by_cases hL : L <;> simp [hL]
    · by_cases hL : L <;> simp [hL]
    · obtain ⟨h1, h2⟩ := hs.1 h'
      rcases h with h | ⟨h3, h4⟩
      · exact h h1
      · rw [h2 h3] at h4; cases h4
  · simp [g84, show Φ 84 = mB _ from rfl, mB, SetOk, -tt_ok]
    congr 1
    exact ⟨fun h => ⟨by omega, hI⟩, fun h => by omega⟩)

theorem ok76 : Good1 Tryd.prog Φ g76 := good1 tok mixed (l := [g91]) (by simp [ok91]) Tryd.func76 (by decide) (by decide) v76_eq (args1 fun a hw hp => by
  simp [g76, lenMax] at hw
  refine loop1_wp (Φ := Φ) (N := a.asList.length) rfl (fun _ => by simp) (by omega) (fun i => i ≤ 4 ∧ ∀ j, j < i → SetAt a.asList j) ⟨by omega, by omega⟩ (fun i hi ⟨hi4, hI⟩ => ?_) (fun ⟨hi4, hI⟩ p => ?_)
  · have hs := setAt_iff a.asList i (by omega)
    have hw' := wrap_pred i (by omega)
    have hno : ¬ SetAt a.asList i → ¬ SetOk a.asList := fun h h' => h (h'.2 i hi)
    have hno4 : ¬ i < 4 → ¬ SetOk a.asList := fun h h' => by have := h'.1; omega
    simp [rowAt_nat, g76, show Φ 76 = mB _ from rfl, show Φ 91 = mB _ from rfl, mB, hi]
    generalize IntKind.i64.wrap ((i : Int) - 1) = W at hs hw' ⊢
    generalize Op.bytesLess (cell (Go.Vx.rowAt a.asList W) 0).asStr.toList (cell (rowN a.asList i) 0).asStr.toList = b at hs ⊢
    generalize LabOk (rowN a.asList i) = L at hs ⊢
    by_cases hi' : i < 4
    · have e1 : ((i : Int) < 4) = True := by simp; omega
      have e2 : ((4 : Int) ≤ i) = False := by simp; omega
      simp only [e1, e2]
      by_cases hL : L
      · have e0 : L = True := by simp [hL]
        subst e0
        simp at hs ⊢
        refine ⟨by omega, fun h3 h4 => hno fun h' => ?_, fun h2 => ⟨by omega, all_next hI (hs.2 h2)⟩⟩
        rw [hs.1 h' h3] at h4; cases h4
      · have e0 : L = False := by simp [hL]
        subst e0
        simp at hs ⊢
        exact hno hs
    · have e1 : ((i : Int) < 4) = False := by simp; omega
      have e2 : ((4 : Int) ≤ i) = True := by simp; omega
      simp only [e1, e2]
      simp
      exact hno4 hi'
  · simp [g76, show Φ 76 = mB _ from rfl, mB, SetOk]
    exact ⟨by omega, hI⟩)
theorem ok69 : Good1 Tryd.prog Φ g69 := good1 tok mixed (l := [g35, g84, g85]) (by simp [ok84, ok35, ok85]) Tryd.func69 (by decide) (by decide) v69_eq (args1 fun a hw hp => by
  simp [v69, g69, show Φ 69 = mB _ from rfl, show Φ 84 = mB _ from rfl, show Φ 35 = mB _ from rfl, show Φ 85 = mB _ from rfl, mB, AlOk, -tt_ok]
  simp only [and_assoc])
theorem ok74 : Good1 Tryd.prog Φ g74 := good1 tok mixed (l := [g40, g76, g90]) (by simp [ok76, ok40, ok90]) Tryd.func74 (by decide) (by decide) v74_eq (args1 fun a hw hp => by
  simp [v74, g74, show Φ 74 = mB _ from rfl, show Φ 76 = mB _ from rfl, show Φ 40 = mB _ from rfl, show Φ 90 = mB _ from rfl, mB, AlOk, -tt_ok]
  exact ⟨fun ⟨⟨⟨⟨h1, h2⟩, h3⟩, h4⟩, h5⟩ => ⟨⟨h2, h1⟩, h3, h4, h5⟩, fun ⟨⟨h2, h1⟩, h3, h4, h5⟩ => ⟨⟨⟨⟨h1, h2⟩, h3⟩, h4⟩, h5⟩⟩)
end Go.Proofs.YtmfbmdipchnmaaaDoor

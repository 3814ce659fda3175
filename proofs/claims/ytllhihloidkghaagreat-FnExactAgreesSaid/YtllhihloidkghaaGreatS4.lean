/-
  Contracts: labels in order.
-/
import Derived.Test.YtllhihloidkghaaGreatS2
set_option linter.unusedVariables false
set_option linter.unusedSimpArgs false
namespace Go.Proofs.YtllhihloidkghaaGreat
open Go.Vx

theorem drop_rowN {xs : List (List D)} {i : Nat} (h : i < xs.length) : xs.drop i = rowN xs i :: xs.drop (i + 1) := by
  rw [List.drop_eq_getElem_cons h, rowN_lt h]

theorem ok109 : Good1 Tryz.prog Φ g109 := good1 tok mixed (l := []) (by simp) Tryz.func109 (by decide) (by decide) v109_eq (args2 fun a b hw hp => by
  simp [v109, g109, show Φ 109 = mLess from rfl, mLess])
theorem ok102 : Good1 Tryz.prog Φ g102 := good1e tok mixed (l := []) (by simp) Tryz.func102 (by decide) (by decide) v102_eq (args2 fun a b hw hp => by
  simp [g102, lenMax] at hw
  refine wp_loop' (fun v => ∃ i : Nat, v = [.int i] ∧ i ≤ a.asList.length ∧ i ≤ b.asList.length ∧ setLt a.asList b.asList = setLt (a.asList.drop i) (b.asList.drop i)) (fun v => a.asList.length - (cell v 0).asInt.toNat) ⟨0, rfl, by omega, by omega, by simp⟩ ?_
  simp only [allN_succ, allN_zero]
  intro d
  refine kinds_intro fun _ => ?_
  rintro ⟨i, hd, h1, h2, h3⟩
  simp only [List.cons.injEq, and_true] at hd
  subst hd
  by_cases ha : i < a.asList.length
  · by_cases hb : i < b.asList.length
    · rw [drop_rowN ha, drop_rowN hb, setLt] at h3
      simp [rowAt_nat, ha, hb, g102, RSh.cells, show Φ 102 = mSetLt from rfl, mSetLt, h3]
      refine ⟨fun hne => by simp [hne], fun he => ⟨fun hne => by simp [he, hne], fun he2 => ?_⟩⟩
      rw [w64 (by omega) (by omega)]
      exact ⟨⟨i + 1, by simp, by omega, by omega, by simp [he, he2]⟩, by omega⟩
    · have : b.asList.drop i = [] := by simp; omega
      rw [this] at h3
      have h4 : setLt (a.asList.drop i) [] = false := by cases a.asList.drop i <;> rfl
      simp [ha, hb, g102, RSh.cells, show Φ 102 = mSetLt from rfl, mSetLt, h3, h4]
      omega
  · have : a.asList.drop i = [] := by simp; omega
    rw [this] at h3
    simp [ha, g102, RSh.cells, show Φ 102 = mSetLt from rfl, mSetLt, h3]
    by_cases hb : i < b.asList.length
    · rw [drop_rowN hb]; simp [setLt]; omega
    · have : b.asList.drop i = [] := by simp; omega
      rw [this]; simp [setLt]; omega)
theorem ok95 : Good1 Tryz.prog Φ g95 := good1e tok mixed (l := [g109]) (by simp [ok109]) Tryz.func95 (by decide) (by decide) v95_eq (args2 fun a b hw hp => by
  simp [g95, lenMax] at hw
  refine wp_loop' (fun v => ∃ i : Nat, v = [.int i] ∧ i ≤ a.asList.length ∧ i ≤ b.asList.length ∧ setLt a.asList b.asList = setLt (a.asList.drop i) (b.asList.drop i)) (fun v => a.asList.length - (cell v 0).asInt.toNat) ⟨0, rfl, by omega, by omega, by simp⟩ ?_
  simp only [allN_succ, allN_zero]
  intro d
  refine kinds_intro fun _ => ?_
  rintro ⟨i, hd, h1, h2, h3⟩
  simp only [List.cons.injEq, and_true] at hd
  subst hd
  by_cases ha : i < a.asList.length
  · by_cases hb : i < b.asList.length
    · rw [drop_rowN ha, drop_rowN hb, setLt] at h3
      simp [rowAt_nat, ha, hb, g95, RSh.cells, show Φ 95 = mSetLt from rfl, mSetLt, h3, show Φ 109 = mLess from rfl, mLess]
      refine ⟨fun hne => by simp [hne], fun he => ⟨fun hne => by simp [he, hne], fun he2 => ?_⟩⟩
      rw [w64 (by omega) (by omega)]
      exact ⟨⟨i + 1, by simp, by omega, by omega, by simp [he, he2]⟩, by omega⟩
    · have : b.asList.drop i = [] := by simp; omega
      rw [this] at h3
      have h4 : setLt (a.asList.drop i) [] = false := by cases a.asList.drop i <;> rfl
      simp [ha, hb, g95, RSh.cells, show Φ 95 = mSetLt from rfl, mSetLt, h3, h4]
      omega
  · have : a.asList.drop i = [] := by simp; omega
    rw [this] at h3
    simp [ha, g95, RSh.cells, show Φ 95 = mSetLt from rfl, mSetLt, h3]
    by_cases hb : i < b.asList.length
    · rw [drop_rowN hb]; simp [setLt]; omega
    · have : b.asList.drop i = [] := by simp; omega
      rw [this]; simp [setLt]; omega)
theorem ok101 : Good1 Tryz.prog Φ g101 := good1 tok mixed (l := [g102]) (by simp [ok102]) Tryz.func101 (by decide) (by decide) v101_eq (args3 fun a b c hw hp => by
  simp [g101, show Φ 101 = mByL1 from rfl, mByL1] at hp
  obtain ⟨⟨h1, h2⟩, h3, h4⟩ := hp
  obtain ⟨i, hi⟩ : ∃ i : Nat, a.asInt = i := ⟨a.asInt.toNat, by omega⟩
  obtain ⟨j, hj⟩ : ∃ j : Nat, b.asInt = j := ⟨b.asInt.toNat, by omega⟩
  rw [hi] at h2
  rw [hj] at h4
  simp [v101, g101, show Φ 101 = mByL1 from rfl, mByL1, show Φ 102 = mSetLt from rfl, mSetLt, ltA, hi, hj, rowAt_nat]
  omega)
end Go.Proofs.YtllhihloidkghaaGreat

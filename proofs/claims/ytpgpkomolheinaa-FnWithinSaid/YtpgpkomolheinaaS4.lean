/-
  Contracts: labels in order.
-/
import Derived.Test.YtpgpkomolheinaaS2
set_option linter.unusedVariables false
set_option linter.unusedSimpArgs false
namespace Go.Proofs.Ytpgpkomolheinaa
open Go.Vx

theorem drop_rowN {xs : List (List D)} {i : Nat} (h : i < xs.length) : xs.drop i = rowN xs i :: xs.drop (i + 1) := by
  rw [List.drop_eq_getElem_cons h, rowN_lt h]

theorem ok108 : Good1 Try.prog Φ g108 := good1 tok mixed (l := []) (by simp) Try.func108 (by decide) (by decide) v108_eq (args2 fun a b hw hp => by
  simp [v108, g108, show Φ 108 = mLess from rfl, mLess])
theorem ok54 : Good1 Try.prog Φ g54 := good1e tok mixed (l := []) (by simp) Try.func54 (by decide) (by decide) v54_eq (args2 fun a b hw hp => by
  simp [g54, lenMax] at hw
  refine wp_loop' (fun v => ∃ i : Nat, v = [.int i] ∧ i ≤ a.asList.length ∧ i ≤ b.asList.length ∧ setLt a.asList b.asList = setLt (a.asList.drop i) (b.asList.drop i)) (fun v => a.asList.length - (cell v 0).asInt.toNat) ⟨0, rfl, by omega, by omega, by simp⟩ ?_
  simp only [allN_succ, allN_zero]
  intro d
  refine kinds_intro fun _ => ?_
  rintro ⟨i, hd, h1, h2, h3⟩
  simp only [List.cons.injEq, and_true] at hd
  subst hd
  by_cases ha : i < a.asList.length
  · by_cases hb : i < b.asList.length
    · rw [drop_rowN ha, drop_rowN hb, setLt] at h3
      simp [rowAt_nat, ha, hb, g54, RSh.cells, show Φ 54 = mSetLt from rfl, mSetLt, h3]
      refine ⟨fun hne => by simp [hne], fun he => ⟨fun hne => by simp [he, hne], fun he2 => ?_⟩⟩
      rw [w64 (by omega) (by omega)]
      exact ⟨⟨i + 1, by simp, by omega, by omega, by simp [he, he2]⟩, by omega⟩
    · have : b.asList.drop i = [] := by simp; omega
      rw [this] at h3
      have h4 : setLt (a.asList.drop i) [] = false := by cases a.asList.drop i <;> rfl
      simp [ha, hb, g54, RSh.cells, show Φ 54 = mSetLt from rfl, mSetLt, h3, h4]
      omega
  · have : a.asList.drop i = [] := by simp; omega
    rw [this] at h3
    simp [ha, g54, RSh.cells, show Φ 54 = mSetLt from rfl, mSetLt, h3]
    by_cases hb : i < b.asList.length
    · rw [drop_rowN hb]; simp [setLt]; omega
    · have : b.asList.drop i = [] := by simp; omega
      rw [this]; simp [setLt]; omega)
theorem ok98 : Good1 Try.prog Φ g98 := good1e tok mixed (l := [g108]) (by simp [ok108]) Try.func98 (by decide) (by decide) v98_eq (args2 fun a b hw hp => by
  simp [g98, lenMax] at hw
  refine wp_loop' (fun v => ∃ i : Nat, v = [.int i] ∧ i ≤ a.asList.length ∧ i ≤ b.asList.length ∧ setLt a.asList b.asList = setLt (a.asList.drop i) (b.asList.drop i)) (fun v => a.asList.length - (cell v 0).asInt.toNat) ⟨0, rfl, by omega, by omega, by simp⟩ ?_
  simp only [allN_succ, allN_zero]
  intro d
  refine kinds_intro fun _ => ?_
  rintro ⟨i, hd, h1, h2, h3⟩
  simp only [List.cons.injEq, and_true] at hd
  subst hd
  by_cases ha : i < a.asList.length
  · by_cases hb : i < b.asList.length
    · rw [drop_rowN ha, drop_rowN hb, setLt] at h3
      simp [rowAt_nat, ha, hb, g98, RSh.cells, show Φ 98 = mSetLt from rfl, mSetLt, h3, show Φ 108 = mLess from rfl, mLess]
      refine ⟨fun hne => by simp [hne], fun he => ⟨fun hne => by simp [he, hne], fun he2 => ?_⟩⟩
      rw [w64 (by omega) (by omega)]
      exact ⟨⟨i + 1, by simp, by omega, by omega, by simp [he, he2]⟩, by omega⟩
    · have : b.asList.drop i = [] := by simp; omega
      rw [this] at h3
      have h4 : setLt (a.asList.drop i) [] = false := by cases a.asList.drop i <;> rfl
      simp [ha, hb, g98, RSh.cells, show Φ 98 = mSetLt from rfl, mSetLt, h3, h4]
      omega
  · have : a.asList.drop i = [] := by simp; omega
    rw [this] at h3
    simp [ha, g98, RSh.cells, show Φ 98 = mSetLt from rfl, mSetLt, h3]
    by_cases hb : i < b.asList.length
    · rw [drop_rowN hb]; simp [setLt]; omega
    · have : b.asList.drop i = [] := by simp; omega
      rw [this]; simp [setLt]; omega)
theorem ok97 : Good1 Try.prog Φ g97 := good1 tok mixed (l := [g54]) (by simp [ok54]) Try.func97 (by decide) (by decide) v97_eq (args3 fun a b c hw hp => by
  simp [g97, show Φ 97 = mByL1 from rfl, mByL1] at hp
  obtain ⟨⟨h1, h2⟩, h3, h4⟩ := hp
  obtain ⟨i, hi⟩ : ∃ i : Nat, a.asInt = i := ⟨a.asInt.toNat, by omega⟩
  obtain ⟨j, hj⟩ : ∃ j : Nat, b.asInt = j := ⟨b.asInt.toNat, by omega⟩
  rw [hi] at h2
  rw [hj] at h4
  simp [v97, g97, show Φ 97 = mByL1 from rfl, mByL1, show Φ 54 = mSetLt from rfl, mSetLt, ltA, hi, hj, rowAt_nat]
  omega)
end Go.Proofs.Ytpgpkomolheinaa


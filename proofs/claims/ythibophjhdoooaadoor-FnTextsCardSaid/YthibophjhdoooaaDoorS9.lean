/-
  Contracts: labels read.
-/
import Derived.Test.YthibophjhdoooaaDoorS8
set_option linter.unusedVariables false
set_option linter.unusedSimpArgs false
namespace Go.Proofs.YthibophjhdoooaaDoor
open Go.Vx

theorem ok27 : Good1 Tryd.prog Φ g27 := good1e tok mixed (l := [g28, g46]) (by simp [ok28, ok46]) Tryd.func27 (by decide) (by decide) v27_eq (args1 fun a hw hp => by
  simp [g27, show Φ 27 = mPS from rfl, mPS] at hp
  have fin : ∀ x : List (List D), psR a.asStr = x → (a.asStr = ⟨#[]⟩ ∨ ¬ a.asStr = ⟨#[]⟩) ∧ (a.asStr = ⟨#[]⟩ ∨ ¬ setT x = a.asStr → (bif tt (PsOk a.asStr) then psR a.asStr else []) = [] ∧ ¬ PsOk a.asStr) ∧
      (¬ a.asStr = ⟨#[]⟩ → setT x = a.asStr → (x = bif tt (PsOk a.asStr) then psR a.asStr else []) ∧ PsOk a.asStr) := by
    rintro x rfl
    refine ⟨Classical.em _, fun h => ?_, fun h1 h2 => ?_⟩
    · have : ¬ PsOk a.asStr := fun h' => h.elim (fun h => h'.1 h) fun h => h h'.2
      exact ⟨by rw [tt_false this]; rfl, this⟩
    · have : PsOk a.asStr := ⟨h1, h2⟩
      exact ⟨by rw [tt_true this]; rfl, this⟩
  refine wp_loop' (fun v => ∃ (f : Nat) (d x : D), v = [d, x] ∧ 0 ≤ d.asInt ∧ d.asInt ≤ a.asStr.size + 2 ∧ psF a.asStr f d.asInt x.asList = psR a.asStr ∧ 6 ≤ f + x.asList.length ∧ x.asList.length ≤ 5) (fun v => 5 - (cell v 1).asList.length)
    ⟨6, .int 1, .sl [], by simp [chunk], by simp, by simp; omega, rfl, by simp, by simp⟩ ?_
  simp only [allN_succ, allN_zero, kinds_cons, kinds_nil]
  rintro d x _ _ ⟨f, d', x', e, h0, h1, h2, h3, h4⟩
  simp only [List.cons.injEq, and_true] at e
  obtain ⟨rfl, rfl⟩ := e
  obtain ⟨f, rfl⟩ : ∃ g, f = g + 1 := ⟨f - 1, by omega⟩
  rw [psF] at h2
  have w0 : IntKind.i64.wrap ((a.asStr.size : Int) - 1) = (a.asStr.size : Int) - 1 := w64 (by omega) (by omega)
  have w2 : IntKind.i64.wrap (d.asInt + 2) = d.asInt + 2 := w64 (by omega) (by omega)
  simp [g27, RSh.cells, show Φ 27 = mPS from rfl, show Φ 28 = mTo from rfl, show Φ 46 = mSetT from rfl, mTo, mSetT, mPS, con, chunk, lenMax, w0, w2]
  refine ⟨fun c1 c2 => ⟨fun cl => ?_, fun cl => ?_⟩, fun c => ?_⟩
  · rw [if_pos ⟨c1, by omega⟩] at h2
    simp only [if_pos cl] at h2
    have hA : 0 ≤ d.asInt + 2 := by omega
    have hA2 : d.asInt + 2 ≤ 1048580 := by omega
    generalize d.asInt + 2 = A at hA hA2 h2 ⊢
    refine ⟨⟨by omega, hp⟩, fun k => ?_, fun k => ?_⟩
    · rw [if_pos k] at h2
      exact fin _ h2.symm
    · have r1 := toN_range a.asStr A 61
      have w1 : IntKind.i64.wrap (toN a.asStr A 61 + 1) = toN a.asStr A 61 + 1 := w64 (by omega) (by omega)
      rw [w1]
      have r2 := toN_range a.asStr (toN a.asStr A 61 + 1) 34
      refine ⟨⟨by omega, hp⟩, fun k2 => ?_, fun k2 => ?_⟩
      · rw [if_neg (by omega), if_pos k2] at h2
        exact fin _ h2.symm
      · rw [if_neg (by omega), if_neg (by omega)] at h2
        exact ⟨⟨by omega, by omega⟩, ⟨f, _, _, ⟨rfl, rfl⟩, by simp; omega, by simp; omega, by simpa using h2, by simp; omega, by simp; omega⟩, by omega⟩
  · have cl' : x.asList.length = 0 := by simp [cl]
    rw [if_pos ⟨c1, by omega⟩] at h2
    simp only [if_neg (show ¬ 0 < x.asList.length by omega)] at h2
    have hA : 0 ≤ d.asInt := h0
    have hA2 : d.asInt ≤ 1048580 := by omega
    generalize d.asInt = A at hA hA2 h2 ⊢
    refine ⟨⟨by omega, hp⟩, fun k => ?_, fun k => ?_⟩
    · rw [if_pos k] at h2
      exact fin _ h2.symm
    · have r1 := toN_range a.asStr A 61
      have w1 : IntKind.i64.wrap (toN a.asStr A 61 + 1) = toN a.asStr A 61 + 1 := w64 (by omega) (by omega)
      rw [w1]
      have r2 := toN_range a.asStr (toN a.asStr A 61 + 1) 34
      refine ⟨⟨by omega, hp⟩, fun k2 => ?_, fun k2 => ?_⟩
      · rw [if_neg (by omega), if_pos k2] at h2
        exact fin _ h2.symm
      · rw [if_neg (by omega), if_neg (by omega)] at h2
        exact ⟨⟨by omega, by omega⟩, ⟨f, _, _, ⟨rfl, rfl⟩, by simp; omega, by simp; omega, by simpa using h2, by simp; omega, by simp; omega⟩, by omega⟩
  · rw [if_neg (by omega)] at h2
    exact fin _ h2.symm)
end Go.Proofs.YthibophjhdoooaaDoor


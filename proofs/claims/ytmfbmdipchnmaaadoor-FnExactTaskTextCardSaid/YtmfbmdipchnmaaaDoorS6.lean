/-
  The laws of SubText, TaskText and DeedText.
-/
import Derived.Test.YtmfbmdipchnmaaaDoorS5
set_option linter.unusedVariables false
set_option linter.unusedSimpArgs false
namespace Go.Proofs.YtmfbmdipchnmaaaDoor
open Go.Vx

theorem szM_ok {n : Nat} {l : Int} (h : 0 ≤ szM n l) : (n : Int) ≤ l ∧ szM n l = l - n := by
  rcases Int.lt_or_le l n with h' | h'
  · rw [szM_neg h'] at h; omega
  · exact ⟨h', szM_pos h'⟩
theorem szSb (r : List D) : (cell r 0).asList.length ≤ szDs kSub' r := by simp only [szDs_cons, szDs_nil, szD, cell_tail, Nat.zero_add, Nat.reduceAdd]; omega

theorem ok3 : Good1 Tryd.prog Φ g3 := good1 tok mixed (l := [g7, g8, g9.x, g10, g11]) (by simp [ok7, ok8, Good1.x ok9, ok10, ok11]) Tryd.func3 (by decide) (by decide) v3_eq (args1 fun a hw hp => by
  simp [v3, g3, Φ, mLaw, mSzA, mToA, mEqA, mSubT, szPre, cnDs_cons, cnDs_nil]
  intro h1
  obtain ⟨h2, h3⟩ := szM_ok h1
  have hl := szSb a.row
  rw [eqDs_refl kSub]
  have e : (cnD (.sl 35 kAlarm') (cell a.row 0)).asList.length = (cell a.row 0).asList.length := by simp [cnD]
  have ht : toPre kSub' [a] := by simp [toPre]; omega
  rw [e]
  exact ⟨⟨ht, by omega⟩, ht, by omega, ht, rfl⟩)
theorem ok4 : Good1 Tryd.prog Φ g4 := good1 tok mixed (l := [g12, g13, g14.x, g15, g16]) (by simp [ok12, ok13, Good1.x ok14, ok15, ok16]) Tryd.func4 (by decide) (by decide) v4_eq (args1 fun a hw hp => by
  simp [v4, g4, Φ, mLaw, mSzA, mToA, mEqA, mTaskT, szPre, cnDs_cons, cnDs_nil]
  intro h1
  obtain ⟨h2, h3⟩ := szM_ok h1
  rw [eqDs_refl kTask]
  have ht : toPre kTask' [a] := by simp [toPre]; omega
  exact ⟨ht, rfl⟩)
theorem ok6 : Good1 Tryd.prog Φ g6 := good1 tok mixed (l := [g22, g23, g24.x, g25, g26]) (by simp [ok22, ok23, Good1.x ok24, ok25, ok26]) Tryd.func6 (by decide) (by decide) v6_eq (args1 fun a hw hp => by
  simp [v6, g6, Φ, mLaw, mSzA, mToA, mEqA, mDeedT, szPre, cnDs_cons, cnDs_nil]
  intro h1
  obtain ⟨h2, h3⟩ := szM_ok h1
  rw [eqDs_refl kDeed]
  have ht : toPre kDeed' [a] := by simp [toPre]; omega
  exact ⟨ht, rfl⟩)
end Go.Proofs.YtmfbmdipchnmaaaDoor

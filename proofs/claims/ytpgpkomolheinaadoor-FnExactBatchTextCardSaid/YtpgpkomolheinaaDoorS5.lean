/-
  The laws of AlarmsText and BatchText.
-/
import Derived.Test.YtpgpkomolheinaaDoorS4
namespace Go.Proofs.YtpgpkomolheinaaDoor
open Go.Vx

theorem szM_ok {n : Nat} {l : Int} (h : 0 ≤ szM n l) : (n : Int) ≤ l ∧ szM n l = l - n := by
  rcases Int.lt_or_le l n with h' | h'
  · rw [szM_neg h'] at h; omega
  · exact ⟨h', szM_pos h'⟩

theorem szBt3 (r : List D) : (cell r 3).asList.length ≤ szDs kBatch' r := by simp only [szDs_cons, szDs_nil, szD, cell_tail, Nat.zero_add, Nat.reduceAdd]; omega

theorem ok3 : Good1 Tryd.prog Φ g3 := good1 tok mixed (l := [g5, g6, g7.x, g8, g9]) (by simp [ok5, ok6, Good1.x ok7, ok8, ok9]) Tryd.func3 (by decide) (by decide) v3_eq (args1 fun a hw hp => by
  simp [v3, g3, Φ, mLaw, mSzL, mToL, mEqL, mAlsT, szPre, toPreL, eqR_refl (eqDs_refl kAlarm)]
  intro h1
  obtain ⟨h2, h3⟩ := szM_ok h1
  omega)

theorem ok4 : Good1 Tryd.prog Φ g4 := good1 tok mixed (l := [g10, g11, g12.x, g13, g14]) (by simp [ok10, ok11, Good1.x ok12, ok13, ok14]) Tryd.func4 (by decide) (by decide) v4_eq (args1 fun a hw hp => by
  simp [v4, g4, Φ, mLaw, mSzA, mToA, mEqA, mBtT, szPre, cnDs_cons, cnDs_nil]
  intro h1
  obtain ⟨h2, h3⟩ := szM_ok h1
  have hl := szBt3 a.row
  rw [eqDs_refl kBatch]
  have e : (cnD (.sl 42 kAlarm') (cell a.row 3)).asList.length = (cell a.row 3).asList.length := by simp [cnD]
  have ht : toPre kBatch' [a] := by simp [toPre]; omega
  rw [e]
  exact ⟨⟨ht, by omega⟩, ht, by omega, ht, rfl⟩)
end Go.Proofs.YtpgpkomolheinaaDoor

/-
  Contracts: Bound.
-/
import Derived.Test.YtllhihloidkghaaSF
namespace Go.Proofs.Ytllhihloidkghaa
open Go.Vx

theorem szM_ok {n : Nat} {l : Int} (h : 0 ≤ szM n l) : (n : Int) ≤ l ∧ szM n l = l - n := by
  rcases Int.lt_or_le l n with h' | h'
  · rw [szM_neg h'] at h; omega
  · exact ⟨h', szM_pos h'⟩

theorem ok22 : Good1 Try.prog Φ g22 := good1 tok mixed (l := []) (by simp) Try.func22 (by decide) (by decide) v22_eq (args1 fun a hw hp => by
  simp [v22, g22, show Φ 22 = mBound from rfl, mBound])
theorem ok20 : Good1 Try.prog Φ g20 := good1 tok mixed (l := []) (by simp) Try.func20 (by decide) (by decide) v20_eq (args1 fun a hw hp => by
  simp [g20] at hw
  have h1 : ((cell a.row 10).asList.length : Int) ≤ 140737488355328 := by have : (cell a.row 10).asList.length ≤ lenMax := by simp [hw]
                                                                          simp only [lenMax] at this; omega
  have h2 : ((cell a.row 14).asList.length : Int) ≤ 140737488355328 := by have : (cell a.row 14).asList.length ≤ lenMax := by simp [hw]
                                                                          simp only [lenMax] at this; omega
  simp [v20, g20, show Φ 20 = mBound from rfl, mBound]
  rw [w64 (n := (cell a.row 10).asList.length + (cell a.row 14).asList.length) (by omega) (by omega), w64 (n := 6 * ((cell a.row 10).asList.length + (cell a.row 14).asList.length)) (by omega) (by omega),
    w64 (n := 6 * (cell a.row 10).asList.length) (by omega) (by omega), w64 (n := 6 * (cell a.row 14).asList.length) (by omega) (by omega), w64 (n := 100 + 6 * (cell a.row 10).asList.length) (by omega) (by omega)]
  congr 1
  omega)

theorem ok5 : Good1 Try.prog Φ g5 := good1 tok mixed (l := [g19, g20, g21, g22, g23]) (by simp [ok19, ok20, ok21, ok22, ok23]) Try.func5 (by decide) (by decide) v5_eq (args1 fun a hw hp => by
  simp [v5, g5, show Φ 5 = mLaw from rfl, show Φ 19 = mSzA kWorld' from rfl, show Φ 21 = mToA kWorld' from rfl, show Φ 23 = mEqA kWorld from rfl,
    show Φ 20 = mBound from rfl, show Φ 22 = mBound from rfl, mLaw, mSzA, mToA, mEqA, mBound, szPre, toPre, eqDs_refl kWorld]
  intro h1
  obtain ⟨h2, h3⟩ := szM_ok h1
  omega)
end Go.Proofs.Ytllhihloidkghaa

/-
  Laws over the functions of S2: for every input they return true.
-/
import Derived.Test.YtpgpkomolheinaaS2
import Derived.Test.YtpgpkomolheinaaVxb
import Derived.Test.YtpgpkomolheinaaRows
namespace Go.Proofs.Ytpgpkomolheinaa
open Go.Vx

theorem szM_ok {n : Nat} {l : Int} (h : 0 ≤ szM n l) : (n : Int) ≤ l ∧ szM n l = l - n := by
  rcases Int.lt_or_le l n with h' | h'
  · rw [szM_neg h'] at h; omega
  · exact ⟨h', szM_pos h'⟩

theorem ok3 : Good1 Try.prog Φ g3 := good1 tok mixed (l := [g13, g14, g15, g16, g17]) (by simp [ok13, ok14, ok15, ok16, ok17]) Try.func3 (by decide) (by decide) v3_eq (args2 fun a b hw hp => by
  simp [v3, g3, Φ, mLaw, mSzL, mToL, mEqL, mWithin, szPre, toPreL, eqR_refl (eqDs_refl kAlarm)]
  intro h1
  obtain ⟨h2, h3⟩ := szM_ok h1
  rw [h3]
  refine ⟨by omega, fun h4 => ?_⟩
  obtain ⟨h5, h6⟩ := szM_ok h4
  omega)

theorem ok5 : Good1 Try.prog Φ g5 := good1 tok mixed (l := [g26, g27, g28, g29, g30]) (by simp [ok26, ok27, ok28, ok29, ok30]) Try.func5 (by decide) (by decide) v5_eq (args1 fun a hw hp => by
  simp [v5, g5, Φ, mLaw, mSzL, mToL, mEqL, mInTime, szPre, toPreL, eqR_refl (eqDs_refl kDeed)]
  intro h1
  obtain ⟨h2, h3⟩ := szM_ok h1
  omega)
end Go.Proofs.Ytpgpkomolheinaa

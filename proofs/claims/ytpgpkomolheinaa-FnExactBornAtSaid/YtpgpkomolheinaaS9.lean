/-
  The laws of LagsOf and BornAt.
-/
import Derived.Test.YtpgpkomolheinaaS8
import Derived.Test.YtpgpkomolheinaaS3
set_option linter.unusedVariables false
set_option linter.unusedSimpArgs false
namespace Go.Proofs.Ytpgpkomolheinaa
open Go.Vx

theorem lenDd {xs : List (List D)} (h : xs.length + sumR (szDs kDeed') xs ≤ 1048576) : lenD (.sl 0 kDeed) (.sl (xs.map (cnDs kDeed'))) := lenD_cn (.sl 0 kDeed') (.sl xs) (by simp only [szD, D.asList_sl]; omega)

theorem ok10 : Good1 Try.prog Φ g10 := good1 tok mixed (l := [g26, g28.x, g30, g55, g56])
    (by simp [ok26, Good1.x ok28, ok30, ok55, ok56]) Try.func10 (by decide) (by decide) v10_eq (args2 fun a b hw hp => by
  simp [v10, g10, Φ, mLaw, mSzL, mToL, mEqL, mLags, szPre, toPreL, eqR_refl (eqDs_refl kDeed)]
  intro h1
  obtain ⟨h2, h3⟩ := szM_ok h1
  have l1 := lenDd (xs := a.asList) (by omega)
  repeat' (first | omega | assumption | apply And.intro | intro _))
theorem ok11 : Good1 Try.prog Φ g11 := good1 tok mixed (l := [g26, g28.x, g30, g57, g58])
    (by simp [ok26, Good1.x ok28, ok30, ok57, ok58]) Try.func11 (by decide) (by decide) v11_eq (args2 fun a b hw hp => by
  simp [v11, g11, Φ, mLaw, mSzL, mToL, mEqL, mBorn, szPre, toPreL, eqR_refl (eqDs_refl kDeed)]
  intro h1
  obtain ⟨h2, h3⟩ := szM_ok h1
  have l1 := lenDd (xs := a.asList) (by omega)
  repeat' (first | omega | assumption | apply And.intro | intro _))
end Go.Proofs.Ytpgpkomolheinaa

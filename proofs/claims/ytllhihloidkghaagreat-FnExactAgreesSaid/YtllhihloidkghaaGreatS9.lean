/-
  The law of Agrees.
-/
import Derived.Test.YtllhihloidkghaaGreatS8
set_option linter.unusedVariables false
set_option linter.unusedSimpArgs false
namespace Go.Proofs.YtllhihloidkghaaGreat
open Go.Vx

theorem lenMo {r : List D} (h : szDs kModel' r ≤ 1048576) : lenDs kModel (cnDs kModel' r) := lenDs_cn kModel' r (by omega)

theorem ok3 : Good1 Tryz.prog Φ g3 := good1 tok mixed (l := [g4, g5, g6, g7.x, g8.x, g9, g10, g11])
    (by simp [ok4, ok5, ok6, Good1.x ok7, Good1.x ok8, ok9, ok10, ok11]) Tryz.func3 (by decide) (by decide) v3_eq (args2 fun a b hw hp => by
  simp [v3, g3, show Φ 3 = mLaw from rfl, show Φ 4 = mSzA kWorld' from rfl, show Φ 5 = mSzA kModel' from rfl,
    show Φ 7 = mToA kWorld' from rfl, show Φ 8 = mToA kModel' from rfl, show Φ 10 = mEqA kWorld from rfl, show Φ 11 = mEqA kModel from rfl, show Φ 6 = mAgrees from rfl, show Φ 9 = mAgrees from rfl,
    mLaw, mSzA, mToA, mEqA, mAgrees, szPre, toPre, eqDs_refl kWorld, eqDs_refl kModel]
  intro h1
  obtain ⟨h2, h3⟩ := szM_ok h1
  simp only [mkW0, mkW]
  have e1 := szW' a.row
  rw [h3]
  refine ⟨by omega, fun h4 => ?_⟩
  obtain ⟨h5, h6⟩ := szM_ok h4
  omega)
end Go.Proofs.YtllhihloidkghaaGreat

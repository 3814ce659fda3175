import Derived.Test.YtlkidecpmfhheaaGreatY18
set_option linter.all false
namespace Go.Proofs.YtlkidecpmfhheaaGreat
open Go.Vx
theorem ok3 : Good1 Tryz.prog Φ g3 := good1 tok mixed (l := [g6, g7, g8.x, g9, g10])
   (by simp [ok6, ok7, Good1.x ok8, ok9, ok10]) Tryz.func3 (by decide) (by decide) v3_eq (args1 fun a hw hp => by
 simp [v3, g3, Φ3, Φ6,
   Φ8, Φ10, show Φ 7 = mBw _ _ from rfl, show Φ 9 = mBw _ _ from rfl,
   mLaw, mSzA, mToA, mEqA, mBw, szPre, toPre, eqDs_refl kWorld]
 intro h1
 obtain ⟨h2, h3⟩ := szM_ok h1
 simp only [mkW0, mkW]
 have e1 := szW' a.row
 omega)
end Go.Proofs.YtlkidecpmfhheaaGreat

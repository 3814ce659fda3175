/-
  The law of LastOf.
-/
import Derived.Test.YtpgpkomolheinaaS5
import Derived.Test.YtpgpkomolheinaaS3
set_option linter.unusedVariables false
set_option linter.unusedSimpArgs false
namespace Go.Proofs.Ytpgpkomolheinaa
open Go.Vx

theorem cnt_lasts (a : List (List D)) : sumR (cntDs kAlarm) (stS ltA (lastsN cpAl a a.length)) ≤ sumR (cntDs kAlarm) a := by
  rw [sumR_perm (stS_perm ltA _)]
  have := pickN_sum (p := cntDs kAlarm) (c := lastAt a) (f := fun i => cpAl (rowN a i)) (xs := a) (fun i _ => by rw [cnt_cpAl]; exact Nat.le_refl _) a.length (Nat.le_refl _)
  rwa [List.take_of_length_le (Nat.le_refl _)] at this
theorem len_lasts {a : List (List D)} (h : lenD (.sl 0 kAlarm) (.sl a)) : lenD (.sl 0 kAlarm) (.sl (stS ltA (lastsN cpAl a a.length))) := by
  simp only [lenD_sl, D.asList_sl] at h ⊢
  refine ⟨by rw [stS_length]; exact Nat.le_trans (lastsN_len _ _ _) h.1, fun r hr => ?_⟩
  obtain ⟨i, hi, _, rfl⟩ := pickN_mem ((stS_perm ltA _).mem_iff.1 hr)
  exact len_cpAl (h.2 _ (rowN_mem hi)).2

theorem ok12 : Good1 Try.prog Φ g12 := good1 tok mixed (l := [g13, g15.xn [1088], g17, g23, g25, g49.x, g51])
    (by simp [ok13, Good1.xn ok15, ok17, ok51, Good1.x ok49, ok23, ok25]) Try.func12 (by decide) (by decide) v12_eq (args1 fun a hw hp => by
  simp [v12, g12, Φ, mLaw, mSzL, mToL, mEqL, mLastOf, mMrkL, mHldL, szPre, toPreL, mrkPre, hldPre, eqR_refl (eqDs_refl kAlarm), scanR_sum (cntDs_mrk kAlarm), scanR_all (mkdDs_mrk kAlarm) (cntDs_mrk kAlarm)]
  intro h1
  obtain ⟨h2, h3⟩ := szM_ok h1
  have e1 := szAl' a.asList
  have l1 := lenAl (xs := a.asList) (by omega)
  have l3 := len_lasts l1
  have c1 := cntAl (a.asList.map (cnDs kAlarm'))
  have c3 := cnt_lasts (a.asList.map (cnDs kAlarm'))
  rw [List.length_map] at c1 c3 l3
  repeat' (first | omega | assumption | apply And.intro | intro _))
end Go.Proofs.Ytpgpkomolheinaa

/-
  The law on texts.
-/
import Derived.Test.YthibophjhdoooaaDoorD6
set_option linter.unusedVariables false
set_option linter.unusedSimpArgs false
namespace Go.Proofs.YthibophjhdoooaaDoor
open Go.Vx

/-- Of the words of an alarm it comes back, if it is right. -/
theorem back_ok (r : List D) : IOk (alT r) ↔ AlOk r := by
  constructor
  · intro h
    by_cases h' : AlOk r
    · exact h'
    · unfold alT at h
      rw [tt_false h', cond_false] at h
      have := h.2.2.2.1
      rw [h.2.2.2.2] at this
      exact absurd rfl this
  · intro h
    rw [(alT_c h).2]
    exact (prog_run h).1
theorem norm_same : ∀ L : List (List D), eqR (eqDs kLabel) (L.map norm) L = true
  | [] => rfl
  | x :: L => by
    simp only [List.map_cons, eqR, norm_same L, Bool.and_true]
    simp [eqDs_cons, eqDs_nil, eqD_str, norm, nm, vl]
theorem back_same {r : List D} (h : AlOk r) : eqDs kAlarm (iRow (alT r)) r = true := by
  rw [(alT_c h).2, (prog_run h).2]
  simp [eqDs_cons, eqDs_nil, cRow, eqD_sl, eqD_int, eqD_str, norm_same]

noncomputable abbrev facts : List Fact := [fDP, fDA, fBend, fAnyA, fLabs, fAnyP, fAnyN, fNames, fRaw, fOdd, fAl, fLab, fPlain, fStr, fInt, fOnce, fBelow, fByte, fNew]

section
variable {Ψ : Fns} (K : Kept Φ facts Ψ)
set_option maxRecDepth 100000 in
set_option maxHeartbeats 2000000 in
include K in
theorem wp_law : ∀ ds : List D, ds.length = 1 → WFAs g3.args ds → v3.wp Ψ (fun l => l = [.bool true]) ds fun _ _ => False := args1 fun a hw => by
  have h4 : Ψ 4 = mBig := K.base _ rfl
  have h6 : Ψ 6 = mPA IOk iRow := K.base _ rfl
  have h7 : Ψ 7 = mAlT := K.base _ rfl
  have h9 : Ψ 9 = mPA SOk sRow := K.base _ rfl
  have h10 : Ψ 10 = mB fun ds => AlOk (cell ds 0).row := K.base _ rfl
  have h11 : Ψ 11 = mEqA kAlarm := K.base _ rfl
  by_cases hb : 1048576 < (a.asList.length : Int)
  · simp [v3, h4, mBig, hb]
  have hq : qCode [a] := by show a.asList.length ≤ 1048576; omega
  obtain ⟨c1, -⟩ := (K.at' 1 rfl).2 [a] rfl hw hq
  obtain ⟨c2, -, b1⟩ := (K.at' 0 rfl).2 [a] rfl hw hq
  simp [g5, g8] at c1 c2 b1
  generalize hA : (Ψ 5 0 [a]) = dA at *
  generalize hT : (Ψ 8 0 [a]) = dT at *
  have hz := alT_size dA.row
  have e1 : (alT dA.row).size ≤ 1048576 := by omega
  have e2 : dT.asStr.size ≤ 1048576 := by omega
  have hI : ∀ s : ByteArray, [D.sl (cell (iRow s) 0).asList, cell (iRow s) 1, cell (iRow s) 2, cell (iRow s) 3] = iRow s := fun _ => rfl
  have ag := (agree dT.asStr).1
  by_cases hok : AlOk dA.row
  · have k1 := (back_ok dA.row).2 hok
    have k2 := back_same hok
    by_cases hp : IOk dT.asStr
    · have k3 := (iok_row hp).1
      have k4 := hp.2.2.2.2
      simp [v3, h4, h6, h7, h9, h10, h11, mBig, mPA, mAlT, mB, mEqA, hb, hA, hT, c1, c2, e1, e2, hok, k1, k2, hp, ag, k3, k4, eqDs_refl kAlarm, hI]
    · simp [v3, h4, h6, h7, h9, h10, h11, mBig, mPA, mAlT, mB, mEqA, hb, hA, hT, c1, c2, e1, e2, hok, k1, k2, hp, ag, eqDs_refl kAlarm, hI]
  · have k1 : ¬ IOk (alT dA.row) := fun h => hok ((back_ok dA.row).1 h)
    by_cases hp : IOk dT.asStr
    · have k3 := (iok_row hp).1
      have k4 := hp.2.2.2.2
      simp [v3, h4, h6, h7, h9, h10, h11, mBig, mPA, mAlT, mB, mEqA, hb, hA, hT, c1, c2, e1, e2, hok, k1, hp, ag, k3, k4, eqDs_refl kAlarm, hI]
    · simp [v3, h4, h6, h7, h9, h10, h11, mBig, mPA, mAlT, mB, mEqA, hb, hA, hT, c1, c2, e1, e2, hok, k1, hp, ag, eqDs_refl kAlarm, hI]
end
end Go.Proofs.YthibophjhdoooaaDoor


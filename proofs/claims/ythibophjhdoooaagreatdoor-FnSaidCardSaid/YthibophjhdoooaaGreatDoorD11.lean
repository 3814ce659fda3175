/-
  The law on what is said.
-/
import Derived.Test.YthibophjhdoooaaGreatDoorD10
set_option linter.unusedVariables false
set_option linter.unusedSimpArgs false
namespace Go.Proofs.YthibophjhdoooaaGreatDoor
open Go.Vx

set_option maxRecDepth 100000
noncomputable abbrev facts : List Fact := [fWB, fFlush, fBCopy, fOver, fGAny, fGDraw, fJoin, fSLess, fGCopy, fTog, fKey, fProj, fHas, fBy, fWS, fSAny, fSDraw, fTell, fSCopy, fWL, fWT, fTAny, fAnyA, fRaw, fOdd, fLabs, fAnyP, fAnyN, fNames, fWD, fDAny, fCodes, fList, fAl, fPlain, fLab, fNew, fStr, fInt, fOnce, fBelow, fByte]
theorem drawn : ∃ Ψ, Kept Φ facts Ψ := by
  obtain ⟨Ψ1, h1⟩ := (Kept.nil Φ).add fByte rfl sByte
  obtain ⟨Ψ2, h2⟩ := h1.add fBelow rfl (sBelow (h1.at' 0 rfl))
  obtain ⟨Ψ3, h3⟩ := h2.add fOnce rfl (sOnce (h2.at' 0 rfl))
  obtain ⟨Ψ4, h4⟩ := h3.add fInt rfl (sInt (h3.at' 1 rfl))
  obtain ⟨Ψ5, h5⟩ := h4.add fStr rfl (sStr (h4.at' 2 rfl))
  obtain ⟨Ψ6, h6⟩ := h5.add fNew rfl sNew
  obtain ⟨Ψ7, h7⟩ := h6.add fLab rfl (sLab (h6.at' 1 rfl) (h6.at' 3 rfl))
  obtain ⟨Ψ8, h8⟩ := h7.add fPlain rfl (sPlain (h7.at' 2 rfl))
  obtain ⟨Ψ9, h9⟩ := h8.add fAl rfl (sAl (h8.at' 6 rfl) (h8.at' 1 rfl) (h8.at' 0 rfl) (h8.at' 4 rfl))
  obtain ⟨Ψ10, h10⟩ := h9.add fList rfl (sList (h9.at' 7 rfl) (h9.at' 0 rfl))
  obtain ⟨Ψ11, h11⟩ := h10.add fCodes rfl sCodes
  obtain ⟨Ψ12, h12⟩ := h11.add fDAny rfl (sDAny (h11.at' 9 rfl) (h11.at' 8 rfl) (h11.at' 2 rfl) (h11.at' 7 rfl) (h11.at' 4 rfl) (h11.at' 1 rfl) (h11.at' 0 rfl))
  obtain ⟨Ψ13, h13⟩ := h12.add fWD rfl (sWD (h12.at' 6 rfl) (h12.at' 0 rfl))
  obtain ⟨Ψ14, h14⟩ := h13.add fNames rfl (sNames (h13.at' 8 rfl))
  obtain ⟨Ψ15, h15⟩ := h14.add fAnyN rfl (sAnyN (h14.at' 11 rfl) (h14.at' 0 rfl) (h14.at' 9 rfl))
  obtain ⟨Ψ16, h16⟩ := h15.add fAnyP rfl (sAnyP (h15.at' 12 rfl) (h15.at' 7 rfl) (h15.at' 10 rfl))
  obtain ⟨Ψ17, h17⟩ := h16.add fLabs rfl (sLabs (h16.at' 9 rfl) (h16.at' 14 rfl) (h16.at' 1 rfl) (h16.at' 0 rfl))
  obtain ⟨Ψ18, h18⟩ := h17.add fOdd rfl (sOdd (h17.at' 13 rfl))
  obtain ⟨Ψ19, h19⟩ := h18.add fRaw rfl (sRaw (h18.at' 15 rfl) (h18.at' 0 rfl) (h18.at' 14 rfl))
  obtain ⟨Ψ20, h20⟩ := h19.add fAnyA rfl (sAnyA (h19.at' 10 rfl) (h19.at' 17 rfl) (h19.at' 2 rfl) (h19.at' 15 rfl) (h19.at' 0 rfl) (h19.at' 3 rfl))
  obtain ⟨Ψ21, h21⟩ := h20.add fTAny rfl (sTAny (h20.at' 18 rfl) (h20.at' 17 rfl) (h20.at' 11 rfl) (h20.at' 16 rfl) (h20.at' 13 rfl) (h20.at' 10 rfl) (h20.at' 0 rfl) (h20.at' 3 rfl))
  obtain ⟨Ψ22, h22⟩ := h21.add fWT rfl (sWT (h21.at' 15 rfl) (h21.at' 0 rfl))
  obtain ⟨Ψ23, h23⟩ := h22.add fWL rfl (sWL (h22.at' 16 rfl) (h22.at' 12 rfl))
  obtain ⟨Ψ24, h24⟩ := h23.add fSCopy rfl (sSCopy (h23.base _ rfl))
  obtain ⟨Ψ25, h25⟩ := h24.add fTell rfl (sTell (h24.at' 0 rfl) (h24.base _ rfl))
  obtain ⟨Ψ26, h26⟩ := h25.add fSDraw rfl (sSDraw (h25.at' 23 rfl) (h25.at' 16 rfl) (h25.at' 0 rfl))
  obtain ⟨Ψ27, h27⟩ := h26.add fSAny rfl (sSAny (h26.at' 0 rfl) (h26.at' 24 rfl) (h26.at' 6 rfl))
  obtain ⟨Ψ28, h28⟩ := h27.add fWS rfl (sWS (h27.at' 21 rfl) (h27.at' 0 rfl))
  obtain ⟨Ψ29, h29⟩ := h28.add fBy rfl (sBy (h28.at' 26 rfl))
  obtain ⟨Ψ30, h30⟩ := h29.add fHas rfl sHas
  obtain ⟨Ψ31, h31⟩ := h30.add fProj rfl (sProj (h30.at' 0 rfl))
  obtain ⟨Ψ32, h32⟩ := h31.add fKey rfl (sKey (h31.at' 0 rfl))
  obtain ⟨Ψ33, h33⟩ := h32.add fTog rfl (sTog (h32.at' 0 rfl) (h32.base _ rfl))
  obtain ⟨Ψ34, h34⟩ := h33.add fGCopy rfl (sGCopy (h33.base _ rfl))
  obtain ⟨Ψ35, h35⟩ := h34.add fSLess rfl (sSLess (h34.base _ rfl))
  obtain ⟨Ψ36, h36⟩ := h35.add fJoin rfl (sJoin (h35.at' 1 rfl) (h35.at' 0 rfl) (h35.base _ rfl) (h35.base _ rfl) (h35.base _ rfl))
  obtain ⟨Ψ37, h37⟩ := h36.add fGDraw rfl (sGDraw (h36.at' 34 rfl) (h36.at' 33 rfl) (h36.at' 27 rfl) (h36.at' 4 rfl) (h36.at' 3 rfl) (h36.at' 0 rfl))
  obtain ⟨Ψ38, h38⟩ := h37.add fGAny rfl (sGAny (h37.at' 0 rfl) (h37.at' 35 rfl) (h37.at' 20 rfl) (h37.at' 18 rfl) (h37.at' 33 rfl) (h37.at' 17 rfl))
  obtain ⟨Ψ39, h39⟩ := h38.add fOver rfl sOver
  obtain ⟨Ψ40, h40⟩ := h39.add fBCopy rfl (sBCopy (h39.base _ rfl))
  obtain ⟨Ψ41, h41⟩ := h40.add fFlush rfl (sFlush (h40.at' 6 rfl) (h40.at' 1 rfl) (h40.at' 0 rfl) (h40.base _ rfl))
  exact h41.add fWB rfl (sWB (h41.at' 35 rfl) (h41.at' 12 rfl) (h41.at' 3 rfl) (h41.at' 39 rfl) (h41.at' 0 rfl))

section
variable {Ψ : Fns} (K : Kept Φ facts Ψ)
set_option maxRecDepth 100000 in
set_option maxHeartbeats 2000000 in
include K in
theorem wp_law (fD : fWD.2 (Ψ 5)) (fT : fWT.2 (Ψ 6)) (fB : fWB.2 (Ψ 7)) (fL : fWL.2 (Ψ 8)) (fS : fWS.2 (Ψ 9)) : ∀ ds : List D, ds.length = 1 → WFAs g3.args ds → v3.wp Ψ (fun l => l = [.bool true]) ds fun _ _ => False := args1 fun a hw => by
  have h4 : Ψ 4 = mBig := K.base _ rfl
  have h10 : Ψ 10 = mDeedT := K.base _ rfl
  have h11 : Ψ 11 = mDeedT := K.base _ rfl
  have h12 : Ψ 12 = mTaskT := K.base _ rfl
  have h13 : Ψ 13 = mTaskT := K.base _ rfl
  have h14 : Ψ 14 = mBtT := K.base _ rfl
  have h15 : Ψ 15 = mBtT := K.base _ rfl
  have h16 : Ψ 16 = mAlsT := K.base _ rfl
  have h17 : Ψ 17 = mAlsT := K.base _ rfl
  have h18 : Ψ 18 = mSubT := K.base _ rfl
  have h19 : Ψ 19 = mSubT := K.base _ rfl
  by_cases hb : 1048576 < (a.asList.length : Int)
  · simp [v3, h4, mBig, hb]
  have hq : qCode [a] := by show a.asList.length ≤ 1048576; omega
  obtain ⟨c1, -⟩ := fD.2 [a] rfl hw hq
  obtain ⟨c2, -⟩ := fT.2 [a] rfl hw hq
  obtain ⟨c3, -, b3⟩ := fB.2 [a] rfl hw hq
  obtain ⟨c4, -, b4, b5⟩ := fL.2 [a] rfl hw hq
  obtain ⟨c5, -, b6⟩ := fS.2 [a] rfl hw hq
  simp [g7, g8, g9] at b3 b4 b5 b6
  generalize hD : Ψ 5 0 [a] = dD at *
  generalize hT : Ψ 6 0 [a] = dT at *
  generalize hB : Ψ 7 0 [a] = dB at *
  generalize hL : Ψ 8 0 [a] = dL at *
  generalize hS : Ψ 9 0 [a] = dS at *
  have e3 : (cell dB.row 3).asList.length ≤ 1048576 := by omega
  have e4 : dL.asList.length ≤ 1048576 := by omega
  have e6 : (cell dS.row 0).asList.length ≤ 1048576 := by omega
  have n1 := als_ne b5
  have n2 := deed_ne dD.row
  simp [v3, h4, h10, h11, h12, h13, h14, h15, h16, h17, h18, h19, mBig, mDeedT, mTaskT, mBtT, mAlsT, mSubT, hb, hD, hT, hB, hL, hS, c1, c2, c3, c4, c5, e3, e4, e6, n1, n2]
end
end Go.Proofs.YthibophjhdoooaaGreatDoor


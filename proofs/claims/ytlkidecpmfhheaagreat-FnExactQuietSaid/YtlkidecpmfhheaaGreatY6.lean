import Derived.Test.YtlkidecpmfhheaaGreatY5
set_option linter.all false
namespace Go.Proofs.YtlkidecpmfhheaaGreat
open Go.Vx
theorem hasI {xs : List (List D)} {c : Int} : (∃ j, j < xs.length ∧ (cell (rowN xs j) 0).asInt = c) ↔ ∃ r, r ∈ xs ∧ (cell r 0).asInt = c := by
 constructor
 · rintro ⟨j, hj, h⟩; exact ⟨_, rowN_mem hj, h⟩
 · rintro ⟨r, hr, h⟩
   obtain ⟨j, hj, e⟩ := List.getElem_of_mem hr
   exact ⟨j, hj, by rw [rowN_lt hj, e]; exact h⟩
theorem codes_has {op c : Int} : (∃ j, j < (mCodes 0 [.int op]).asList.length ∧ (cell (rowN (mCodes 0 [.int op]).asList j) 0).asInt = c) ↔ codeP op c := by
 rw [hasI]
 simp only [mCodes, con_zero, cell_zero, D.asInt_int, D.asList_sl, codeP, In]
 by_cases h1 : op = 1
 · simp [h1]; omega
 by_cases h3 : op = 3
 · simp [h3]; omega
 by_cases h7 : op = 7
 · simp [h7]; omega
 by_cases h8 : op = 8
 · simp [h8]; omega
 by_cases h9 : op = 9
 · simp [h9]; omega
 simp [h1, h3, h7, h8, h9]; omega
theorem codes_cell {d : D} : mCodes 0 [d] = mCodes 0 [.int d.asInt] := by simp [mCodes]
theorem ok90 : Good1 Tryz.prog Φ g90 := good1 tok mixed (l := [g86, g157, g158]) (by simp [ok86, ok157, ok158]) Tryz.func90 (by decide) (by decide) v90_eq (args1 fun a hw hp => by
 have e := codes_has (op := (cell a.row 0).asInt) (c := (cell a.row 9).asInt)
 have e2 := @codes_cell (cell a.row 0)
 simp [v90, g90, Φ90, show Φ 157 = mHasI from rfl, Φ158, Φ86, mB, mHasI, DeedP, In, eq_tt, e2, e]
 have e3 : (mCodes 1000 [cell a.row 0]).asBool = true := by simp [mCodes]
 grind)
theorem ok326 : Good1 Tryz.prog Φ g326 := good1 tok mixed (l := []) (by simp) Tryz.func326 (by decide) (by decide) v326_eq (args2 fun a b hw hp => by
 show v326.wp Φ (fun l => l = [.int (chainAt a.row b.asInt)]) [a, b] _
 have hl := wfs_at hw.1 2 rfl
 refine scan_wp (s := 0) (N := (cell a.row 2).asList.length) (fun i => (cell (rowN (cell a.row 2).asList i) 0).asInt = b.asInt) rfl (fun d => by simp) hl (by omega) (fun i _ hi _ => ?_) (fun i _ hi hj hp q => ?_) fun h i q => ?_
 · simp [rowAt_nat, hi]
 · simp [chainAt, findR_eq (p := fun c => (cell c 0).asInt = b.asInt) hi hj hp]
 · simp [chainAt, findR_none (p := fun c => (cell c 0).asInt = b.asInt) h])
theorem ok296 : Good1 Tryz.prog Φ g296 := good1 tok mixed (l := []) (by simp) Tryz.func296 (by decide) (by decide) v296_eq (args2 fun a b hw hp => by
 show v296.wp Φ (fun l => l = [.int (chainAt a.row b.asInt)]) [a, b] _
 have hl := wfs_at hw.1 2 rfl
 refine scan_wp (s := 0) (N := (cell a.row 2).asList.length) (fun i => (cell (rowN (cell a.row 2).asList i) 0).asInt = b.asInt) rfl (fun d => by simp) hl (by omega) (fun i _ hi _ => ?_) (fun i _ hi hj hp q => ?_) fun h i q => ?_
 · simp [rowAt_nat, hi]
 · simp [chainAt, findR_eq (p := fun c => (cell c 0).asInt = b.asInt) hi hj hp]
 · simp [chainAt, findR_none (p := fun c => (cell c 0).asInt = b.asInt) h])
theorem ok297 : Good1 Tryz.prog Φ g297 := good1 tok mixed (l := [g163]) (by simp [ok163]) Tryz.func297 (by decide) (by decide) v297_eq (args2 fun a b hw hp => by
 show v297.wp Φ (fun l => l = [.int (inCh (cell a.row 1).asList b.asList)]) [a, b] _
 have hl := wfs_at hw.1 1 rfl
 refine scan_wp (s := 0) (N := (cell a.row 1).asList.length) (fun i => eqR (eqDs kLabel) (cell (rowN (cell a.row 1).asList i) 0).asList b.asList = true) rfl (fun d => by simp) hl (by omega) (fun i _ hi _ => ?_) (fun i _ hi hj hp q => ?_) fun h i q => ?_
 · simp [rowAt_nat, hi, Φ297, Φ163, mInCh, mEqL]
 · simp [inCh, findR_eq (p := fun c => eqR (eqDs kLabel) (cell c 0).asList b.asList = true) hi hj hp]
 · simp [inCh, findR_none (p := fun c => eqR (eqDs kLabel) (cell c 0).asList b.asList = true) h])
theorem ok327 : Good1 Tryz.prog Φ g327 := good1 tok mixed (l := [g332]) (by simp [ok332]) Tryz.func327 (by decide) (by decide) v327_eq (args2 fun a b hw hp => by
 simp [v327, g327, Φ327, Φ332, mInCh, mStands, inCh])
theorem ok252 : Good1 Tryz.prog Φ g252 := good1 tok mixed (l := [g248]) (by simp [ok248]) Tryz.func252 (by decide) (by decide) v252_eq (args2 fun a b hw hp => by
 simp [g252, lenMax] at hw
 show v252.wp Φ (fun l => l = [.int (findR (fun g => eqR (eqDs kLabel) (cell g 1).asList b.asList = true) a.asList 0)]) [a, b] _
 refine scan2_wp (s := 0) (N := a.asList.length) (fun i => eqR (eqDs kLabel) (cell (rowN a.asList i) 1).asList b.asList = true) rfl (fun d => by simp) (by omega) (by omega) (fun i _ hi _ => ?_) (fun i _ hi hj hp q => ?_) fun h i q => ?_
 · simp [rowAt_nat, hi, Φ252, Φ248, mGroupOf, mEqL]
 · simp [findR_eq (p := fun c => eqR (eqDs kLabel) (cell c 1).asList b.asList = true) hi hj hp]
 · simp [findR_none (p := fun c => eqR (eqDs kLabel) (cell c 1).asList b.asList = true) h])
end Go.Proofs.YtlkidecpmfhheaaGreat

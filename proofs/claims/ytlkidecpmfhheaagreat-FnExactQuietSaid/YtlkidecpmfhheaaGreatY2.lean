import Derived.Test.YtlkidecpmfhheaaGreatY1
set_option linter.all false
namespace Go.Proofs.YtlkidecpmfhheaaGreat
open Go.Vx
theorem ok228 : Good1 Tryz.prog Φ g228 := good1 tok mixed (l := [g162]) (by simp [ok162]) Tryz.func228 (by decide) (by decide) v228_eq (args1 fun a hw hp => by
 simp [v228, g228, Φ228, Φ162, mB, mEqA, zeroA, eqDs_cons, eqDs_nil, eqD_str, eqD_int, eqD_bool, eqD_sl]
 rw [Bool.eq_iff_iff]; simp [eqR_iff]
 intro _ _ _ h i hi; simp [h] at hi)
theorem ok157 : Good1 Tryz.prog Φ g157 := good1 tok mixed (l := []) (by simp) Tryz.func157 (by decide) (by decide) v157_eq (args2 fun a b hw hp => by
 simp [g157] at hw
 show v157.wp Φ (fun l => l = [.bool (tt (∃ j, j < a.asList.length ∧ (cell (rowN a.asList j) 0).asInt = b.asInt))]) [a, b] _
 refine scan_wp (s := 0) (N := a.asList.length) (fun i => (cell (rowN a.asList i) 0).asInt = b.asInt) rfl (fun d => by simp) (len64 hw.1.1) (by omega) (fun i _ hi _ => ?_) (fun i _ hi _ hp q => ?_) fun h i q => ?_
 · simp [rowAt_nat, hi]
 · simp only [wp_ret', List.map_cons, List.map_nil, den_bool]
   rw [tt_ok _ |>.mpr ⟨i, hi, hp⟩]
 · simp only [wp_ret', List.map_cons, List.map_nil, den_bool]
   rw [tt_no _ |>.mpr fun ⟨j, hj, hp⟩ => h j (by omega) hj hp])
def isBusy (t : List D) : Nat := if (cell t 0).asInt = 0 then 0 else 1
theorem busy_le (xs : List (List D)) : sumR isBusy xs ≤ xs.length := by
 induction xs with
 | nil => simp [sumR]
 | cons x xs ih => simp only [sumR, List.length_cons, isBusy]; split <;> omega
theorem busyN_eq (w : List D) : busyN w = sumR isBusy (cell w 17).asList := rfl
theorem ok29 : Good1 Tryz.prog Φ g29 := good1 tok mixed (l := []) (by simp) Tryz.func29 (by decide) (by decide) v29_eq (args1 fun a hw hp => by
 show v29.wp Φ (fun l => l = [.int (busyN a.row)]) [a] _
 have hl := wfs_at hw.1 17 rfl
 refine loop2'_wp (N := (cell a.row 17).asList.length) rfl (fun d d' => by simp) hl (fun i x => x = .int (sumR isBusy ((cell a.row 17).asList.take i))) (by simp [sumR]) (fun i x hi _ hx => ?_) fun x _ hx p => ?_
 · subst hx
   have h1 := sumR_take isBusy hi
   have h2 := busy_le ((cell a.row 17).asList.take i)
   have h3 : ((cell a.row 17).asList.take i).length ≤ i := by simp; omega
   simp [rowAt_nat, hi]
   rw [h1]
   refine ⟨fun h => ?_, fun h => ?_⟩ <;> simp only [isBusy, h, if_false, if_true]
   · rw [w64 (by omega) (by omega)]; simp
   · simp
 · subst hx
   simp [busyN_eq])
theorem ok41 : Good1 Tryz.prog Φ g41 := good1 tok mixed (l := []) (by simp) Tryz.func41 (by decide) (by decide) v41_eq (args1 fun a hw hp => by
 show v41.wp Φ (fun l => l = [.int (busyN a.row)]) [a] _
 have hl := wfs_at hw.1 17 rfl
 refine loop2'_wp (N := (cell a.row 17).asList.length) rfl (fun d d' => by simp) hl (fun i x => x = .int (sumR isBusy ((cell a.row 17).asList.take i))) (by simp [sumR]) (fun i x hi _ hx => ?_) fun x _ hx p => ?_
 · subst hx
   have h1 := sumR_take isBusy hi
   have h2 := busy_le ((cell a.row 17).asList.take i)
   have h3 : ((cell a.row 17).asList.take i).length ≤ i := by simp; omega
   simp [rowAt_nat, hi]
   rw [h1]
   refine ⟨fun h => ?_, fun h => ?_⟩ <;> simp only [isBusy, h, if_false, if_true]
   · rw [w64 (by omega) (by omega)]; simp
   · simp
 · subst hx
   simp [busyN_eq])
theorem ok303 : Good1 Tryz.prog Φ g303 := good1 tok mixed (l := []) (by simp) Tryz.func303 (by decide) (by decide) v303_eq (args2 fun a b hw hp => by
 simp [g303] at hw
 exact eqV'_wp (Φ := Φ) (a := a) (b := b) (p := eqDs [.int .i64]) (tests := []) (t := .op (.bin .neq .i64) [.op (.fld 0) [mkE (.var 0) (.var 2)], .op (.fld 0) [mkE (.var 1) (.var 2)]]) hw.1.1
   (fun i h1 h2 => ⟨trivial, by simp [rowAt_nat, eqDs_cons, eqDs_nil, eqD_str, eqD_int, eqD_bool]⟩) _)
theorem pred_at (xs : List (List D)) {i : Nat} (h1 : 0 < i) : Go.Vx.rowAt xs ((i : Int) - 1) = rowN xs (i - 1) := by
 rw [show ((i : Int) - 1) = ((i - 1 : Nat) : Int) by omega, Go.Vx.rowAt_nat]
theorem pred64 {i : Nat} (h : i ≤ 140737488355328) : IntKind.i64.wrap ((i : Int) - 1) = (i : Int) - 1 := w64 (by omega) (by omega)
theorem ok224 : Good1 Tryz.prog Φ g224 := good1 tok mixed (l := [g293]) (by simp [ok293]) Tryz.func224 (by decide) (by decide) v224_eq (args1 fun a hw hp => by
 simp [g224, lenMax] at hw
 show v224.wp Φ (fun l => l = [.bool (tt (InOrd a.asList))]) [a] _
 refine scan_all (s := 1) (N := a.asList.length) (fun i => Op.bytesLess (cell (rowN a.asList (i - 1)) 0).asStr.toList (cell (rowN a.asList i) 0).asStr.toList = true) rfl (fun d => by simp) (by omega) (by omega) (fun h i h1 h2 => h i h2 h1) (fun i h1 hi _ => ?_) fun h i q => ?_
 · simp [show Φ 224 = mB _ from rfl, Φ293, mB, mLess, rowAt_nat, hi, pred_at a.asList (i := i) (by omega), pred64 (i := i) (by omega)]
   omega
 · simp
   exact fun i hi h1 => h i h1 hi)
theorem ok240 : Good1 Tryz.prog Φ g240 := good1 tok mixed (l := []) (by simp) Tryz.func240 (by decide) (by decide) v240_eq (args1 fun a hw hp => by
 simp [g240, lenMax] at hw
 show v240.wp Φ (fun l => l = [.bool (tt (InOrd a.asList))]) [a] _
 refine scan_all (s := 1) (N := a.asList.length) (fun i => Op.bytesLess (cell (rowN a.asList (i - 1)) 0).asStr.toList (cell (rowN a.asList i) 0).asStr.toList = true) rfl (fun d => by simp) (by omega) (by omega) (fun h i h1 h2 => h i h2 h1) (fun i h1 hi _ => ?_) fun h i q => ?_
 · simp [show Φ 240 = mB _ from rfl, mB, rowAt_nat, hi, pred_at a.asList (i := i) (by omega), pred64 (i := i) (by omega)]
   omega
 · simp
   exact fun i hi h1 => h i h1 hi)
theorem ok153 : Good1 Tryz.prog Φ g153 := good1 tok mixed (l := [g223, g224]) (by simp [ok223, ok224]) Tryz.func153 (by decide) (by decide) v153_eq (args1 fun a hw hp => by
 simp [g153, lenMax] at hw
 show v153.wp Φ (fun l => l = [.bool (tt (ByP a.asList))]) [a] _
 refine scan_all (s := 0) (N := a.asList.length) (fun i => NameOk (cell (rowN a.asList i) 0).asStr) rfl (fun d => by simp) (by omega) (by omega) (fun h i h1 h2 => h.1 i h2) (fun i h1 hi _ => ?_) fun h i q => ?_
 · simp [show Φ 153 = mB _ from rfl, Φ223, show Φ 224 = mB _ from rfl, mB, rowAt_nat, hi]
 · simp [show Φ 153 = mB _ from rfl, Φ223, show Φ 224 = mB _ from rfl, mB, ByP]
   exact ⟨fun h1 => ⟨fun i hi => h i (by omega) hi, by omega, h1.2⟩, fun h1 => ⟨by omega, h1.2.2⟩⟩)
theorem ok173 : Good1 Tryz.prog Φ g173 := good1 tok mixed (l := [g239, g240]) (by simp [ok239, ok240]) Tryz.func173 (by decide) (by decide) v173_eq (args1 fun a hw hp => by
 simp [g173, lenMax] at hw
 show v173.wp Φ (fun l => l = [.bool (tt (ByP a.asList))]) [a] _
 refine scan_all2 (s := 0) (N := a.asList.length) (fun i => NameOk (cell (rowN a.asList i) 0).asStr) rfl (fun d => by simp) (by omega) (by omega) (fun h i h1 h2 => h.1 i h2) (fun i h1 hi _ => ?_) fun h i q => ?_
 · simp [show Φ 173 = mB _ from rfl, Φ239, show Φ 240 = mB _ from rfl, mB, rowAt_nat, hi]
 · simp [show Φ 173 = mB _ from rfl, Φ239, show Φ 240 = mB _ from rfl, mB, ByP]
   exact ⟨fun h1 => ⟨fun i hi => h i (by omega) hi, by omega, h1.2⟩, fun h1 => ⟨by omega, h1.2.2⟩⟩)
theorem ok85 : Good1 Tryz.prog Φ g85 := good1 tok mixed (l := [g86, g153]) (by simp [ok86, ok153]) Tryz.func85 (by decide) (by decide) v85_eq (args1 fun a hw hp => by
 simp [v85, g85, Φ85, Φ86, show Φ 153 = mB _ from rfl, mB, ConfP, In]
 simp only [and_assoc])
theorem ok103 : Good1 Tryz.prog Φ g103 := good1 tok mixed (l := [g104, g173]) (by simp [ok104, ok173]) Tryz.func103 (by decide) (by decide) v103_eq (args1 fun a hw hp => by
 simp [v103, g103, Φ103, Φ104, show Φ 173 = mB _ from rfl, mB, ConfP, In]
 simp only [and_assoc])
end Go.Proofs.YtlkidecpmfhheaaGreat

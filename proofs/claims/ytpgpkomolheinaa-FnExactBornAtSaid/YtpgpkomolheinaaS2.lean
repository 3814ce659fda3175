/-
  Contracts: copies, those of some labels, what was sent on.
-/
import Derived.Test.YtpgpkomolheinaaSF
set_option linter.unusedVariables false
set_option linter.unusedSimpArgs false
namespace Go.Proofs.Ytpgpkomolheinaa
open Go.Vx

theorem szAl (r : List D) : (cell r 0).asList.length ≤ szDs kAlarm r := by simp only [szDs_cons, szD]; omega
theorem szBt (r : List D) : (cell r 3).asList.length + sumR (szDs kAlarm) (cell r 3).asList ≤ szDs kBatch r := by simp only [szDs_cons, szDs_nil, szD, cell_tail, cell_zero, cell_succ, Nat.zero_add, Nat.reduceAdd]; omega
theorem szBt1 (r : List D) : (cell r 1).asList.length ≤ szDs kBatch r := by simp only [szDs_cons, szDs_nil, szD, cell_tail, cell_zero, cell_succ, Nat.zero_add, Nat.reduceAdd]; omega

theorem ok63 : Good1 Try.prog Φ g63 := good1 tok mixed (l := []) (by simp) Try.func63 (by decide) (by decide) v63_eq (args2 fun a b hw hp => by
  simp [g63] at hw
  exact eqV_wp (Φ := Φ) (a := a) (b := b) (p := eqDs kLabel) (tests := []) (t := .op .and [.op (.sbin .eql) [.op (.fld 0) [.op .row [.var 0, .var 2]], .op (.fld 0) [.op .row [.var 1, .var 2]]], .op (.sbin .eql) [.op (.fld 1) [.op .row [.var 0, .var 2]], .op (.fld 1) [.op .row [.var 1, .var 2]]]]) hw.1.1
    (fun i h1 h2 => by simp [rowAt_nat, eqDs_cons, eqDs_nil, eqD_str]) _)
theorem ok66 : Good1 Try.prog Φ g66 := good1 tok mixed (l := []) (by simp) Try.func66 (by decide) (by decide) v66_eq (args2 fun a b hw hp => by
  simp [g66] at hw
  exact eqV_wp (Φ := Φ) (a := a) (b := b) (p := eqDs kLabel) (tests := []) (t := .op .and [.op (.sbin .eql) [.op (.fld 0) [.op .row [.var 0, .var 2]], .op (.fld 0) [.op .row [.var 1, .var 2]]], .op (.sbin .eql) [.op (.fld 1) [.op .row [.var 0, .var 2]], .op (.fld 1) [.op .row [.var 1, .var 2]]]]) hw.1.1
    (fun i h1 h2 => by simp [rowAt_nat, eqDs_cons, eqDs_nil, eqD_str]) _)
theorem ok90 : Good1 Try.prog Φ g90 := good1 tok mixed (l := []) (by simp) Try.func90 (by decide) (by decide) v90_eq (args1 fun a hw hp => by
  simp [g90, show Φ 90 = mCp from rfl, mCp] at hp
  simp [v90, g90, show Φ 90 = mCp from rfl, mCp, lenMax]
  omega)
theorem ok64 : Good1 Try.prog Φ g64 := good1 tok mixed (l := []) (by simp) Try.func64 (by decide) (by decide) v64_eq (args1 fun a hw hp => by
  simp [g64, show Φ 64 = mCpAl from rfl, mCpAl] at hp
  simp [v64, g64, show Φ 64 = mCpAl from rfl, mCpAl, cpAl, lenMax, chunk]
  omega)
theorem ok67 : Good1 Try.prog Φ g67 := good1 tok mixed (l := [g90]) (by simp [ok90]) Try.func67 (by decide) (by decide) v67_eq (args1 fun a hw hp => by
  simp [g67, show Φ 67 = mCpAl from rfl, mCpAl] at hp
  simp [v67, g67, show Φ 67 = mCpAl from rfl, show Φ 90 = mCp from rfl, mCp, mCpAl, cpAl, hp])

theorem one_len (f : List D → List D) (xs : List (List D)) : (xs.flatMap fun r => [f r]).length = xs.length := by
  induction xs with
  | nil => rfl
  | cons x xs ih => simp only [List.flatMap_cons, List.length_append, ih, List.length_cons, List.length_nil]; omega

theorem ok92 : Good1 Try.prog Φ g92 := good1e tok mixed (l := [g67]) (by simp [ok67]) Try.func92 (by decide) (by decide) v92_eq (args1 fun a hw hp => by
  simp [g92, show Φ 92 = mCpAls from rfl, mCpAls] at hp
  refine fm_wp' (Φ := Φ) (g := fun r => [cpAl r]) (xs := a.asList) rfl (fun _ _ => by simp) (by omega) rfl (fun i x hi hx => ?_) fun x hx p => by simp [g92, RSh.cells, show Φ 92 = mCpAls from rfl, mCpAls, hx]
  have hl : x.asList.length = i := by rw [hx, one_len, List.length_take]; omega
  have h1 := sumR_rowN (p := szDs kAlarm) hi
  have h2 := szAl (rowN a.asList i)
  simp [rowAt_nat, show Φ 67 = mCpAl from rfl, mCpAl, cpAl, lenMax, chunk, hl]
  omega)
theorem ok91 : Good1 Try.prog Φ g91 := good1e tok mixed (l := [g64]) (by simp [ok64]) Try.func91 (by decide) (by decide) v91_eq (args1 fun a hw hp => by
  simp [g91, show Φ 91 = mCpAls from rfl, mCpAls] at hp
  refine fm_wp (Φ := Φ) (g := fun r => [cpAl r]) (xs := a.asList) rfl (fun _ _ => by simp) (by omega) (by simp [chunk]) (fun i x hi hx => ?_) fun x hx p => by simp [g91, RSh.cells, show Φ 91 = mCpAls from rfl, mCpAls, hx]
  have hl : x.asList.length = i := by rw [hx, one_len, List.length_take]; omega
  have h1 := sumR_rowN (p := szDs kAlarm) hi
  have h2 := szAl (rowN a.asList i)
  simp [rowAt_nat, show Φ 64 = mCpAl from rfl, mCpAl, cpAl, lenMax, chunk, hl]
  omega)
theorem ok80 : Good1 Try.prog Φ g80 := good1 tok mixed (l := [g90, g92]) (by simp [ok90, ok92]) Try.func80 (by decide) (by decide) v80_eq (args1 fun a hw hp => by
  simp [g80, show Φ 80 = mCpBt from rfl, mCpBt] at hp
  have h1 := szBt a.row
  have h2 := szBt1 a.row
  simp [v80, g80, show Φ 80 = mCpBt from rfl, show Φ 90 = mCp from rfl, show Φ 92 = mCpAls from rfl, mCp, mCpAls, mCpBt, cpBt]
  omega)
theorem ok79 : Good1 Try.prog Φ g79 := good1 tok mixed (l := [g91]) (by simp [ok91]) Try.func79 (by decide) (by decide) v79_eq (args1 fun a hw hp => by
  simp [g79, show Φ 79 = mCpBt from rfl, mCpBt] at hp
  have h1 := szBt a.row
  have h2 := szBt1 a.row
  simp [v79, g79, show Φ 79 = mCpBt from rfl, show Φ 91 = mCpAls from rfl, mCpAls, mCpBt, cpBt, chunk, lenMax]
  omega)

theorem ofG_len (s : List (List D)) (r : List D) : (ofG s r).length ≤ 1 := cond_length
theorem of_len (s xs : List (List D)) : (xs.flatMap (ofG s)).length ≤ xs.length := Nat.le_trans (fm_len (ofG_len s) xs) (Nat.le_of_eq (sumR_one xs))
theorem btG_len (n : Int) (r : List D) : (btG n r).length ≤ 1 := cond_length
theorem bt_len (n : Int) (xs : List (List D)) : (xs.flatMap (btG n)).length ≤ xs.length := Nat.le_trans (fm_len (btG_len n) xs) (Nat.le_of_eq (sumR_one xs))

theorem ok21 : Good1 Try.prog Φ g21 := good1e tok mixed (l := [g66, g67]) (by simp [ok66, ok67]) Try.func21 (by decide) (by decide) v21_eq (args2 fun a b hw hp => by
  simp [g21, show Φ 21 = mOf from rfl, mOf] at hp
  refine fm_wp' (Φ := Φ) (g := ofG b.asList) (xs := a.asList) rfl (fun _ _ => by simp) (by omega) rfl (fun i x hi hx => ?_) fun x hx p => by simp [g21, RSh.cells, show Φ 21 = mOf from rfl, mOf, hx]
  have hl : x.asList.length ≤ i := by rw [hx]; exact Nat.le_trans (of_len _ _) (by rw [List.length_take]; omega)
  have h1 := sumR_rowN (p := szDs kAlarm) hi
  have h2 := szAl (rowN a.asList i)
  simp [rowAt_nat, show Φ 67 = mCpAl from rfl, show Φ 66 = mEqL kLabel from rfl, mEqL, mCpAl, cpAl, lenMax, chunk, hi, ofG]
  refine ⟨fun h => ⟨by omega, by simp [h]⟩, fun h => by simp [h]⟩)
theorem ok19 : Good1 Try.prog Φ g19 := good1e tok mixed (l := [g63, g64]) (by simp [ok63, ok64]) Try.func19 (by decide) (by decide) v19_eq (args2 fun a b hw hp => by
  simp [g19, show Φ 19 = mOf from rfl, mOf] at hp
  refine fm_wp (Φ := Φ) (g := ofG b.asList) (xs := a.asList) rfl (fun _ _ => by simp) (by omega) (by simp [chunk]) (fun i x hi hx => ?_) fun x hx p => by simp [g19, RSh.cells, show Φ 19 = mOf from rfl, mOf, hx]
  have hl : x.asList.length ≤ i := by rw [hx]; exact Nat.le_trans (of_len _ _) (by rw [List.length_take]; omega)
  have h1 := sumR_rowN (p := szDs kAlarm) hi
  have h2 := szAl (rowN a.asList i)
  simp [rowAt_nat, show Φ 64 = mCpAl from rfl, show Φ 63 = mEqL kLabel from rfl, mEqL, mCpAl, cpAl, lenMax, chunk, hi, ofG]
  refine ⟨fun h => ⟨by omega, by omega, by simp [h]⟩, fun h => by simp [h]⟩)
theorem ok43 : Good1 Try.prog Φ g43 := good1e tok mixed (l := [g80]) (by simp [ok80]) Try.func43 (by decide) (by decide) v43_eq (args2 fun a b hw hp => by
  simp [g43, show Φ 43 = mBatchesOf from rfl, mBatchesOf] at hp
  refine fm_wp' (Φ := Φ) (g := btG b.asInt) (xs := a.asList) rfl (fun _ _ => by simp) (by omega) rfl (fun i x hi hx => ?_) fun x hx p => by simp [g43, RSh.cells, show Φ 43 = mBatchesOf from rfl, mBatchesOf, hx]
  have hl : x.asList.length ≤ i := by rw [hx]; exact Nat.le_trans (bt_len _ _) (by rw [List.length_take]; omega)
  have h1 := sumR_rowN (p := szDs kBatch) hi
  simp [rowAt_nat, show Φ 80 = mCpBt from rfl, mCpBt, cpBt, lenMax, chunk, hi, btG]
  refine ⟨fun h => ⟨by omega, by simp [h]⟩, fun h => by simp [h]⟩)
theorem ok42 : Good1 Try.prog Φ g42 := good1e tok mixed (l := [g79]) (by simp [ok79]) Try.func42 (by decide) (by decide) v42_eq (args2 fun a b hw hp => by
  simp [g42, show Φ 42 = mBatchesOf from rfl, mBatchesOf] at hp
  refine fm_wp (Φ := Φ) (g := btG b.asInt) (xs := a.asList) rfl (fun _ _ => by simp) (by omega) (by simp [chunk]) (fun i x hi hx => ?_) fun x hx p => by simp [g42, RSh.cells, show Φ 42 = mBatchesOf from rfl, mBatchesOf, hx]
  have hl : x.asList.length ≤ i := by rw [hx]; exact Nat.le_trans (bt_len _ _) (by rw [List.length_take]; omega)
  have h1 := sumR_rowN (p := szDs kBatch) hi
  simp [rowAt_nat, show Φ 79 = mCpBt from rfl, mCpBt, cpBt, lenMax, chunk, hi, btG]
  refine ⟨fun h => ⟨by omega, by omega, by simp [h]⟩, fun h => by simp [h]⟩)

theorem sent_len (s xs : List (List D)) : (xs.flatMap fun b => (cell b 3).asList.flatMap (ofG s)).length ≤ sumR (szDs kBatch) xs :=
  fm_len (fun r => Nat.le_trans (of_len _ _) (by have := szBt r; omega)) xs

theorem ok34 : Good1 Try.prog Φ g34 := good1e tok mixed (l := [g21]) (by simp [ok21]) Try.func34 (by decide) (by decide) v34_eq (args2 fun a b hw hp => by
  simp [g34, show Φ 34 = mSentOf from rfl, mSentOf] at hp
  refine fm_wp' (Φ := Φ) (g := fun r => (cell r 3).asList.flatMap (ofG b.asList)) (xs := a.asList) rfl (fun _ _ => by simp) (by omega) rfl (fun i x hi hx => ?_) fun x hx p => by simp [g34, RSh.cells, show Φ 34 = mSentOf from rfl, mSentOf, hx]
  have hl : x.asList.length ≤ sumR (szDs kBatch) (a.asList.take i) := by rw [hx]; exact sent_len _ _
  have hs := sumR_take_le (p := szDs kBatch) (xs := a.asList) (i := i + 1)
  rw [sumR_take _ hi] at hs
  have h2 := szBt (rowN a.asList i)
  have h3 := of_len b.asList (cell (rowN a.asList i) 3).asList
  simp [rowAt_nat, show Φ 21 = mOf from rfl, mOf, lenMax, hi, -List.length_flatMap]
  omega)
theorem ok32 : Good1 Try.prog Φ g32 := good1e tok mixed (l := [g63, g64]) (by simp [ok63, ok64]) Try.func32 (by decide) (by decide) v32_eq (args2 fun a b hw hp => by
  simp [g32, show Φ 32 = mSentOf from rfl, mSentOf] at hp
  refine fm_wp (Φ := Φ) (g := fun r => (cell r 3).asList.flatMap (ofG b.asList)) (xs := a.asList) rfl (fun _ _ => by simp) (by omega) (by simp [chunk]) (fun i x hi hx => ?_) fun x hx p => by simp [g32, RSh.cells, show Φ 32 = mSentOf from rfl, mSentOf, hx]
  have hl : x.asList.length ≤ sumR (szDs kBatch) (a.asList.take i) := by rw [hx]; exact sent_len _ _
  have hs := sumR_take_le (p := szDs kBatch) (xs := a.asList) (i := i + 1)
  rw [sumR_take _ hi] at hs
  have h2 := szBt (rowN a.asList i)
  refine fmr_wp (Φ := Φ) (g := ofG b.asList) (xs := (cell (rowN a.asList i) 3).asList) (zs := x.asList) rfl (fun _ _ => by simp [rowAt_nat]) (by omega) (by simp) (fun _ _ => by simp [hi]) (fun k y hk hy => ?_) fun y hy p => by
    simp only [wp_back', List.map_cons, List.map_nil, setB_ne (show (0 : Nat) ≠ 1 by decide), setB_eq]
    exact ⟨_, by simp; rfl, by simpa using hy⟩
  have hl2 : y.asList.length ≤ x.asList.length + k := by
    rw [hy, List.length_append]
    have := of_len b.asList ((cell (rowN a.asList i) 3).asList.take k)
    rw [List.length_take] at this
    omega
  have h4 := sumR_rowN (p := szDs kAlarm) hk
  have h5 := szAl (rowN (cell (rowN a.asList i) 3).asList k)
  simp [rowAt_nat, show Φ 64 = mCpAl from rfl, show Φ 63 = mEqL kLabel from rfl, mEqL, mCpAl, cpAl, lenMax, chunk, hi, hk, ofG]
  refine ⟨fun h => ⟨by omega, by omega, by simp [h]⟩, fun h => by simp [h]⟩)
end Go.Proofs.Ytpgpkomolheinaa

/-
  Contracts: deeds in order.
-/
import Derived.Test.YtllhihloidkghaaW13
set_option linter.unusedVariables false
set_option linter.unusedSimpArgs false
namespace Go.Proofs.Ytllhihloidkghaa
open Go.Vx

theorem ordP_len (l : List (List D)) : (ordP l).length ≤ l.length := by rw [ordP, stS_length]; exact placesN_len _ _
theorem ordP_in {l : List (List D)} {r : List D} (h : r ∈ ordP l) : 0 ≤ (cell r 0).asInt ∧ (cell r 0).asInt < l.length := places_in ((stS_perm _ _).mem_iff.1 h)
theorem places_nat {l : List (List D)} {n : Nat} {r : List D} (h : r ∈ placesN l n) : ∃ i : Nat, i < n ∧ r = [.int i] := by
  obtain ⟨i, hi, _, rfl⟩ := pickN_mem h
  exact ⟨i, hi, rfl⟩

theorem ok30 : Good1 Try.prog Φ g30 := good1e tok mixed (l := []) (by simp) Try.func30 (by decide) (by decide) v30_eq (args1 fun a hw hp => by
  simp [g30, show Φ 30 = mOrder from rfl, mOrder] at hp
  refine loop2_wp (Φ := Φ) (N := a.asList.length) rfl (fun _ _ => by simp) (by omega) (fun i x => x.asList = stS (ltP a.asList) (placesN a.asList i)) (by simp [chunk, stS, placesN, pickN]) (fun i x hi _ hx => ?_) fun x _ hx p => by
    simp [g30, RSh.cells, show Φ 30 = mOrder from rfl, mOrder, hx, ordP]
  have hl : x.asList.length ≤ i := by rw [hx, stS_length]; exact placesN_len _ _
  have hin : ∀ k, k < x.asList.length → ∃ j : Nat, j < i ∧ rowN x.asList k = [.int j] := fun k hk => places_nat ((stS_perm _ _).mem_iff.1 (by rw [← hx]; exact rowN_mem hk))
  rw [wp_req']
  refine ⟨by simp [hi], ?_⟩
  rw [wp_ite']
  refine ⟨fun h => ?_, fun h => ?_⟩
  · simp [rowAt_nat] at h
    rw [wp_back', setB_eq]
    refine ⟨x, by simp, ?_⟩
    rw [hx, placesN_succ, if_neg (by rw [Bool.not_eq_true', decide_eq_false_iff_not]; exact fun hn => hn h)]
    simp
  · simp [rowAt_nat] at h
    refine ins_wp (Φ := Φ) (L := x.asList) rfl (by omega) (ltP a.asList [.int i]) (by simp) (fun k hk => ?_) (fun k hk => ?_) fun q => ?_
    · rcases Nat.eq_zero_or_pos k with h0 | h0
      · subst h0; simp
      · obtain ⟨j, hj, hr⟩ := hin (k - 1) (by omega)
        simp [cond_ok, hi]
        rw [w64 (by omega) (by omega), show (k : Int) - 1 = ((k - 1 : Nat) : Int) by omega, rowAt_nat, hr]
        simp
        omega
    · rcases Nat.eq_zero_or_pos k with h0 | h0
      · subst h0; simp
      · obtain ⟨j, hj, hr⟩ := hin (k - 1) (by omega)
        simp
        rw [w64 (by omega) (by omega), show (k : Int) - 1 = ((k - 1 : Nat) : Int) by omega, rowAt_nat, hr]
        simp [rowAt_nat, ltP, linOf, hr]
        rw [Bool.eq_iff_iff, tt_ok]
        simp
        exact fun _ => decide_eq_true_iff.symm
    · have hq := posR_le (ltP a.asList [.int i]) x.asList x.asList.length
      generalize hm : posR (ltP a.asList [.int i]) x.asList x.asList.length = m at *
      simp
      rw [Nat.min_eq_left hq]
      refine ⟨by simp [lenMax]; omega, ?_⟩
      rw [setB_ne (show (0 : Nat) ≠ 1 by decide), setB_eq]
      refine ⟨_, rfl, ?_⟩
      rw [placesN_succ, if_pos (by rw [Bool.not_eq_true', decide_eq_false_iff_not]; exact h), stS_snoc, ← hx, insR, hm]
      rw [List.take_of_length_le (l := x.asList.drop m) (by simp)]
      simp [chunk])

theorem ok33 : Good1 Try.prog Φ g33 := good1e tok mixed (l := [g82]) (by simp [ok82]) Try.func33 (by decide) (by decide) v33_eq (args1 fun a hw hp => by
  simp [g33, show Φ 33 = mOrdered from rfl, mOrdered] at hp
  have hO : Φ 82 = mOrder := rfl
  have hol := ordP_len a.asList
  unfold v33
  rw [wp_req']
  refine ⟨by simp [hO, mOrder, hp], ?_⟩
  refine loop2'_wp (Φ := Φ) (N := (ordP a.asList).length) rfl (fun _ _ => by simp [hO, mOrder]) (by omega) (fun i x => x.asList = ((ordP a.asList).take i).map fun r => mkDd (atP a.asList r)) rfl (fun i x hi _ hx => ?_) fun x _ hx p => by
    rw [List.take_of_length_le (Nat.le_refl _)] at hx
    simp [g33, RSh.cells, show Φ 33 = mOrdered from rfl, mOrdered, hx]
  have hl : x.asList.length = i := by rw [hx, List.length_map, List.length_take]; omega
  obtain ⟨q1, q2⟩ := ordP_in (rowN_mem hi)
  obtain ⟨j, hj⟩ : ∃ j : Nat, (cell (rowN (ordP a.asList) i) 0).asInt = j := ⟨_, (Int.toNat_of_nonneg q1).symm⟩
  rw [hj] at q2
  simp [hO, mOrder, rowAt_nat, hi, hj, lenMax, hl]
  refine ⟨by omega, ?_⟩
  rw [← List.map_take, map_take_succ (fun r => mkDd (atP a.asList r)) hi, ← hx]
  simp [chunk, mkDd, atP, hj])

theorem mk0 (r : List D) : cell (mkDd r) 0 = cell r 0 := rfl
theorem mk2 (r : List D) : cell (mkDd r) 2 = cell r 2 := rfl
theorem mk3 (r : List D) : cell (mkDd r) 3 = cell r 3 := rfl
theorem mk4 (r : List D) : cell (mkDd r) 4 = cell r 4 := rfl
theorem mk5 (r : List D) : cell (mkDd r) 5 = cell r 5 := rfl
theorem mk7 (r : List D) : cell (mkDd r) 7 = cell r 7 := rfl
theorem mk9 (r : List D) : cell (mkDd r) 9 = cell r 9 := rfl
theorem mk10 (r : List D) : cell (mkDd r) 10 = cell r 10 := rfl
theorem ord_row {l : List (List D)} {i : Nat} (hi : i < (ordP l).length) : rowN ((ordP l).map fun r => mkDd (atP l r)) i = mkDd (atP l (rowN (ordP l) i)) := by
  rw [rowN_lt (by simpa using hi), List.getElem_map, rowN_lt hi]
theorem ord_at {l : List (List D)} {i : Nat} (hi : i < (ordP l).length) : ∃ j : Nat, j < l.length ∧ (cell (rowN (ordP l) i) 0).asInt = j ∧ atP l (rowN (ordP l) i) = rowN l j := by
  obtain ⟨q1, q2⟩ := ordP_in (rowN_mem hi)
  obtain ⟨j, hj⟩ : ∃ j : Nat, (cell (rowN (ordP l) i) 0).asInt = j := ⟨_, (Int.toNat_of_nonneg q1).symm⟩
  rw [hj] at q2
  exact ⟨j, by omega, hj, by simp [atP, hj]⟩
/-- What is summed over the deeds in order is no more than over all. -/
theorem ord_sum (p : List D → Nat) (l : List (List D)) : sumR (fun r => p (atP l r)) (ordP l) ≤ sumR p l := by
  rw [ordP, sumR_perm (stS_perm _ _)]
  have : ∀ n, n ≤ l.length → sumR (fun r => p (atP l r)) (placesN l n) ≤ sumR p (l.take n) := by
    intro n
    induction n with
    | zero => intro _; simp [placesN, pickN, sumR]
    | succ n ih =>
      intro hn
      have := ih (by omega)
      rw [placesN_succ, sumR_append, sumR_take _ (by omega)]
      have e : sumR (fun r => p (atP l r)) [[.int n]] = p (rowN l n) := by simp [sumR, atP]
      split
      · rw [e]; omega
      · simp only [sumR]; omega
  have := this l.length (Nat.le_refl _)
  rwa [List.take_of_length_le (Nat.le_refl _)] at this
theorem szDd (r : List D) : (cell r 2).asList.length + ((cell r 10).asList.length + sumR (szDs kAlarm) (cell r 10).asList) ≤ szDs kDeed r := by
  simp only [szDs_cons, szDs_nil, szD, cell_tail, Nat.zero_add, Nat.reduceAdd]
  omega
theorem tell_len (r : List D) : (tellG r).length ≤ 1 := cond_length
theorem told_len (l xs : List (List D)) : (xs.flatMap fun r => tellG (atP l r)).length ≤ xs.length := Nat.le_trans (fm_len (fun r => tell_len (atP l r)) xs) (Nat.le_of_eq (sumR_one xs))
theorem hear_len (i : Int) (r : List D) : (hearG i r).length ≤ szDs kDeed r := by
  have := szDd r
  unfold hearG
  cases (decide ((cell r 0).asInt = 9) && decide ((cell r 7).asInt = i) && decide ((cell r 9).asInt = 5))
  · simp
  · simp only [cond_true, one_len]; omega

theorem ok11 : Good1 Try.prog Φ g11 := good1e tok mixed (l := [g33, g34]) (by simp [ok33, ok34]) Try.func11 (by decide) (by decide) v11_eq (args1 fun a hw hp => by
  simp [g11, show Φ 11 = mTold from rfl, mTold] at hp
  have hO : Φ 33 = mOrdered := rfl
  have hol := ordP_len a.asList
  unfold v11
  rw [wp_req']
  refine ⟨by simp [hO, mOrdered]; omega, ?_⟩
  refine fm_wp' (Φ := Φ) (g := fun r => tellG (atP a.asList r)) (xs := ordP a.asList) rfl (fun _ _ => by simp [hO, mOrdered]) (by omega) rfl (fun i x hi hx => ?_) fun x hx p => by simp [g11, RSh.cells, show Φ 11 = mTold from rfl, mTold, hx]
  have hl : x.asList.length ≤ i := by rw [hx]; exact Nat.le_trans (told_len _ _) (by rw [List.length_take]; omega)
  obtain ⟨j, hj, _, ha⟩ := ord_at hi
  have h1 := sumR_rowN (p := szDs kDeed) hj
  have h2 := szDd (rowN a.asList j)
  simp [hO, mOrdered, rowAt_nat, hi, ord_row hi, ha, mk0, mk2, mk3, mk4, mk5, show Φ 34 = mCpAl from rfl, mCpAl, cpAl, lenMax, chunk, tellG]
  refine ⟨fun h => ⟨by omega, by simp [h]⟩, fun h => by simp [h]⟩)
theorem ok9 : Good1 Try.prog Φ g9 := good1e tok mixed (l := [g30, g31]) (by simp [ok30, ok31]) Try.func9 (by decide) (by decide) v9_eq (args1 fun a hw hp => by
  simp [g9, show Φ 9 = mTold from rfl, mTold] at hp
  have hO : Φ 30 = mOrder := rfl
  have hol := ordP_len a.asList
  unfold v9
  rw [wp_req']
  refine ⟨by simp [hO, mOrder]; omega, ?_⟩
  refine fm_wp (Φ := Φ) (g := fun r => tellG (atP a.asList r)) (xs := ordP a.asList) rfl (fun _ _ => by simp [hO, mOrder]) (by omega) (by simp [chunk]) (fun i x hi hx => ?_) fun x hx p => by simp [g9, RSh.cells, show Φ 9 = mTold from rfl, mTold, hx]
  have hl : x.asList.length ≤ i := by rw [hx]; exact Nat.le_trans (told_len _ _) (by rw [List.length_take]; omega)
  obtain ⟨j, hj, hc, ha⟩ := ord_at hi
  have h1 := sumR_rowN (p := szDs kDeed) hj
  have h2 := szDd (rowN a.asList j)
  simp [hO, mOrder, rowAt_nat, hi, hc, ha, hj, show Φ 31 = mCpAl from rfl, mCpAl, cpAl, lenMax, chunk, tellG]
  refine ⟨fun h => ⟨by omega, by omega, by simp [h]⟩, fun h => by simp [h]⟩)

theorem heard_len (i : Int) (l : List (List D)) (n : Nat) : (((ordP l).take n).flatMap fun r => hearG i (atP l r)).length ≤ sumR (fun r => szDs kDeed (atP l r)) ((ordP l).take n) := fm_len (fun r => hear_len i (atP l r)) _

theorem ok18 : Good1 Try.prog Φ g18 := good1e tok mixed (l := [g33, g41]) (by simp [ok33, ok41]) Try.func18 (by decide) (by decide) v18_eq (args2 fun a b hw hp => by
  simp [g18, show Φ 18 = mHeard from rfl, mHeard] at hp
  have hO : Φ 33 = mOrdered := rfl
  have hol := ordP_len a.asList
  unfold v18
  rw [wp_req']
  refine ⟨by simp [hO, mOrdered]; omega, ?_⟩
  refine fm_wp' (Φ := Φ) (g := fun r => hearG b.asInt (atP a.asList r)) (xs := ordP a.asList) rfl (fun _ _ => by simp [hO, mOrdered]) (by omega) rfl (fun i x hi hx => ?_) fun x hx p => by simp [g18, RSh.cells, show Φ 18 = mHeard from rfl, mHeard, hx]
  have hl := heard_len b.asInt a.asList i
  rw [← hx] at hl
  have h3 := sumR_take_le (p := fun r => szDs kDeed (atP a.asList r)) (xs := ordP a.asList) (i := i + 1)
  rw [sumR_take _ hi] at h3
  have h4 := ord_sum (szDs kDeed) a.asList
  obtain ⟨j, hj, _, ha⟩ := ord_at hi
  simp only [ha] at h3
  have h1 := sumR_rowN (p := szDs kDeed) hj
  have h2 := szDd (rowN a.asList j)
  simp [hO, mOrdered, rowAt_nat, hi, ord_row hi, ha, mk0, mk7, mk9, mk10, show Φ 41 = mCpAls from rfl, mCpAls, one_len, lenMax, hearG, -List.length_flatMap]
  refine ⟨fun q1 q2 q3 => ⟨by omega, by simp [q1, q2, q3]⟩, fun h => ?_⟩
  cases hc : (decide ((cell (rowN a.asList j) 0).asInt = 9) && decide ((cell (rowN a.asList j) 7).asInt = b.asInt) && decide ((cell (rowN a.asList j) 9).asInt = 5))
  · rfl
  · simp at hc; exact absurd hc.2 (h hc.1.1 hc.1.2))
theorem ok17 : Good1 Try.prog Φ g17 := good1e tok mixed (l := [g30, g40]) (by simp [ok30, ok40]) Try.func17 (by decide) (by decide) v17_eq (args2 fun a b hw hp => by
  simp [g17, show Φ 17 = mHeard from rfl, mHeard] at hp
  have hO : Φ 30 = mOrder := rfl
  have hol := ordP_len a.asList
  unfold v17
  rw [wp_req']
  refine ⟨by simp [hO, mOrder]; omega, ?_⟩
  refine fm_wp (Φ := Φ) (g := fun r => hearG b.asInt (atP a.asList r)) (xs := ordP a.asList) rfl (fun _ _ => by simp [hO, mOrder]) (by omega) (by simp [chunk]) (fun i x hi hx => ?_) fun x hx p => by simp [g17, RSh.cells, show Φ 17 = mHeard from rfl, mHeard, hx]
  have hl := heard_len b.asInt a.asList i
  rw [← hx] at hl
  have h3 := sumR_take_le (p := fun r => szDs kDeed (atP a.asList r)) (xs := ordP a.asList) (i := i + 1)
  rw [sumR_take _ hi] at h3
  have h4 := ord_sum (szDs kDeed) a.asList
  obtain ⟨j, hj, hc, ha⟩ := ord_at hi
  simp only [ha] at h3
  have h1 := sumR_rowN (p := szDs kDeed) hj
  have h2 := szDd (rowN a.asList j)
  simp [hO, mOrder, rowAt_nat, hi, hc, hj, ha, show Φ 40 = mCpAls from rfl, mCpAls, one_len, lenMax, hearG, -List.length_flatMap]
  refine ⟨fun q1 q2 q3 => ⟨by omega, by simp [q1, q2, q3]⟩, fun h => ?_⟩
  cases hc : (decide ((cell (rowN a.asList j) 0).asInt = 9) && decide ((cell (rowN a.asList j) 7).asInt = b.asInt) && decide ((cell (rowN a.asList j) 9).asInt = 5))
  · rfl
  · simp at hc; exact absurd hc.2 (h hc.1.1 hc.1.2))
end Go.Proofs.Ytllhihloidkghaa

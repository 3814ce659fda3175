/-
  Contracts: deeds in order.
-/
import Derived.Test.YtpgpkomolheinaaW13
set_option linter.unusedVariables false
set_option linter.unusedSimpArgs false
namespace Go.Proofs.Ytpgpkomolheinaa
open Go.Vx

theorem ordP_len (l : List (List D)) : (ordP l).length ≤ l.length := by rw [ordP, stS_length]; exact placesN_len _ _
theorem ordP_in {l : List (List D)} {r : List D} (h : r ∈ ordP l) : 0 ≤ (cell r 0).asInt ∧ (cell r 0).asInt < l.length := places_in ((stS_perm _ _).mem_iff.1 h)
theorem places_nat {l : List (List D)} {n : Nat} {r : List D} (h : r ∈ placesN l n) : ∃ i : Nat, i < n ∧ r = [.int i] := by
  obtain ⟨i, hi, _, rfl⟩ := pickN_mem h
  exact ⟨i, hi, rfl⟩

theorem ok89 : Good1 Try.prog Φ g89 := good1e tok mixed (l := []) (by simp) Try.func89 (by decide) (by decide) v89_eq (args1 fun a hw hp => by
  simp [g89, show Φ 89 = mOrder from rfl, mOrder] at hp
  refine loop2_wp (Φ := Φ) (N := a.asList.length) rfl (fun _ _ => by simp) (by omega) (fun i x => x.asList = stS (ltP a.asList) (placesN a.asList i)) (by simp [chunk, stS, placesN, pickN]) (fun i x hi _ hx => ?_) fun x _ hx p => by
    simp [g89, RSh.cells, show Φ 89 = mOrder from rfl, mOrder, hx, ordP]
  have hl : x.asList.length ≤ i := by rw [hx, stS_length]; exact placesN_len _ _
  have hin : ∀ k, k < x.asList.length → ∃ j : Nat, j < i ∧ rowN x.asList k = [.int j] := fun k hk => places_nat ((stS_perm _ _).mem_iff.1 (by rw [← hx]; exact rowN_mem hk))
  rw [wp_req']
  refine ⟨by simp [hi], ?_⟩
  rw [wp_ite']
  refine ⟨fun h => ?_, fun h => ?_⟩
  · simp [rowAt_nat] at h
    rw [wp_back', setB_eq]
    refine ⟨x, by simp, ?_⟩
    rw [hx, placesN_succ, if_neg (by rw [Bool.not_eq_true', decide_eq_false_iff_not]; exact fun hn => hn h)]
    simp
  · simp [rowAt_nat] at h
    refine ins_wp (Φ := Φ) (L := x.asList) rfl (by omega) (ltP a.asList [.int i]) (by simp) (fun k hk => ?_) (fun k hk => ?_) fun q => ?_
    · rcases Nat.eq_zero_or_pos k with h0 | h0
      · subst h0; simp
      · obtain ⟨j, hj, hr⟩ := hin (k - 1) (by omega)
        simp [cond_ok, hi]
        rw [w64 (by omega) (by omega), show (k : Int) - 1 = ((k - 1 : Nat) : Int) by omega, rowAt_nat, hr]
        simp
        omega
    · rcases Nat.eq_zero_or_pos k with h0 | h0
      · subst h0; simp
      · obtain ⟨j, hj, hr⟩ := hin (k - 1) (by omega)
        simp
        rw [w64 (by omega) (by omega), show (k : Int) - 1 = ((k - 1 : Nat) : Int) by omega, rowAt_nat, hr]
        simp [rowAt_nat, ltP, linOf, hr]
        rw [Bool.eq_iff_iff, tt_ok]
        simp
        exact fun _ => decide_eq_true_iff.symm
    · have hq := posR_le (ltP a.asList [.int i]) x.asList x.asList.length
      generalize hm : posR (ltP a.asList [.int i]) x.asList x.asList.length = m at *
      simp
      rw [Nat.min_eq_left hq]
      refine ⟨by simp [lenMax]; omega, ?_⟩
      rw [setB_ne (show (0 : Nat) ≠ 1 by decide), setB_eq]
      refine ⟨_, rfl, ?_⟩
      rw [placesN_succ, if_pos (by rw [Bool.not_eq_true', decide_eq_false_iff_not]; exact h), stS_snoc, ← hx, insR, hm]
      rw [List.take_of_length_le (l := x.asList.drop m) (by simp)]
      simp [chunk])

theorem ok88 : Good1 Try.prog Φ g88 := good1e tok mixed (l := [g99]) (by simp [ok99]) Try.func88 (by decide) (by decide) v88_eq (args1 fun a hw hp => by
  simp [g88, show Φ 88 = mOrdered from rfl, mOrdered] at hp
  have hO : Φ 99 = mOrder := rfl
  have hol := ordP_len a.asList
  unfold v88
  rw [wp_req']
  refine ⟨by simp [hO, mOrder, hp], ?_⟩
  refine loop2'_wp (Φ := Φ) (N := (ordP a.asList).length) rfl (fun _ _ => by simp [hO, mOrder]) (by omega) (fun i x => x.asList = ((ordP a.asList).take i).map fun r => mkDd (atP a.asList r)) rfl (fun i x hi _ hx => ?_) fun x _ hx p => by
    rw [List.take_of_length_le (Nat.le_refl _)] at hx
    simp [g88, RSh.cells, show Φ 88 = mOrdered from rfl, mOrdered, hx]
  have hl : x.asList.length = i := by rw [hx, List.length_map, List.length_take]; omega
  obtain ⟨q1, q2⟩ := ordP_in (rowN_mem hi)
  obtain ⟨j, hj⟩ : ∃ j : Nat, (cell (rowN (ordP a.asList) i) 0).asInt = j := ⟨_, (Int.toNat_of_nonneg q1).symm⟩
  rw [hj] at q2
  simp [hO, mOrder, rowAt_nat, hi, hj, lenMax, hl]
  refine ⟨by omega, ?_⟩
  rw [← List.map_take, map_take_succ (fun r => mkDd (atP a.asList r)) hi, ← hx]
  simp [chunk, mkDd, atP, hj])

theorem count_at {p : List D → Bool} {xs : List (List D)} {i : Nat} (h : i < xs.length) : (xs.take (i + 1)).countP p = (xs.take i).countP p + if p (rowN xs i) = true then 1 else 0 := by
  rw [List.take_add_one, List.getElem?_eq_getElem h, List.countP_append, rowN_lt h]
  simp [List.countP_cons]
theorem count_le {p : List D → Bool} (l : List (List D)) (n : Nat) : (placesN l n).countP p ≤ n := Nat.le_trans List.countP_le_length (placesN_len l n)

theorem mk0 (r : List D) : cell (mkDd r) 0 = cell r 0 := rfl
theorem mk7 (r : List D) : cell (mkDd r) 7 = cell r 7 := rfl
theorem mk8 (r : List D) : cell (mkDd r) 8 = cell r 8 := rfl
theorem mk9 (r : List D) : cell (mkDd r) 9 = cell r 9 := rfl
theorem mk11 (r : List D) : cell (mkDd r) 11 = cell r 11 := rfl
theorem ord_row {l : List (List D)} {i : Nat} (hi : i < (ordP l).length) : rowN ((ordP l).map fun r => mkDd (atP l r)) i = mkDd (atP l (rowN (ordP l) i)) := by
  rw [rowN_lt (by simpa using hi), List.getElem_map, rowN_lt hi]

theorem ok56 : Good1 Try.prog Φ g56 := good1 tok mixed (l := [g88]) (by simp [ok88]) Try.func56 (by decide) (by decide) v56_eq (args2 fun a b hw hp => by
  simp [g56, show Φ 56 = mLags from rfl, mLags] at hp
  have hO : Φ 88 = mOrdered := rfl
  have hol := ordP_len a.asList
  unfold v56
  rw [wp_req']
  refine ⟨by simp [hO, mOrdered, hp], ?_⟩
  refine loop2'_wp (Φ := Φ) (N := (ordP a.asList).length) rfl (fun _ _ => by simp [hO, mOrdered]) (by omega) (fun i x => x = .int (((ordP a.asList).take i).countP fun r => lagR b.asInt (atP a.asList r) : Nat)) rfl (fun i x hi _ hx => ?_) fun x _ hx p => ?_
  · subst hx
    have hc : ((ordP a.asList).take i).countP (fun r => lagR b.asInt (atP a.asList r)) ≤ i := Nat.le_trans List.countP_le_length (by rw [List.length_take]; omega)
    simp [hO, mOrdered, rowAt_nat, hi, ord_row hi, mk0, mk7, mk9, count_at hi]
    refine ⟨fun h1 h2 h3 => ?_, fun h => ?_⟩
    · rw [w64 (by omega) (by omega), if_pos (by simp [lagR, h1, h2, h3])]; rfl
    · rw [if_neg (by simp [lagR]; exact h)]; simp
  · subst hx
    have hq : (ordP a.asList).countP (fun r => lagR b.asInt (atP a.asList r)) = (placesN a.asList a.asList.length).countP (fun r => lagR b.asInt (atP a.asList r)) := (stS_perm _ _).countP_eq _
    rw [List.take_of_length_le (Nat.le_refl _), hq]
    simp [g56, RSh.cells, show Φ 56 = mLags from rfl, mLags])

theorem ok55 : Good1 Try.prog Φ g55 := good1 tok mixed (l := []) (by simp) Try.func55 (by decide) (by decide) v55_eq (args2 fun a b hw hp => by
  simp [g55, show Φ 55 = mLags from rfl, mLags] at hp
  refine loop2'_wp (Φ := Φ) (N := a.asList.length) rfl (fun _ _ => by simp) (by omega) (fun i x => x = .int ((placesN a.asList i).countP fun r => lagR b.asInt (atP a.asList r) : Nat)) rfl (fun i x hi _ hx => ?_) fun x _ hx p => ?_
  · subst hx
    have hc := count_le (p := fun r => lagR b.asInt (atP a.asList r)) a.asList i
    have hs : (placesN a.asList (i + 1)).countP (fun r => lagR b.asInt (atP a.asList r)) = (placesN a.asList i).countP (fun r => lagR b.asInt (atP a.asList r)) + if ((!decide (linOf a.asList i = -1)) && lagR b.asInt (rowN a.asList i)) = true then 1 else 0 := by
      rw [placesN_succ, List.countP_append]
      congr 1
      cases h : (!decide (linOf a.asList i = -1))
      · simp
      · simp [List.countP_cons, atP]
        by_cases hh : lagR b.asInt (rowN a.asList i) = true <;> simp [hh]
    simp [rowAt_nat, hi, hs]
    refine ⟨fun h1 h2 h3 h4 => ?_, fun h => ?_⟩
    · rw [w64 (by omega) (by omega), if_pos ⟨h3, by simp [lagR, h1, h2, h4]⟩]; rfl
    · rw [if_neg (by rintro ⟨q1, q2⟩; simp [lagR] at q2; exact h q2.1.1 q2.1.2 q1 q2.2)]; simp
  · subst hx
    simp [g55, RSh.cells, show Φ 55 = mLags from rfl, mLags])

theorem map_drop_row {l : List (List D)} {i : Nat} (hi : i < (ordP l).length) : ((ordP l).map (atP l)).drop i = atP l (rowN (ordP l) i) :: ((ordP l).map (atP l)).drop (i + 1) := by
  rw [List.drop_eq_getElem_cons (by simpa using hi), List.getElem_map, rowN_lt hi]

theorem ok58 : Good1 Try.prog Φ g58 := good1e tok mixed (l := [g88]) (by simp [ok88]) Try.func58 (by decide) (by decide) v58_eq (args2 fun a b hw hp => by
  simp [g58, show Φ 58 = mBorn from rfl, mBorn] at hp
  have hO : Φ 88 = mOrdered := rfl
  have hol := ordP_len a.asList
  unfold v58
  rw [wp_req']
  refine ⟨by simp [hO, mOrdered, hp], ?_⟩
  refine loop1_wp (Φ := Φ) (N := (ordP a.asList).length) rfl (fun _ => by simp [hO, mOrdered]) (by omega) (fun i => bornIn b.asInt ((ordP a.asList).map (atP a.asList)) = bornIn b.asInt (((ordP a.asList).map (atP a.asList)).drop i)) rfl (fun i hi hI => ?_) fun hI p => ?_
  · rw [map_drop_row hi, bornIn] at hI
    simp [hO, mOrdered, rowAt_nat, hi, ord_row hi, mk0, mk8, mk9, mk11, g58, RSh.cells, show Φ 58 = mBorn from rfl, mBorn]
    refine ⟨fun h1 h2 h3 => ?_, fun h => ?_⟩
    · rw [hI, if_pos (by simp [bornR, h1, h2, h3])]
    · rw [hI, if_neg (by simp [bornR]; exact h)]
  · rw [List.drop_eq_nil_of_le (by simp)] at hI
    simp [g58, RSh.cells, show Φ 58 = mBorn from rfl, mBorn, hI, bornIn])

theorem ok57 : Good1 Try.prog Φ g57 := good1e tok mixed (l := [g89]) (by simp [ok89]) Try.func57 (by decide) (by decide) v57_eq (args2 fun a b hw hp => by
  simp [g57, show Φ 57 = mBorn from rfl, mBorn] at hp
  have hO : Φ 89 = mOrder := rfl
  have hol := ordP_len a.asList
  unfold v57
  rw [wp_req']
  refine ⟨by simp [hO, mOrder, hp], ?_⟩
  refine loop1_wp (Φ := Φ) (N := (ordP a.asList).length) rfl (fun _ => by simp [hO, mOrder]) (by omega) (fun i => bornIn b.asInt ((ordP a.asList).map (atP a.asList)) = bornIn b.asInt (((ordP a.asList).map (atP a.asList)).drop i)) rfl (fun i hi hI => ?_) fun hI p => ?_
  · rw [map_drop_row hi, bornIn] at hI
    obtain ⟨q1, q2⟩ := ordP_in (rowN_mem hi)
    obtain ⟨j, hj⟩ : ∃ j : Nat, (cell (rowN (ordP a.asList) i) 0).asInt = j := ⟨_, (Int.toNat_of_nonneg q1).symm⟩
    rw [hj] at q2
    have ha : atP a.asList (rowN (ordP a.asList) i) = rowN a.asList j := by simp [atP, hj]
    rw [ha] at hI
    simp [hO, mOrder, rowAt_nat, hi, hj, g57, RSh.cells, show Φ 57 = mBorn from rfl, mBorn]
    refine ⟨by omega, fun h1 h2 h3 => ?_, fun h => ?_⟩
    · rw [hI, if_pos (by simp [bornR, h1, h2, h3])]
    · rw [hI, if_neg (by simp [bornR]; exact h)]
  · rw [List.drop_eq_nil_of_le (by simp)] at hI
    simp [g57, RSh.cells, show Φ 57 = mBorn from rfl, mBorn, hI, bornIn])
end Go.Proofs.Ytpgpkomolheinaa

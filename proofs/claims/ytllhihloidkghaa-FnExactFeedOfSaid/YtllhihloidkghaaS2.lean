/-
  Contracts: copies, what is told and not in a group yet.
-/
import Derived.Test.YtllhihloidkghaaSF
namespace Go.Proofs.Ytllhihloidkghaa
open Go.Vx

theorem szAl (r : List D) : (cell r 0).asList.length ≤ szDs kAlarm r := by simp only [szDs_cons, szD]; omega
theorem ok83 : Good1 Try.prog Φ g83 := good1 tok mixed (l := []) (by simp) Try.func83 (by decide) (by decide) v83_eq (args1 fun a hw hp => by
  simp [g83, show Φ 83 = mCp from rfl, mCp] at hp
  simp [v83, g83, show Φ 83 = mCp from rfl, mCp, lenMax]
  omega)
theorem ok31 : Good1 Try.prog Φ g31 := good1 tok mixed (l := []) (by simp) Try.func31 (by decide) (by decide) v31_eq (args1 fun a hw hp => by
  simp [g31, show Φ 31 = mCpAl from rfl, mCpAl] at hp
  simp [v31, g31, show Φ 31 = mCpAl from rfl, mCpAl, cpAl, lenMax, chunk]
  omega)
theorem ok34 : Good1 Try.prog Φ g34 := good1 tok mixed (l := [g83]) (by simp [ok83]) Try.func34 (by decide) (by decide) v34_eq (args1 fun a hw hp => by
  simp [g34, show Φ 34 = mCpAl from rfl, mCpAl] at hp
  simp [v34, g34, show Φ 34 = mCpAl from rfl, show Φ 83 = mCp from rfl, mCp, mCpAl, cpAl, hp])
theorem one_len (f : List D → List D) (xs : List (List D)) : (xs.flatMap fun r => [f r]).length = xs.length := by
  induction xs with
  | nil => rfl
  | cons x xs ih => simp only [List.flatMap_cons, List.length_append, ih, List.length_cons, List.length_nil]; omega
theorem ok41 : Good1 Try.prog Φ g41 := good1e tok mixed (l := [g34]) (by simp [ok34]) Try.func41 (by decide) (by decide) v41_eq (args1 fun a hw hp => by
  simp [g41, show Φ 41 = mCpAls from rfl, mCpAls] at hp
  refine fm_wp' (Φ := Φ) (g := fun r => [cpAl r]) (xs := a.asList) rfl (fun _ _ => by simp) (by omega) rfl (fun i x hi hx => ?_) fun x hx p => by simp [g41, RSh.cells, show Φ 41 = mCpAls from rfl, mCpAls, hx]
  have hl : x.asList.length = i := by rw [hx, one_len, List.length_take]; omega
  have h1 := sumR_rowN (p := szDs kAlarm) hi
  have h2 := szAl (rowN a.asList i)
  simp [rowAt_nat, show Φ 34 = mCpAl from rfl, mCpAl, cpAl, lenMax, chunk, hl]
  omega)
theorem ok40 : Good1 Try.prog Φ g40 := good1e tok mixed (l := [g31]) (by simp [ok31]) Try.func40 (by decide) (by decide) v40_eq (args1 fun a hw hp => by
  simp [g40, show Φ 40 = mCpAls from rfl, mCpAls] at hp
  refine fm_wp (Φ := Φ) (g := fun r => [cpAl r]) (xs := a.asList) rfl (fun _ _ => by simp) (by omega) (by simp [chunk]) (fun i x hi hx => ?_) fun x hx p => by simp [g40, RSh.cells, show Φ 40 = mCpAls from rfl, mCpAls, hx]
  have hl : x.asList.length = i := by rw [hx, one_len, List.length_take]; omega
  have h1 := sumR_rowN (p := szDs kAlarm) hi
  have h2 := szAl (rowN a.asList i)
  simp [rowAt_nat, show Φ 31 = mCpAl from rfl, mCpAl, cpAl, lenMax, chunk, hl]
  omega)

/-- What a world is large. -/
theorem szW (r : List D) : (cell r 10).asList.length + sumR (szDs kAlarm) (cell r 10).asList + ((cell r 17).asList.length + sumR (szDs kTask) (cell r 17).asList) ≤ szDs kWorld r := by
  simp only [szDs_cons, szDs_nil, szD, cell_tail, Nat.zero_add, Nat.reduceAdd]
  omega
theorem szTk (r : List D) : (cell r 2).asList.length ≤ szDs kTask r := by
  simp only [szDs_cons, szDs_nil, szD, cell_tail, Nat.zero_add, Nat.reduceAdd]
  omega

theorem ok27 : Good1 Try.prog Φ g27 := good1e tok mixed (l := [g34, g41]) (by simp [ok34, ok41]) Try.func27 (by decide) (by decide) v27_eq (args1 fun a hw hp => by
  simp only [g27, told, show Φ 27 = mFeedOf from rfl, mFeedOf, con_ok, cell_zero] at hp
  have h1 := szW a.row
  simp [v27, g27, RSh.cells, show Φ 27 = mFeedOf from rfl, show Φ 34 = mCpAl from rfl, show Φ 41 = mCpAls from rfl, mFeedOf, mCpAl, mCpAls, joinA, cpAl, chunk, rowAt, lenMax, one_len, -List.length_flatMap]
  have h3 : ∀ xs : List (List D), Go.Vx.rowAt xs 3 = rowN xs 3 := fun _ => rfl
  simp only [h3]
  refine ⟨fun x1 x2 => ?_, fun x1 => ?_⟩
  · have hk : 3 < (cell a.row 17).asList.length := by omega
    have h4 := sumR_rowN (p := szDs kTask) hk
    have h5 := szTk (rowN (cell a.row 17).asList 3)
    rw [show tt (3 < (cell a.row 17).asList.length ∧ (cell (rowN (cell a.row 17).asList 3) 0).asInt = 5) = true by simp; exact ⟨hk, x2⟩]
    exact ⟨by omega, by omega, rfl⟩
  · rw [show tt (3 < (cell a.row 17).asList.length ∧ (cell (rowN (cell a.row 17).asList 3) 0).asInt = 5) = false by simp; intro y; exact x1 (by omega)]
    exact ⟨by omega, rfl⟩)
theorem ok26 : Good1 Try.prog Φ g26 := good1e tok mixed (l := [g31, g40]) (by simp [ok31, ok40]) Try.func26 (by decide) (by decide) v26_eq (args1 fun a hw hp => by
  simp only [g26, told, show Φ 26 = mFeedOf from rfl, mFeedOf, con_ok, cell_zero] at hp
  have h1 := szW a.row
  simp [v26, g26, RSh.cells, show Φ 26 = mFeedOf from rfl, show Φ 31 = mCpAl from rfl, show Φ 40 = mCpAls from rfl, mFeedOf, mCpAl, mCpAls, joinA, cpAl, chunk, rowAt, lenMax, one_len, -List.length_flatMap]
  have h3 : ∀ xs : List (List D), Go.Vx.rowAt xs 3 = rowN xs 3 := fun _ => rfl
  simp only [h3]
  refine ⟨fun x1 x2 => ?_, fun x1 => ?_⟩
  · have hk : 3 < (cell a.row 17).asList.length := by omega
    have h4 := sumR_rowN (p := szDs kTask) hk
    have h5 := szTk (rowN (cell a.row 17).asList 3)
    rw [show tt (3 < (cell a.row 17).asList.length ∧ (cell (rowN (cell a.row 17).asList 3) 0).asInt = 5) = true by simp; exact ⟨hk, x2⟩]
    exact ⟨by omega, by omega, rfl⟩
  · rw [show tt (3 < (cell a.row 17).asList.length ∧ (cell (rowN (cell a.row 17).asList 3) 0).asInt = 5) = false by simp; intro y; exact x1 (by omega)]
    exact ⟨by omega, rfl⟩)

theorem szM_ok {n : Nat} {l : Int} (h : 0 ≤ szM n l) : (n : Int) ≤ l ∧ szM n l = l - n := by
  rcases Int.lt_or_le l n with h' | h'
  · rw [szM_neg h'] at h; omega
  · exact ⟨h', szM_pos h'⟩
theorem cnt_cpAl (r : List D) : cntDs kAlarm (cpAl r) = cntDs kAlarm r := by simp [cpAl, cntDs_cons, cntDs_nil, cntD_int, cntD_str, cntD_sl]
theorem len_cpAl {r : List D} (h : lenD (.sl 0 kLabel) (cell r 0)) : (cpAl r).length = kAlarm.length ∧ lenDs kAlarm (cpAl r) := by
  refine ⟨rfl, ?_⟩
  simp only [cpAl, lenDs_cons, lenDs_nil, lenD_int, lenD_str, cell_zero, List.tail_cons, and_true]
  exact h
theorem map_cpAl (xs : List (List D)) : sumR (cntDs kAlarm) (xs.flatMap fun r => [cpAl r]) = sumR (cntDs kAlarm) xs := by
  induction xs with
  | nil => rfl
  | cons x xs ih => simp only [List.flatMap_cons, sumR_append, sumR, ih, cnt_cpAl]; omega
theorem lenW {r : List D} (h : szDs kWorld' r ≤ 1048576) : lenDs kWorld (cnDs kWorld' r) := lenDs_cn kWorld' r (by omega)
theorem szW' (r : List D) : szDs kWorld (cnDs kWorld' r) = szDs kWorld' r := szDs_cnDs kWorld' r
theorem aslRow_pre : ∀ (ks : List K) (pre r : List D), aslRow ks pre.length (pre ++ cnDs ks r) = cnDs ks r
  | [], pre, r => rfl
  | k :: ks, pre, r => by
    have h0 : cell (pre ++ cnDs (k :: ks) r) pre.length = cnD k (cell r 0) := by
      rw [cnDs_cons]
      simp [cell, List.getD_eq_getElem?_getD]
    have h1 := aslRow_pre ks (pre ++ [cnD k (cell r 0)]) r.tail
    rw [List.length_append, List.length_singleton, List.append_assoc] at h1
    rw [aslRow, h0, cnDs_cons]
    have h2 : aslC k (cnD k (cell r 0)) = cnD k (cell r 0) := by cases k <;> rfl
    rw [h2]
    exact congrArg _ h1
theorem mkW0 (X : List D) : [cell X 0, cell X 1, cell X 2, cell X 3, cell X 4, D.sl (cell X 5).asList, cell X 6, cell X 7, D.sl (cell X 8).asList, D.sl (cell X 9).asList, D.sl (cell X 10).asList, cell X 11, D.sl (cell X 12).asList, cell X 13, D.sl (cell X 14).asList, D.sl (cell X 15).asList, D.sl (cell X 16).asList, D.sl (cell X 17).asList, D.sl (cell X 18).asList] = aslRow kWorld' 0 X := rfl
theorem mkW (r : List D) : aslRow kWorld' 0 (cnDs kWorld' r) = cnDs kWorld' r := aslRow_pre kWorld' [] r
theorem cntW (r : List D) : cntSl kWorld r ≤ cntDs kWorld r := by
  simp only [cntSl, cntDs_cons, cntDs_nil, cntD_int, cntD_sl, cell_tail]
  omega
theorem cntW' (r : List D) : cntDs kWorld r ≤ 19 + 20 * szDs kWorld r := cntDs_le (C := 20) kWorld r rfl
/-- What is told and not in a group yet: how many marks it takes, and that its rows are as long as they should be. -/
theorem cnt_feed (r : List D) : sumR (cntDs kAlarm) (joinA r ++ (cell r 10).asList.flatMap fun r => [cpAl r]) ≤ cntDs kWorld r := by
  rw [sumR_append, map_cpAl]
  have h1 : sumR (cntDs kAlarm) (joinA r) ≤ sumR (cntDs kTask) (cell r 17).asList := by
    unfold joinA
    by_cases h : 3 < (cell r 17).asList.length ∧ (cell (rowN (cell r 17).asList 3) 0).asInt = 5
    · rw [show tt _ = true from (tt_ok _).mpr h]
      have h4 := sumR_rowN (p := cntDs kTask) h.1
      refine Nat.le_trans ?_ h4
      simp only [cond_true, sumR, cnt_cpAl]
      simp only [cntDs_cons, cntDs_nil, cntD_int, cntD_str, cntD_sl, cell_tail, cell_zero, List.tail_cons, cell_succ, Nat.zero_add, Nat.reduceAdd]
      omega
    · rw [show tt _ = false from (tt_no _).mpr h]
      simp [sumR]
  simp only [cntDs_cons, cntDs_nil, cntD_int, cntD_sl, cell_tail, Nat.zero_add, Nat.reduceAdd]
  omega
theorem len_feed {r : List D} (h : lenDs kWorld r) (hs : szDs kWorld r ≤ 1048576) : lenD (.sl 0 kAlarm) (.sl (joinA r ++ (cell r 10).asList.flatMap fun r => [cpAl r])) := by
  simp only [lenDs_cons, cell_tail, Nat.zero_add, Nat.reduceAdd] at h
  have h10 : lenD (.sl 0 kAlarm) (cell r 10) := h.2.2.2.2.2.2.2.2.2.2.1
  have h17 : lenD (.sl 0 kTask) (cell r 17) := h.2.2.2.2.2.2.2.2.2.2.2.2.2.2.2.2.2.1
  have hz := szW r
  have hj : (joinA r).length ≤ 1 := by unfold joinA; exact cond_length
  refine ⟨?_, fun x hx => ?_⟩
  · simp only [D.asList_sl, List.length_append, one_len]
    omega
  · rcases List.mem_append.1 hx with hx | hx
    · unfold joinA at hx
      by_cases hc : 3 < (cell r 17).asList.length ∧ (cell (rowN (cell r 17).asList 3) 0).asInt = 5
      · rw [show tt _ = true from (tt_ok _).mpr hc] at hx
        simp only [cond_true, List.mem_singleton] at hx
        subst hx
        have := (h17.2 _ (rowN_mem hc.1)).2
        simp only [lenDs_cons, cell_tail, Nat.zero_add, Nat.reduceAdd] at this
        exact len_cpAl this.2.2.1
      · rw [show tt _ = false from (tt_no _).mpr hc] at hx
        simp at hx
    · obtain ⟨y, hy, hx⟩ := List.mem_flatMap.1 hx
      simp only [List.mem_singleton] at hx
      subst hx
      have := (h10.2 y hy).2
      simp only [lenDs_cons] at this
      exact len_cpAl this.1

theorem ok7 : Good1 Try.prog Φ g7 := good1 tok mixed (l := [g12, g15, g16, g19, g21.x, g23, g26.x, g27.x, g28])
    (by simp [ok12, ok15, ok16, ok19, Good1.x ok21, ok23, Good1.x ok26, Good1.x ok27, ok28]) Try.func7 (by decide) (by decide) v7_eq (args1 fun a hw hp => by
  simp [v7, g7, show Φ 7 = mLaw from rfl, show Φ 12 = mEqL kAlarm from rfl, show Φ 15 = mMrkL kAlarm from rfl, show Φ 16 = mHldL kAlarm from rfl, show Φ 19 = mSzA kWorld' from rfl,
    show Φ 21 = mToA kWorld' from rfl, show Φ 23 = mEqA kWorld from rfl, show Φ 26 = mFeedOf from rfl, show Φ 27 = mFeedOf from rfl, show Φ 28 = mMrkA kWorld from rfl,
    mLaw, mSzA, mToA, mEqL, mEqA, mFeedOf, mMrkA, mMrkL, mHldL, szPre, toPre, mrkPre, mrkPreA, hldPre, eqR_refl (eqDs_refl kAlarm), eqDs_refl kWorld, scanR_sum (cntDs_mrk kAlarm), scanR_all (mkdDs_mrk kAlarm) (cntDs_mrk kAlarm)]
  intro h1
  obtain ⟨h2, h3⟩ := szM_ok h1
  simp only [mkW0, mkW]
  have e1 := szW' a.row
  have l1 := lenW (r := a.row) (by omega)
  have c1 := cntW (cnDs kWorld' a.row)
  have c2 := cntW' (cnDs kWorld' a.row)
  have c3 := cnt_feed (cnDs kWorld' a.row)
  have l3 := len_feed l1 (by omega)
  clear hw hp
  generalize cnDs kWorld' a.row = X at e1 l1 c1 c2 c3 l3 ⊢
  generalize lenDs kWorld X = P1 at l1 ⊢
  generalize lenD (.sl 0 kAlarm) (.sl (joinA X ++ (cell X 10).asList.flatMap fun r => [cpAl r])) = P2 at l3 ⊢
  generalize sumR (cntDs kAlarm) (joinA X ++ (cell X 10).asList.flatMap fun r => [cpAl r]) = n1 at c3 ⊢
  generalize cntSl kWorld X = n2 at c1 ⊢
  generalize cntDs kWorld X = n3 at c1 c2 c3
  generalize szDs kWorld X = n4 at c2 e1 ⊢
  generalize szDs kWorld' a.row = n5 at h1 h2 h3 e1 ⊢
  repeat' (first | omega | assumption | apply And.intro | intro _))
end Go.Proofs.Ytllhihloidkghaa

/-
  Contracts: copies, what is told and not in a group yet.
-/
import Derived.Test.YtllhihloidkghaaGreatSF
set_option linter.unusedVariables false
set_option linter.unusedSimpArgs false
namespace Go.Proofs.YtllhihloidkghaaGreat
open Go.Vx

theorem szAl (r : List D) : (cell r 0).asList.length ≤ szDs kAlarm r := by simp only [szDs_cons, szD]; omega
theorem ok103 : Good1 Tryz.prog Φ g103 := good1 tok mixed (l := []) (by simp) Tryz.func103 (by decide) (by decide) v103_eq (args1 fun a hw hp => by
  simp [g103, show Φ 103 = mCp from rfl, mCp] at hp
  simp [v103, g103, show Φ 103 = mCp from rfl, mCp, lenMax]
  omega)
theorem ok63 : Good1 Tryz.prog Φ g63 := good1 tok mixed (l := []) (by simp) Tryz.func63 (by decide) (by decide) v63_eq (args1 fun a hw hp => by
  simp [g63, show Φ 63 = mCpAl from rfl, mCpAl] at hp
  simp [v63, g63, show Φ 63 = mCpAl from rfl, mCpAl, cpAl, lenMax, chunk]
  omega)
theorem ok81 : Good1 Tryz.prog Φ g81 := good1 tok mixed (l := [g103]) (by simp [ok103]) Tryz.func81 (by decide) (by decide) v81_eq (args1 fun a hw hp => by
  simp [g81, show Φ 81 = mCpAl from rfl, mCpAl] at hp
  simp [v81, g81, show Φ 81 = mCpAl from rfl, show Φ 103 = mCp from rfl, mCp, mCpAl, cpAl, hp])
theorem one_len (f : List D → List D) (xs : List (List D)) : (xs.flatMap fun r => [f r]).length = xs.length := by
  induction xs with
  | nil => rfl
  | cons x xs ih => simp only [List.flatMap_cons, List.length_append, ih, List.length_cons, List.length_nil]; omega
theorem ok82 : Good1 Tryz.prog Φ g82 := good1e tok mixed (l := [g81]) (by simp [ok81]) Tryz.func82 (by decide) (by decide) v82_eq (args1 fun a hw hp => by
  simp [g82, show Φ 82 = mCpAls from rfl, mCpAls] at hp
  refine fm_wp' (Φ := Φ) (g := fun r => [cpAl r]) (xs := a.asList) rfl (fun _ _ => by simp) (by omega) rfl (fun i x hi hx => ?_) fun x hx p => by simp [g82, RSh.cells, show Φ 82 = mCpAls from rfl, mCpAls, hx]
  have hl : x.asList.length = i := by rw [hx, one_len, List.length_take]; omega
  have h1 := sumR_rowN (p := szDs kAlarm) hi
  have h2 := szAl (rowN a.asList i)
  simp [rowAt_nat, show Φ 81 = mCpAl from rfl, mCpAl, cpAl, lenMax, chunk, hl]
  omega)
theorem ok64 : Good1 Tryz.prog Φ g64 := good1e tok mixed (l := [g63]) (by simp [ok63]) Tryz.func64 (by decide) (by decide) v64_eq (args1 fun a hw hp => by
  simp [g64, show Φ 64 = mCpAls from rfl, mCpAls] at hp
  refine fm_wp (Φ := Φ) (g := fun r => [cpAl r]) (xs := a.asList) rfl (fun _ _ => by simp) (by omega) (by simp [chunk]) (fun i x hi hx => ?_) fun x hx p => by simp [g64, RSh.cells, show Φ 64 = mCpAls from rfl, mCpAls, hx]
  have hl : x.asList.length = i := by rw [hx, one_len, List.length_take]; omega
  have h1 := sumR_rowN (p := szDs kAlarm) hi
  have h2 := szAl (rowN a.asList i)
  simp [rowAt_nat, show Φ 63 = mCpAl from rfl, mCpAl, cpAl, lenMax, chunk, hl]
  omega)

/-- What a world is large. -/
theorem szW (r : List D) : (cell r 10).asList.length + sumR (szDs kAlarm) (cell r 10).asList + ((cell r 17).asList.length + sumR (szDs kTask) (cell r 17).asList) ≤ szDs kWorld r := by
  simp only [szDs_cons, szDs_nil, szD, cell_tail, Nat.zero_add, Nat.reduceAdd]
  omega
theorem szTk (r : List D) : (cell r 2).asList.length ≤ szDs kTask r := by
  simp only [szDs_cons, szDs_nil, szD, cell_tail, Nat.zero_add, Nat.reduceAdd]
  omega

theorem ok41 : Good1 Tryz.prog Φ g41 := good1e tok mixed (l := [g81, g82]) (by simp [ok81, ok82]) Tryz.func41 (by decide) (by decide) v41_eq (args1 fun a hw hp => by
  simp only [g41, told, show Φ 41 = mFeedOf from rfl, mFeedOf, con_ok, cell_zero] at hp
  have h1 := szW a.row
  simp [v41, g41, RSh.cells, show Φ 41 = mFeedOf from rfl, show Φ 81 = mCpAl from rfl, show Φ 82 = mCpAls from rfl, mFeedOf, mCpAl, mCpAls, joinA, cpAl, chunk, rowAt, lenMax, one_len, -List.length_flatMap]
  have h3 : ∀ xs : List (List D), Go.Vx.rowAt xs 3 = rowN xs 3 := fun _ => rfl
  simp only [h3]
  refine ⟨fun x1 x2 => ?_, fun x1 => ?_⟩
  · have hk : 3 < (cell a.row 17).asList.length := by omega
    have h4 := sumR_rowN (p := szDs kTask) hk
    have h5 := szTk (rowN (cell a.row 17).asList 3)
    rw [show tt (3 < (cell a.row 17).asList.length ∧ (cell (rowN (cell a.row 17).asList 3) 0).asInt = 5) = true by simp; exact ⟨hk, x2⟩]
    exact ⟨by omega, by omega, rfl⟩
  · rw [show tt (3 < (cell a.row 17).asList.length ∧ (cell (rowN (cell a.row 17).asList 3) 0).asInt = 5) = false by simp; intro y; exact x1 (by omega)]
    exact ⟨by omega, rfl⟩)
theorem ok24 : Good1 Tryz.prog Φ g24 := good1e tok mixed (l := [g63, g64]) (by simp [ok63, ok64]) Tryz.func24 (by decide) (by decide) v24_eq (args1 fun a hw hp => by
  simp only [g24, told, show Φ 24 = mFeedOf from rfl, mFeedOf, con_ok, cell_zero] at hp
  have h1 := szW a.row
  simp [v24, g24, RSh.cells, show Φ 24 = mFeedOf from rfl, show Φ 63 = mCpAl from rfl, show Φ 64 = mCpAls from rfl, mFeedOf, mCpAl, mCpAls, joinA, cpAl, chunk, rowAt, lenMax, one_len, -List.length_flatMap]
  have h3 : ∀ xs : List (List D), Go.Vx.rowAt xs 3 = rowN xs 3 := fun _ => rfl
  simp only [h3]
  refine ⟨fun x1 x2 => ?_, fun x1 => ?_⟩
  · have hk : 3 < (cell a.row 17).asList.length := by omega
    have h4 := sumR_rowN (p := szDs kTask) hk
    have h5 := szTk (rowN (cell a.row 17).asList 3)
    rw [show tt (3 < (cell a.row 17).asList.length ∧ (cell (rowN (cell a.row 17).asList 3) 0).asInt = 5) = true by simp; exact ⟨hk, x2⟩]
    exact ⟨by omega, by omega, rfl⟩
  · rw [show tt (3 < (cell a.row 17).asList.length ∧ (cell (rowN (cell a.row 17).asList 3) 0).asInt = 5) = false by simp; intro y; exact x1 (by omega)]
    exact ⟨by omega, rfl⟩)

theorem szM_ok {n : Nat} {l : Int} (h : 0 ≤ szM n l) : (n : Int) ≤ l ∧ szM n l = l - n := by
  rcases Int.lt_or_le l n with h' | h'
  · rw [szM_neg h'] at h; omega
  · exact ⟨h', szM_pos h'⟩
theorem cnt_cpAl (r : List D) : cntDs kAlarm (cpAl r) = cntDs kAlarm r := by simp [cpAl, cntDs_cons, cntDs_nil, cntD_int, cntD_str, cntD_sl]
theorem len_cpAl {r : List D} (h : lenD (.sl 0 kLabel) (cell r 0)) : (cpAl r).length = kAlarm.length ∧ lenDs kAlarm (cpAl r) := by
  refine ⟨rfl, ?_⟩
  simp only [cpAl, lenDs_cons, lenDs_nil, lenD_int, lenD_str, cell_zero, List.tail_cons, and_true]
  exact h
theorem map_cpAl (xs : List (List D)) : sumR (cntDs kAlarm) (xs.flatMap fun r => [cpAl r]) = sumR (cntDs kAlarm) xs := by
  induction xs with
  | nil => rfl
  | cons x xs ih => simp only [List.flatMap_cons, sumR_append, sumR, ih, cnt_cpAl]; omega
theorem lenW {r : List D} (h : szDs kWorld' r ≤ 1048576) : lenDs kWorld (cnDs kWorld' r) := lenDs_cn kWorld' r (by omega)
theorem szW' (r : List D) : szDs kWorld (cnDs kWorld' r) = szDs kWorld' r := szDs_cnDs kWorld' r
theorem aslRow_pre : ∀ (ks : List K) (pre r : List D), aslRow ks pre.length (pre ++ cnDs ks r) = cnDs ks r
  | [], pre, r => rfl
  | k :: ks, pre, r => by
    have h0 : cell (pre ++ cnDs (k :: ks) r) pre.length = cnD k (cell r 0) := by
      rw [cnDs_cons]
      simp [cell, List.getD_eq_getElem?_getD]
    have h1 := aslRow_pre ks (pre ++ [cnD k (cell r 0)]) r.tail
    rw [List.length_append, List.length_singleton, List.append_assoc] at h1
    rw [aslRow, h0, cnDs_cons]
    have h2 : aslC k (cnD k (cell r 0)) = cnD k (cell r 0) := by cases k <;> rfl
    rw [h2]
    exact congrArg _ h1
theorem mkW0 (X : List D) : [cell X 0, cell X 1, cell X 2, cell X 3, cell X 4, D.sl (cell X 5).asList, cell X 6, cell X 7, D.sl (cell X 8).asList, D.sl (cell X 9).asList, D.sl (cell X 10).asList, cell X 11, D.sl (cell X 12).asList, cell X 13, D.sl (cell X 14).asList, D.sl (cell X 15).asList, D.sl (cell X 16).asList, D.sl (cell X 17).asList, D.sl (cell X 18).asList] = aslRow kWorld' 0 X := rfl
theorem mkW (r : List D) : aslRow kWorld' 0 (cnDs kWorld' r) = cnDs kWorld' r := aslRow_pre kWorld' [] r
theorem cntW (r : List D) : cntSl kWorld r ≤ cntDs kWorld r := by
  simp only [cntSl, cntDs_cons, cntDs_nil, cntD_int, cntD_sl, cell_tail]
  omega
theorem cntW' (r : List D) : cntDs kWorld r ≤ 19 + 20 * szDs kWorld r := cntDs_le (C := 20) kWorld r rfl
/-- What is told and not in a group yet: how many marks it takes, and that its rows are as long as they should be. -/
theorem cnt_feed (r : List D) : sumR (cntDs kAlarm) (joinA r ++ (cell r 10).asList.flatMap fun r => [cpAl r]) ≤ cntDs kWorld r := by
  rw [sumR_append, map_cpAl]
  have h1 : sumR (cntDs kAlarm) (joinA r) ≤ sumR (cntDs kTask) (cell r 17).asList := by
    unfold joinA
    by_cases h : 3 < (cell r 17).asList.length ∧ (cell (rowN (cell r 17).asList 3) 0).asInt = 5
    · rw [show tt _ = true from (tt_ok _).mpr h]
      have h4 := sumR_rowN (p := cntDs kTask) h.1
      refine Nat.le_trans ?_ h4
      simp only [cond_true, sumR, cnt_cpAl]
      simp only [cntDs_cons, cntDs_nil, cntD_int, cntD_str, cntD_sl, cell_tail, cell_zero, List.tail_cons, cell_succ, Nat.zero_add, Nat.reduceAdd]
      omega
    · rw [show tt _ = false from (tt_no _).mpr h]
      simp [sumR]
  simp only [cntDs_cons, cntDs_nil, cntD_int, cntD_sl, cell_tail, Nat.zero_add, Nat.reduceAdd]
  omega
theorem len_feed {r : List D} (h : lenDs kWorld r) (hs : szDs kWorld r ≤ 1048576) : lenD (.sl 0 kAlarm) (.sl (joinA r ++ (cell r 10).asList.flatMap fun r => [cpAl r])) := by
  simp only [lenDs_cons, cell_tail, Nat.zero_add, Nat.reduceAdd] at h
  have h10 : lenD (.sl 0 kAlarm) (cell r 10) := h.2.2.2.2.2.2.2.2.2.2.1
  have h17 : lenD (.sl 0 kTask) (cell r 17) := h.2.2.2.2.2.2.2.2.2.2.2.2.2.2.2.2.2.1
  have hz := szW r
  have hj : (joinA r).length ≤ 1 := by unfold joinA; exact cond_length
  refine ⟨?_, fun x hx => ?_⟩
  · simp only [D.asList_sl, List.length_append, one_len]
    omega
  · rcases List.mem_append.1 hx with hx | hx
    · unfold joinA at hx
      by_cases hc : 3 < (cell r 17).asList.length ∧ (cell (rowN (cell r 17).asList 3) 0).asInt = 5
      · rw [show tt _ = true from (tt_ok _).mpr hc] at hx
        simp only [cond_true, List.mem_singleton] at hx
        subst hx
        have := (h17.2 _ (rowN_mem hc.1)).2
        simp only [lenDs_cons, cell_tail, Nat.zero_add, Nat.reduceAdd] at this
        exact len_cpAl this.2.2.1
      · rw [show tt _ = false from (tt_no _).mpr hc] at hx
        simp at hx
    · obtain ⟨y, hy, hx⟩ := List.mem_flatMap.1 hx
      simp only [List.mem_singleton] at hx
      subst hx
      have := (h10.2 y hy).2
      simp only [lenDs_cons] at this
      exact len_cpAl this.1

end Go.Proofs.YtllhihloidkghaaGreat

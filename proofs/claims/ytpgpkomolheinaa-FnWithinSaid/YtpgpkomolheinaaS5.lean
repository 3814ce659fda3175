/-
  Contracts: alarms in order.
-/
import Derived.Test.YtpgpkomolheinaaW9
set_option linter.unusedVariables false
set_option linter.unusedSimpArgs false
namespace Go.Proofs.Ytpgpkomolheinaa
open Go.Vx

theorem ok87 : Good1 Try.prog Φ g87 := good1e tok mixed (l := [g64, g98]) (by simp [ok64, ok98]) Try.func87 (by decide) (by decide) v87_eq (args1 fun a hw hp => by
  simp [g87, show Φ 87 = mSortA from rfl, mSortA] at hp
  refine loop2_wp (Φ := Φ) (N := a.asList.length) rfl (fun _ _ => by simp) (by omega) (fun i x => x.asList = stS ltA ((a.asList.take i).map cpAl)) (by simp [chunk, stS]) (fun i x hi _ hx => ?_) fun x _ hx p => by
    rw [List.take_of_length_le (Nat.le_refl _)] at hx
    simp [g87, RSh.cells, show Φ 87 = mSortA from rfl, mSortA, hx]
  have hl : x.asList.length = i := by rw [hx, stS_length, List.length_map, List.length_take]; omega
  have h1 := sumR_rowN (p := szDs kAlarm) hi
  have h2 := szAl (rowN a.asList i)
  rw [wp_req']
  refine ⟨by simp [rowAt_nat, show Φ 64 = mCpAl from rfl, mCpAl, hi]; omega, ?_⟩
  refine ins_wp (Φ := Φ) (L := x.asList) rfl (by omega) (ltA (cpAl (rowN a.asList i))) (by simp) (fun k hk => ?_) (fun k hk => ?_) fun q => ?_
  · simp [rowAt_nat, show Φ 98 = mSetLt from rfl, mSetLt, cond_ok]
    rcases Nat.eq_zero_or_pos k with h | h
    · subst h; simp
    · rw [w64 (by omega) (by omega)]; omega
  · simp [rowAt_nat, show Φ 98 = mSetLt from rfl, show Φ 64 = mCpAl from rfl, mCpAl, mSetLt, ltA, cpAl]
    rcases Nat.eq_zero_or_pos k with h | h
    · subst h; simp
    · rw [w64 (by omega) (by omega), show (k : Int) - 1 = ((k - 1 : Nat) : Int) by omega, rowAt_nat, decide_tt]
  · have hq := posR_le (ltA (cpAl (rowN a.asList i))) x.asList x.asList.length
    simp [rowAt_nat, show Φ 98 = mSetLt from rfl, show Φ 64 = mCpAl from rfl, mCpAl, mSetLt]
    generalize hm : posR (ltA (cpAl (rowN a.asList i))) x.asList x.asList.length = m at *
    rw [Nat.min_eq_left hq]
    refine ⟨by simp [lenMax]; omega, ?_⟩
    rw [setB_ne (show (0 : Nat) ≠ 1 by decide), setB_eq]
    refine ⟨_, rfl, ?_⟩
    rw [← List.map_take, map_take_succ _ hi, stS_snoc, ← hx, insR, hm]
    rw [List.take_of_length_le (l := x.asList.drop m) (by simp)]
    simp [chunk, cpAl])

theorem lastsN_succ (f : List D → List D) (l : List (List D)) (n : Nat) : lastsN f l (n + 1) = lastsN f l n ++ (if lastAt l n = true then [f (rowN l n)] else []) := rfl
theorem lastsN_len (f : List D → List D) (l : List (List D)) (n : Nat) : (lastsN f l n).length ≤ n := pickN_len _ _ n

theorem len64 {n : Nat} (h : n ≤ lenMax) : (n : Int) ≤ 140737488355328 := by simp [lenMax] at h; omega
theorem ok85 : Good1 Try.prog Φ g85 := good1 tok mixed (l := [g66]) (by simpa using ok66) Try.func85 (by decide) (by decide) v85_eq (args2 fun a b hw hp => by
  simp [g85] at hw
  show v85.wp Φ (fun l => l = [.int (findR (fun r => eqR (eqDs kLabel) (cell r 0).asList b.asList = true) a.asList 0)]) [a, b] _
  refine loop1_wp (N := a.asList.length) rfl (fun d => by simp) (len64 hw.1.1) (fun i => ∀ j, j < i → ¬ eqR (eqDs kLabel) (cell (rowN a.asList j) 0).asList b.asList = true) (fun j hj => by omega) (fun i hi hI => ?_) (fun hI p => ?_)
  · simp [show Φ 66 = mEqL kLabel from rfl, mEqL, rowAt_nat]
    refine ⟨hi, fun h => ?_, fun h j hj => ?_⟩
    · rw [findR_at hi hI h]; simp
    · rcases Nat.lt_or_ge j i with hji | hji
      · simpa using hI j hji
      · have : j = i := by omega
        subst this; exact h
  · simp
    rw [findR_no hI])

theorem rowN_drop {xs : List (List D)} {n i : Nat} : rowN (xs.drop n) i = rowN xs (n + i) := by
  simp [rowN]
/-- No other one of its labels behind. -/
theorem last_find {l : List (List D)} {i : Nat} (hi : i < l.length) : (findR (fun r => eqR (eqDs kLabel) (cell r 0).asList (cell (rowN l i) 0).asList = true) (l.drop (i + 1)) 0 < 0) ↔ lastAt l i = true := by
  unfold lastAt
  rcases findR_cases (fun r => eqR (eqDs kLabel) (cell r 0).asList (cell (rowN l i) 0).asList = true) (l.drop (i + 1)) with ⟨h1, h2⟩ | ⟨k, hk, h1, h2, _⟩
  · rw [h1]
    refine ⟨fun _ => ?_, fun _ => by omega⟩
    rw [tt_ok]
    intro k h3 h4
    have := h2 (k - (i + 1)) (by simp; omega)
    rw [rowN_drop, show i + 1 + (k - (i + 1)) = k by omega] at this
    simpa using this
  · rw [h1, tt_ok]
    refine ⟨fun h => by omega, fun h => ?_⟩
    rw [rowN_drop] at h2
    rw [h (i + 1 + k) (by omega) (by simp at hk; omega)] at h2
    cases h2

theorem ok51 : Good1 Try.prog Φ g51 := good1e tok mixed (l := [g63, g87]) (by simp [ok63, ok87]) Try.func51 (by decide) (by decide) v51_eq (args1 fun a hw hp => by
  simp [g51, show Φ 51 = mLastOf from rfl, mLastOf] at hp
  refine loop2_wp (Φ := Φ) (N := a.asList.length) rfl (fun _ _ => by simp) (by omega) (fun i x => x.asList = lastsN (fun r => [cell r 0, cell r 1, cell r 2, cell r 3]) a.asList i) (by simp [chunk, lastsN, pickN]) (fun i x hi _ hx => ?_) fun x _ hx p => ?_
  · have hl : x.asList.length ≤ i := by rw [hx]; exact lastsN_len _ _ _
    refine wp_loop' (fun v => ∃ (b : Bool) (k : Nat), v = [.bool b, .int k] ∧ (b = true ↔ ∀ m, i < m → m < k → eqR (eqDs kLabel) (cell (rowN a.asList m) 0).asList (cell (rowN a.asList i) 0).asList = false) ∧ i < k ∧ k ≤ a.asList.length) (fun v => a.asList.length - (cell v 1).asInt.toNat) ⟨true, i + 1, ?_, ?_, by omega, by omega⟩ ?_
    · simp
      rw [w64 (by omega) (by omega)]
    · exact ⟨fun _ m h1 h2 => by omega, fun _ => rfl⟩
    · simp only [allN_succ, allN_zero]
      intro d d'
      refine kinds_intro fun _ => ?_
      rintro ⟨b, k, hd, hb, h1, h2⟩
      simp only [List.cons.injEq, and_true] at hd
      obtain ⟨rfl, rfl⟩ := hd
      rw [wp_ite']
      refine ⟨fun hc => ?_, fun hc => ?_⟩
      · simp at hc
        rw [wp_req']
        refine ⟨by simp [rowAt_nat, show Φ 63 = mEqL kLabel from rfl, mEqL, hi, hc], ?_⟩
        rw [wp_back', setB_eq]
        refine ⟨⟨b && !eqR (eqDs kLabel) (cell (rowN a.asList k) 0).asList (cell (rowN a.asList i) 0).asList, k + 1, ?_, ?_, by omega, by omega⟩, ?_⟩
        · simp [rowAt_nat, show Φ 63 = mEqL kLabel from rfl, mEqL]
          rw [w64 (by omega) (by omega)]
        rotate_left
        · simp
          rw [w64 (by omega) (by omega)]
          omega
        rw [Bool.and_eq_true, hb]
        refine ⟨fun ⟨q1, q2⟩ m h3 h4 => ?_, fun q => ⟨fun m h3 h4 => q m h3 (by omega), by have := q k h1 (by omega); simpa using this⟩⟩
        rcases Nat.lt_or_ge m k with h5 | h5
        · exact q1 m h3 h5
        · have : m = k := by omega
          subst this
          simpa using q2
      · have hk : k = a.asList.length := by simp at hc; omega
        subst hk
        have hb' : b = lastAt a.asList i := by
          rw [Bool.eq_iff_iff, hb, lastAt, tt_ok]
        simp [rowAt_nat, hi, lenMax]
        refine ⟨fun hbt => ⟨by omega, ?_⟩, fun hbf => ?_⟩
        · rw [setB_ne (show (0 : Nat) ≠ 1 by decide), setB_eq]
          refine ⟨_, rfl, ?_⟩
          rw [lastsN_succ, ← hx, ← hb', hbt]
          simp [chunk]
        · rw [setB_ne (show (0 : Nat) ≠ 1 by decide), setB_eq]
          refine ⟨_, rfl, ?_⟩
          rw [lastsN_succ, ← hx, ← hb', hbf]
          simp
  · have h1 := lastsN_len (fun r => [cell r 0, cell r 1, cell r 2, cell r 3]) a.asList a.asList.length
    have h2 : sumR (szDs kAlarm) (lastsN (fun r => [cell r 0, cell r 1, cell r 2, cell r 3]) a.asList a.asList.length) ≤ sumR (szDs kAlarm) a.asList := by
      have := pickN_sum (p := szDs kAlarm) (c := lastAt a.asList) (f := fun i => [cell (rowN a.asList i) 0, cell (rowN a.asList i) 1, cell (rowN a.asList i) 2, cell (rowN a.asList i) 3]) (xs := a.asList) (fun i _ => by
        simp only [szDs_cons, szDs_nil, szD, cell_tail, cell_zero, cell_succ, Nat.zero_add, Nat.reduceAdd]; omega) a.asList.length (Nat.le_refl _)
      rwa [List.take_of_length_le (Nat.le_refl _)] at this
    simp [g51, RSh.cells, show Φ 51 = mLastOf from rfl, mLastOf, show Φ 87 = mSortA from rfl, mSortA, hx]
    refine ⟨by omega, ?_⟩
    rw [lastsN, lastsN, pickN_map]
    rfl)

theorem ok49 : Good1 Try.prog Φ g49 := good1e tok mixed (l := [g67, g85, g86]) (by simp [ok67, ok85, ok86]) Try.func49 (by decide) (by decide) v49_eq (args1 fun a hw hp => by
  simp [g49, show Φ 49 = mLastOf from rfl, mLastOf] at hp
  refine loop2'_wp (Φ := Φ) (N := a.asList.length) rfl (fun _ _ => by simp) (by omega) (fun i x => x.asList = lastsN cpAl a.asList i) rfl (fun i x hi _ hx => ?_) fun x _ hx p => by
    simp [g49, RSh.cells, show Φ 49 = mLastOf from rfl, mLastOf, show Φ 86 = mByL from rfl, mByL, hx]
  have hl : x.asList.length ≤ i := by rw [hx]; exact lastsN_len _ _ _
  have h1 := sumR_rowN (p := szDs kAlarm) hi
  have h2 := szAl (rowN a.asList i)
  have hf := last_find hi
  simp [rowAt_nat, hi]
  rw [w64 (by omega) (by omega)]
  have e1 : ((i : Int) + 1).toNat = i + 1 := by omega
  simp [e1, show Φ 85 = mStands from rfl, mStands, show Φ 67 = mCpAl from rfl, mCpAl, lenMax]
  rw [List.take_of_length_le (l := a.asList.drop (i + 1)) (by simp), lastsN_succ, ← hx, hf]
  refine ⟨by omega, fun h => ⟨by omega, ?_⟩, fun h => ?_⟩
  · rw [h]; simp [chunk, cpAl]
  · have : ¬ lastAt a.asList i = true := fun h' => by have := hf.2 h'; omega
    rw [if_neg this]; simp)
end Go.Proofs.Ytpgpkomolheinaa


/-
  The plain law of reading alarms, last part: both read the same.
-/
import Derived.Test.YthibophjhdoooaaDoorS13
set_option linter.unusedVariables false
set_option linter.unusedSimpArgs false
namespace Go.Proofs.YthibophjhdoooaaDoor
open Go.Vx

theorem rowN_norm {L : List (List D)} {i : Nat} (h : i < L.length) : rowN (L.map norm) i = norm (rowN L i) := by
  rw [rowN_lt (by simpa using h), rowN_lt h]
  simp
theorem setOk_norm {L : List (List D)} (h : SetOk L) : SetOk (L.map norm) := by
  refine ⟨by simpa using h.1, fun i hi => ?_⟩
  have hi' : i < L.length := by simpa using hi
  have := h.2 i hi'
  unfold SetAt
  rw [rowN_norm hi', rowN_norm (by omega : i - 1 < L.length)]
  exact this
theorem setB_norm (L : List (List D)) : setB (L.map norm) = setB L := by
  unfold setB
  rw [List.map_map]
  rfl
theorem setT_norm {L : List (List D)} (h : SetOk L) : setT (L.map norm) = setB L := by
  unfold setT
  rw [tt_true (setOk_norm h), cond_true, setB_norm]
def cRow (r : List D) : List D := [.sl ((cell r 0).asList.map norm), .int (cell r 1).asInt, .int (cell r 2).asInt, .str (cell r 3).asStr]
theorem alT_c {r : List D} (h : AlOk r) : alT (cRow r) = alB r ∧ alT r = alB r := by
  have h' : AlOk (cRow r) := ⟨⟨setOk_norm h.1.1, by show 0 < ((cell r 0).asList.map norm).length; rw [List.length_map]; exact h.1.2⟩, h.2⟩
  refine ⟨?_, by unfold alT; rw [tt_true h]; rfl⟩
  unfold alT
  rw [tt_true h', cond_true]
  show setT ((cell r 0).asList.map norm) ++ _ ++ itoaB (cell r 1).asInt ++ _ ++ itoaB (cell r 2).asInt ++ _ ++ (cell r 3).asStr ++ _ = alB r
  unfold alB
  rw [setT_norm h.1.1]
  unfold setT
  rw [tt_true h.1.1, cond_true]

/-- The bytes of a right alarm. -/
theorem al_bytes {r : List D} (h : AlOk r) : ∃ x xs, (cell r 0).asList = x :: xs ∧ xs.length ≤ 3 ∧ LabW x ∧ (∀ y ∈ xs, LabW y) ∧ lby (setB (cell r 0).asList) = 123 :: (labL x ++ (moreL xs ++ [125])) ∧
    lby (alB r) = 123 :: (labL x ++ (moreL xs ++ 125 :: 32 :: (lby (itoaB (cell r 1).asInt) ++ 45 :: (lby (itoaB (cell r 2).asInt) ++ 32 :: 34 :: (lby (cell r 3).asStr ++ [34]))))) := by
  obtain ⟨x, xs, hx⟩ := List.exists_cons_of_ne_nil (List.length_pos_iff.1 h.1.2)
  have hl := h.1.1.1
  have hw : ∀ y ∈ (cell r 0).asList, LabW y := fun y hy => by
    obtain ⟨i, hi, rfl⟩ := List.getElem_of_mem hy
    have := (h.1.1.2 i hi).1
    rw [rowN_lt hi] at this
    exact this.w
  have hb : lby (setB (cell r 0).asList) = 123 :: (labL x ++ (moreL xs ++ [125])) := by rw [hx, lby_setB]
  refine ⟨x, xs, hx, by rw [hx] at hl; simpa using hl, hw x (by rw [hx]; simp), fun y hy => hw y (by rw [hx]; simp [hy]), hb, ?_⟩
  unfold alB setT
  rw [tt_true h.1.1, cond_true]
  simp only [lby_app]
  rw [hb]
  simp [lby]

theorem plain_no {s : ByteArray} (h : PlainOk s) : ∀ c ∈ lby s, (c.toNat : Int) ≠ 34 := fun c hc => by
  have := mem_byte (p := fun n => 32 ≤ n ∧ n ≤ 126 ∧ n ≠ 34 ∧ n ≠ 92) h.2 c hc
  omega
theorem itoa_dig {n : Int} (h : 0 ≤ n) : ∀ c ∈ lby (itoaB n), 48 ≤ c.toNat ∧ c.toNat ≤ 57 := by
  rw [itoa_lby h]
  exact dec_digit _

theorem spec_run {r : List D} (h : AlOk r) : SOk (alB r) ∧ sRow (alB r) = cRow r := by
  obtain ⟨x, xs, hx, h3, wx, wxs, hset, hb⟩ := al_bytes h
  have hal := alT_c h
  obtain ⟨⟨hS, -⟩, ⟨a1, a2⟩, ⟨a3, a4⟩, hpl⟩ := h
  generalize hs : alB r = s at *
  have n1 := num_ok (n := (cell r 1).asInt) a1 (by omega)
  have n2 := num_ok (n := (cell r 2).asInt) (by omega) a4
  have d1 := itoa_dig (n := (cell r 1).asInt) a1
  have d2 := itoa_dig (n := (cell r 2).asInt) (by omega)
  have hsz := size_at hb
  have hb1 : lby s = [123] ++ (labL x ++ (moreL xs ++ 125 :: (32 :: (lby (itoaB (cell r 1).asInt) ++ 45 :: (lby (itoaB (cell r 2).asInt) ++ 32 :: 34 :: (lby (cell r 3).asStr ++ [34])))))) := hb
  have hP : sP s = ((123 :: (labL x ++ (moreL xs ++ [125]))).length : Nat) := by
    unfold sP
    rw [l28_run (q := 32 :: (lby (itoaB (cell r 1).asInt) ++ 45 :: (lby (itoaB (cell r 2).asInt) ++ 32 :: 34 :: (lby (cell r 3).asStr ++ [34])))) xs x [123] _ 1 rfl wx wxs hb1 (by simp at hsz; omega)]
    simp
    omega
  have hex : s.extract 0 (sP s).toNat = setB (cell r 0).asList := by
    refine lby_inj ?_
    rw [hset, ← toList_lby, Lib.extract_toList]
    show ((lby s).drop _).take _ = _
    rw [hP, hb, Int.toNat_natCast, Nat.sub_zero, List.drop_zero]
    have : (123 :: (labL x ++ (moreL xs ++ 125 :: 32 :: (lby (itoaB (cell r 1).asInt) ++ 45 :: (lby (itoaB (cell r 2).asInt) ++ 32 :: 34 :: (lby (cell r 3).asStr ++ [34]))))) : List UInt8) = (123 :: (labL x ++ (moreL xs ++ [125]))) ++ (32 :: (lby (itoaB (cell r 1).asInt) ++ 45 :: (lby (itoaB (cell r 2).asInt) ++ 32 :: 34 :: (lby (cell r 3).asStr ++ [34])))) := by simp
    rw [this, List.take_left]
  have hps : psR (setB (cell r 0).asList) = (cell r 0).asList.map norm := by rw [hx]; exact psR_run wx wxs (by rw [← hx]; exact hset) h3
  have hPs : PsOk (s.extract 0 (sP s).toNat) := by
    rw [hex]
    refine ⟨fun e => ?_, by rw [hps, setT_norm hS]⟩
    rw [e] at hset
    cases hset
  have hL : sL s = (cell r 0).asList.map norm := by
    unfold sL
    rw [tt_true hPs, cond_true, hex, hps]
  generalize hQ : (123 :: (labL x ++ (moreL xs ++ [125])) : List UInt8) = Q at *
  have hb' : lby s = Q ++ (32 :: (lby (itoaB (cell r 1).asInt) ++ 45 :: (lby (itoaB (cell r 2).asInt) ++ 32 :: 34 :: (lby (cell r 3).asStr ++ [34])))) := by rw [hb, ← hQ]; simp
  have hb2 : lby s = (Q ++ [32]) ++ (lby (itoaB (cell r 1).asInt) ++ 45 :: (lby (itoaB (cell r 2).asInt) ++ 32 :: 34 :: (lby (cell r 3).asStr ++ [34]))) := by rw [hb']; simp
  have k1 : ∀ c ∈ lby (itoaB (cell r 1).asInt), (c.toNat : Int) ≠ 45 := fun c hc => by have := d1 c hc; omega
  have k2 : ∀ c ∈ lby (itoaB (cell r 2).asInt), (c.toNat : Int) ≠ 32 := fun c hc => by have := d2 c hc; omega
  have ha1 : sP s + 1 = ((Q ++ [32]).length : Nat) := by rw [hP]; simp
  have t1 := toT_at (b := 45) ha1 (by decide) hb2 k1
  have p1 := toN_at (b := 45) ha1 (by decide) hb2 k1
  have hK1 : sK1 s = ((Q ++ [32] ++ lby (itoaB (cell r 1).asInt) ++ [45]).length : Nat) := by unfold sK1; rw [p1]; simp; omega
  have hb3 : lby s = (Q ++ [32] ++ lby (itoaB (cell r 1).asInt) ++ [45]) ++ (lby (itoaB (cell r 2).asInt) ++ 32 :: (34 :: (lby (cell r 3).asStr ++ [34]))) := by rw [hb']; simp
  have t2 := toT_at (b := 32) hK1 (by decide) hb3 k2
  have p2 := toN_at (b := 32) hK1 (by decide) hb3 k2
  have hK2 : sK2 s + 1 = ((Q ++ [32] ++ lby (itoaB (cell r 1).asInt) ++ [45] ++ lby (itoaB (cell r 2).asInt) ++ [32, 34]).length : Nat) := by unfold sK2; rw [p2]; simp; omega
  have hb4 : lby s = (Q ++ [32] ++ lby (itoaB (cell r 1).asInt) ++ [45] ++ lby (itoaB (cell r 2).asInt) ++ [32, 34]) ++ (lby (cell r 3).asStr ++ 34 :: []) := by rw [hb']; simp
  have t3 := toT_at (b := 34) hK2 (by decide) hb4 (plain_no hpl)
  have p3 := toN_at (b := 34) hK2 (by decide) hb4 (plain_no hpl)
  rw [mk_lby] at t1 t2 t3
  have hrow : sRow s = cRow r := by
    unfold sRow cRow
    rw [hL, t1, t2, t3, n1.2.2.2, n2.2.2.2]
  exact ⟨⟨by omega, hPs, by omega, by unfold sK2; rw [p2]; omega, by rw [p3]; omega, by rw [t1]; exact n1.2.2.1, by rw [t2]; exact n2.2.2.1, by rw [hrow, hal.1]⟩, hrow⟩

theorem prog_run {r : List D} (h : AlOk r) : IOk (alB r) ∧ iRow (alB r) = cRow r := by
  obtain ⟨x, xs, hx, h3, wx, wxs, hset, hb⟩ := al_bytes h
  have hal := alT_c h
  obtain ⟨⟨hS, -⟩, ⟨a1, a2⟩, ⟨a3, a4⟩, hpl⟩ := h
  generalize hs : alB r = s at *
  have n1 := num_ok (n := (cell r 1).asInt) a1 (by omega)
  have n2 := num_ok (n := (cell r 2).asInt) (by omega) a4
  have d1 := itoa_dig (n := (cell r 1).asInt) a1
  have d2 := itoa_dig (n := (cell r 2).asInt) (by omega)
  have hne : s ≠ ⟨#[]⟩ := fun e => by rw [e] at hb; cases hb
  have hsa := sa_run (q := 32 :: (lby (itoaB (cell r 1).asInt) ++ 45 :: (lby (itoaB (cell r 2).asInt) ++ 32 :: 34 :: (lby (cell r 3).asStr ++ [34])))) wx wxs hb h3
  rw [← hx] at hsa
  have e1 : lby (trimP (setAtF s).2.1 ⟨#[32]⟩) = (lby (itoaB (cell r 1).asInt) ++ 45 :: lby (itoaB (cell r 2).asInt)) ++ ((32 : UInt8) :: [34] ++ (lby (cell r 3).asStr ++ [34])) := by
    rw [hsa]
    have := trimP_at (s := ⟨(32 :: (lby (itoaB (cell r 1).asInt) ++ 45 :: (lby (itoaB (cell r 2).asInt) ++ 32 :: 34 :: (lby (cell r 3).asStr ++ [34])))).toArray⟩) (p := [32]) (q := lby (itoaB (cell r 1).asInt) ++ 45 :: (lby (itoaB (cell r 2).asInt) ++ 32 :: 34 :: (lby (cell r 3).asStr ++ [34]))) (by rw [lby_mk (32 :: _)]; rfl)
    show lby (trimP _ ⟨([32] : List UInt8).toArray⟩) = _
    rw [this]
    simp
  have no1 : ∀ c ∈ lby (itoaB (cell r 1).asInt) ++ 45 :: lby (itoaB (cell r 2).asInt), c ≠ (32 : UInt8) := fun c hc e => by
    subst e
    rcases List.mem_append.1 hc with hc | hc
    · exact absurd (d1 _ hc).1 (by decide)
    · rcases List.mem_cons.1 hc with hc | hc
      · exact absurd hc (by decide)
      · exact absurd (d2 _ hc).1 (by decide)
  have c1 : iTm s = ⟨(lby (itoaB (cell r 1).asInt) ++ 45 :: lby (itoaB (cell r 2).asInt)).toArray⟩ := cutA_at e1 no1
  have c2 : lby (iNt s) = lby (cell r 3).asStr ++ [34] := cutB_at e1 no1
  have hT : lby (iTm s) = lby (itoaB (cell r 1).asInt) ++ ((45 : UInt8) :: [] ++ lby (itoaB (cell r 2).asInt)) := by rw [c1, lby_mk (_ ++ _)]; simp
  have no2 : ∀ c ∈ lby (itoaB (cell r 1).asInt), c ≠ (45 : UInt8) := fun c hc e => by
    subst e
    exact absurd (d1 _ hc).1 (by decide)
  have c3 : cutA (iTm s) ⟨#[45]⟩ = itoaB (cell r 1).asInt := by
    have := cutA_at hT no2
    rw [mk_lby] at this
    exact this
  have c4 : cutB (iTm s) ⟨#[45]⟩ = itoaB (cell r 2).asInt := lby_inj (cutB_at hT no2)
  have c5 : trimS (iNt s) ⟨#[34]⟩ = (cell r 3).asStr := lby_inj (trimS_at c2)
  have hrow : iRow s = cRow r := by
    unfold iRow cRow
    rw [c3, c4, c5, n1.2.1, n2.2.1, hsa]
  exact ⟨⟨by rw [hsa], by rw [c3]; exact n1.1, by rw [c4]; exact n2.1, by rw [hrow, hal.1]; exact hne, by rw [hrow, hal.1]⟩, hrow⟩

theorem agree (s : ByteArray) : (SOk s ↔ IOk s) ∧ (SOk s → sRow s = iRow s) := by
  have key : ∀ r : List D, alT r = s → s ≠ ⟨#[]⟩ → AlOk r ∧ alB r = s := fun r h1 h2 => by
    by_cases h : AlOk r
    · exact ⟨h, by rw [← (alT_c h).2, h1]⟩
    · unfold alT at h1
      rw [tt_false h, cond_false] at h1
      exact absurd h1.symm h2
  have hS : SOk s → IOk s ∧ sRow s = iRow s := fun h => by
    have hne : s ≠ ⟨#[]⟩ := fun e => by
      have h1 := h.1
      have h2 := l28F_range s (s.size + 2) 1
      have h3 : s.size = 0 := by rw [e]; rfl
      unfold sP at h1
      omega
    obtain ⟨h1, h2⟩ := key _ h.2.2.2.2.2.2.2 hne
    have hp := prog_run h1
    have hq := spec_run h1
    rw [h2] at hp hq
    exact ⟨hp.1, by rw [hp.2, ← hq.2]⟩
  have hI : IOk s → SOk s := fun h => by
    obtain ⟨h1, h2⟩ := key _ h.2.2.2.2 (fun e => h.2.2.2.1 (by rw [h.2.2.2.2, e]))
    have hq := spec_run h1
    rw [h2] at hq
    exact hq.1
  exact ⟨⟨fun h => (hS h).1, hI⟩, fun h => (hS h).2⟩
theorem iok_row {s : ByteArray} (h : IOk s) : AlOk (iRow s) ∧ iRow s = cRow (iRow s) := by
  have h1 : AlOk (iRow s) := by
    by_cases h' : AlOk (iRow s)
    · exact h'
    · have := h.2.2.2.1
      unfold alT at this
      rw [tt_false h', cond_false] at this
      exact absurd rfl this
  have h2 : alB (iRow s) = s := by rw [← (alT_c h1).2]; exact h.2.2.2.2
  have hp := (prog_run h1).2
  rw [h2] at hp
  exact ⟨h1, hp⟩
end Go.Proofs.YthibophjhdoooaaDoor


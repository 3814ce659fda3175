/-
  Contracts: alarms read.
-/
import Derived.Test.YthibophjhdoooaaDoorS9
set_option linter.unusedVariables false
set_option linter.unusedSimpArgs false
namespace Go.Proofs.YthibophjhdoooaaDoor
open Go.Vx

theorem saF_size : ∀ (f : Nat) (r : ByteArray) (ok : Bool) (out : List (List D)), (saF f r ok out).2.1.size ≤ r.size
  | 0, r, ok, out => by rw [saF]; exact Nat.zero_le _
  | f + 1, r, ok, out => by
    rw [saF]
    split
    · exact Nat.zero_le _
    split
    · exact trimP_size _ _
    split
    · exact Nat.zero_le _
    have h0 : (if 0 < out.length then trimP r ⟨#[44, 32]⟩ else r).size ≤ r.size := by
      split
      · exact trimP_size _ _
      · exact Nat.le_refl _
    generalize (if 0 < out.length then trimP r ⟨#[44, 32]⟩ else r) = r' at h0
    show (if cutO r' ⟨#[61, 34]⟩ = true then _ else _ : List (List D) × ByteArray × Bool).2.1.size ≤ _
    split
    · have h1 := saF_size f (cutB (cutB r' ⟨#[61, 34]⟩) ⟨#[34]⟩) (cutO (cutB r' ⟨#[61, 34]⟩) ⟨#[34]⟩) (out ++ [[.str (cutA r' ⟨#[61, 34]⟩), .str (cutA (cutB r' ⟨#[61, 34]⟩) ⟨#[34]⟩)]])
      have h2 := cutB_size (cutB r' ⟨#[61, 34]⟩) ⟨#[34]⟩
      have h3 := cutB_size r' ⟨#[61, 34]⟩
      omega
    · have h1 := saF_size f (cutB r' ⟨#[61, 34]⟩) false (out ++ [[.str (cutA r' ⟨#[61, 34]⟩), .str ⟨#[]⟩]])
      have h3 := cutB_size r' ⟨#[61, 34]⟩
      omega
theorem setAtF_size (s : ByteArray) : (setAtF s).2.1.size ≤ s.size := by
  have h1 := saF_size (s.size + 3) (trimP s ⟨#[123]⟩) (Lib.hasPrefix (lby s) (lby ⟨#[123]⟩)) []
  have h2 := trimP_size s ⟨#[123]⟩
  unfold setAtF
  omega

theorem pa_no {ok : ByteArray → Prop} {row : ByteArray → List D} {s : ByteArray} (h : ¬ ok s) : (cell (bif tt (ok s) then row s else [D.sl [], D.int 0, D.int 0, D.str ⟨#[]⟩]) 0).asList = [] ∧ 0 = (cell (bif tt (ok s) then row s else [D.sl [], D.int 0, D.int 0, D.str ⟨#[]⟩]) 1).asInt ∧
    0 = (cell (bif tt (ok s) then row s else [D.sl [], D.int 0, D.int 0, D.str ⟨#[]⟩]) 2).asInt ∧ ⟨#[]⟩ = (cell (bif tt (ok s) then row s else [D.sl [], D.int 0, D.int 0, D.str ⟨#[]⟩]) 3).asStr ∧ ¬ ok s := by
  rw [tt_false h]
  exact ⟨rfl, rfl, rfl, rfl, h⟩
theorem pa_yes {ok : ByteArray → Prop} {row : ByteArray → List D} {s : ByteArray} (h : ok s) : (cell (row s) 0).asList = (cell (bif tt (ok s) then row s else [D.sl [], D.int 0, D.int 0, D.str ⟨#[]⟩]) 0).asList ∧ (cell (row s) 1).asInt = (cell (bif tt (ok s) then row s else [D.sl [], D.int 0, D.int 0, D.str ⟨#[]⟩]) 1).asInt ∧
    (cell (row s) 2).asInt = (cell (bif tt (ok s) then row s else [D.sl [], D.int 0, D.int 0, D.str ⟨#[]⟩]) 2).asInt ∧ (cell (row s) 3).asStr = (cell (bif tt (ok s) then row s else [D.sl [], D.int 0, D.int 0, D.str ⟨#[]⟩]) 3).asStr ∧ ok s := by
  rw [tt_true h]
  exact ⟨rfl, rfl, rfl, rfl, h⟩

theorem ok6 : Good1 Tryd.prog Φ g6 := good1e tok mixed (l := [g7, g14, g15, g16, g17, g18]) (by simp [ok14, ok15, ok16, ok17, ok18, ok7]) Tryd.func6 (by decide) (by decide) v6_eq (args1 fun a hw hp => by
  simp [g6, show Φ 6 = mPA IOk iRow from rfl, mPA] at hp
  have q1 := setAtF_size a.asStr
  have q2 := trimP_size (setAtF a.asStr).2.1 ⟨#[32]⟩
  have q3 := cutA_size (trimP (setAtF a.asStr).2.1 ⟨#[32]⟩) ⟨#[32, 34]⟩
  have e1 : cutA (trimP (setAtF a.asStr).2.1 ⟨#[32]⟩) ⟨#[32, 34]⟩ = iTm a.asStr := rfl
  rw [e1] at q3
  have e2 : cutB (trimP (setAtF a.asStr).2.1 ⟨#[32]⟩) ⟨#[32, 34]⟩ = iNt a.asStr := rfl
  simp [v6, g6, RSh.cells, show Φ 6 = mPA IOk iRow from rfl, show Φ 14 = mSetAt from rfl, show Φ 15 = mCut from rfl, show Φ 16 = mTrimP from rfl, show Φ 17 = mTrimS from rfl, show Φ 18 = mNumI from rfl, show Φ 7 = mAlT from rfl, mSetAt, mCut, mTrimP, mTrimS, mNumI, mAlT, mPA, con, hp, e1, e2]
  have r1 : [D.sl (setAtF a.asStr).1, D.int (numI (cutA (iTm a.asStr) ⟨#[45]⟩)), D.int (numI (cutB (iTm a.asStr) ⟨#[45]⟩)), D.str (trimS (iNt a.asStr) ⟨#[34]⟩)] = iRow a.asStr := rfl
  rw [r1]
  refine ⟨fun h => pa_no fun h' => (by have := h'.1; rw [h] at this; cases this), fun h => ⟨by omega, by omega, ?_, fun h2 => pa_no fun h' => ?_, fun h2 h3 h4 h5 => pa_yes (row := iRow) ⟨h, h2, h3, h4, h5⟩⟩⟩
  · by_cases p : OkNI (cutA (iTm a.asStr) ⟨#[45]⟩) <;> by_cases q : OkNI (cutB (iTm a.asStr) ⟨#[45]⟩) <;> by_cases t : alT (iRow a.asStr) = ⟨#[]⟩ <;> simp [p, q, t]
  · obtain ⟨-, p1, p2, p3, p4⟩ := h'
    rcases h2 with ((h2 | h2) | h2) | h2
    · exact h2 p1
    · exact h2 p2
    · exact p3 h2
    · exact h2 p4)

theorem l28F_range (s : ByteArray) : ∀ (f : Nat) (p : Int), l28F s f p = -1 ∨ (1 ≤ l28F s f p ∧ l28F s f p ≤ s.size)
  | 0, p => .inl rfl
  | f + 1, p => by
    rw [l28F]
    have r2 := toN_range s (toN s p 61 + 1) 34
    split
    · exact .inl rfl
    split
    · exact .inl rfl
    split
    · exact .inr ⟨by omega, by omega⟩
    · exact l28F_range s f _

theorem ok9 : Good1 Tryd.prog Φ g9 := good1e tok mixed (l := [g24, g26, g27, g28, g29]) (by simp [ok26, ok27, ok28, ok29, ok24]) Tryd.func9 (by decide) (by decide) v9_eq (args1 fun a hw hp => by
  simp [g9, show Φ 9 = mPA SOk sRow from rfl, mPA] at hp
  have e1 : l28F a.asStr (a.asStr.size + 2) 1 = sP a.asStr := rfl
  have q1 : sP a.asStr < 0 ∨ (0 ≤ sP a.asStr ∧ sP a.asStr ≤ a.asStr.size) := by have := l28F_range a.asStr (a.asStr.size + 2) 1; rw [e1] at this; omega
  have w1 : IntKind.i64.wrap (sP a.asStr + 1) = sP a.asStr + 1 := by
    have := l28F_range a.asStr (a.asStr.size + 2) 1
    rw [e1] at this
    exact w64 (by omega) (by omega)
  have e2 : toN a.asStr (sP a.asStr + 1) 45 = sK1 a.asStr := rfl
  have e3 : toN a.asStr (sK1 a.asStr) 32 = sK2 a.asStr := rfl
  have w2 : IntKind.i64.wrap (sK2 a.asStr + 1) = sK2 a.asStr + 1 := by
    have := toN_range a.asStr (sK1 a.asStr) 32
    rw [e3] at this
    exact w64 (by omega) (by omega)
  have hex : (a.asStr.extract 0 (sP a.asStr).toNat).size ≤ 1048576 := by simp; omega
  have e4 : (bif tt (PsOk (a.asStr.extract 0 (sP a.asStr).toNat)) then psR (a.asStr.extract 0 (sP a.asStr).toNat) else []) = sL a.asStr := rfl
  have r1 : [D.sl (sL a.asStr), .int (numS (toT a.asStr (sP a.asStr + 1) 45)), .int (numS (toT a.asStr (sK1 a.asStr) 32)), .str (toT a.asStr (sK2 a.asStr + 1) 34)] = sRow a.asStr := rfl
  simp [v9, g9, RSh.cells, show Φ 9 = mPA SOk sRow from rfl, show Φ 26 = mL28 from rfl, show Φ 27 = mPS from rfl, show Φ 28 = mTo from rfl, show Φ 29 = mNumS from rfl, show Φ 24 = mAlT from rfl, mL28, mPS, mTo, mNumS, mAlT, mPA, con, hp, e1, e2, e3, e4, w1, w2, r1, -ByteArray.size_extract, hex]
  refine ⟨fun h => pa_no fun h' => (by have := h'.1; omega), fun h => ⟨⟨h, by omega⟩, by omega, Classical.em _ |>.symm, fun h2 => pa_no fun h' => ?_, fun h2 h3 => ⟨h3, fun h4 => pa_no fun h' => (by have := h'.2.2.2.1; omega), fun h4 => ⟨by omega, fun h5 => pa_no fun h' => (by have := h'.2.2.2.2.1; omega), fun h5 => ?_⟩⟩⟩⟩
  · rcases h2 with h2 | h2
    · exact h2 h'.2.1
    · have := h'.2.2.1; omega
  · refine ⟨⟨?_, ?_⟩, fun h6 => pa_no fun h' => ?_, fun h6 h7 h8 => pa_yes (row := sRow) ⟨h, h2, h3, h4, h5, h6, h7, h8⟩⟩
    · by_cases p : OkNS (toT a.asStr (sP a.asStr + 1) 45) <;> simp [p]
    · by_cases p : OkNS (toT a.asStr (sP a.asStr + 1) 45) <;> by_cases q : OkNS (toT a.asStr (sK1 a.asStr) 32) <;> simp [p, q]
    · obtain ⟨-, -, -, -, -, p1, p2, p3⟩ := h'
      rcases h6 with (h6 | h6) | h6
      · exact h6 p1
      · exact h6 p2
      · exact h6 p3)
end Go.Proofs.YthibophjhdoooaaDoor


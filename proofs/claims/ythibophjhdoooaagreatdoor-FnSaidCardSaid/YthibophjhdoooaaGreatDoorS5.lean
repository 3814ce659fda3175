/-
  Contracts: listeners, codes, tasks, deeds in words.
-/
import Derived.Test.YthibophjhdoooaaGreatDoorS4
set_option linter.unusedVariables false
set_option linter.unusedSimpArgs false
namespace Go.Proofs.YthibophjhdoooaaGreatDoor
open Go.Vx

theorem ok19 : Good1 Tryz.prog Φ g19 := good1 tok mixed (l := [g17]) (by simp [ok17]) Tryz.func19 (by decide) (by decide) v19_eq (args1 fun a hw hp => by
  simp [g19, show Φ 19 = mSubT from rfl, mSubT] at hp
  simp [v19, g19, show Φ 19 = mSubT from rfl, show Φ 17 = mAlsT from rfl, mAlsT, mSubT, subT, hp]
  cases (cell a.row 1).asBool <;> simp)
theorem ok18 : Good1 Tryz.prog Φ g18 := good1 tok mixed (l := [g16]) (by simp [ok16]) Tryz.func18 (by decide) (by decide) v18_eq (args1 fun a hw hp => by
  simp [g18, show Φ 18 = mSubT from rfl, mSubT] at hp
  simp [v18, g18, show Φ 18 = mSubT from rfl, show Φ 16 = mAlsT from rfl, mAlsT, mSubT, subT, hp]
  cases (cell a.row 1).asBool <;> simp)

/-! Codes. -/
theorem codes_len : codesR.length = 8 := rfl
theorem codes_size : ∀ i, i < 8 → (cell (rowN codesR i) 0).asStr.size ≤ 6 := by decide
theorem codes_str : ∀ i, i < 8 → cell (rowN codesR i) 0 = .str (cell (rowN codesR i) 0).asStr
  | 0, _ => rfl
  | 1, _ => rfl
  | 2, _ => rfl
  | 3, _ => rfl
  | 4, _ => rfl
  | 5, _ => rfl
  | 6, _ => rfl
  | 7, _ => rfl
  | n + 8, h => by omega
theorem codeT_size (n : Int) : (codeT n).size ≤ 6 := by
  unfold codeT
  by_cases h : 1 ≤ n ∧ n ≤ 8
  · rw [tt_true h]
    exact codes_size (n - 1).toNat (by omega)
  · rw [tt_false h]
    simp [sz_mk]
theorem codes_split : splitR ⟨#[110, 101, 119, 32, 109, 101, 114, 103, 101, 100, 32, 102, 117, 108, 108, 32, 102, 111, 114, 109, 32, 102, 111, 117, 110, 100, 32, 110, 111, 110, 101, 32, 108, 97, 103, 32, 100, 111, 110, 101]⟩ ⟨#[32]⟩ = codesR := by
  have h : Lib.splitB ⟨#[32]⟩ 0 (Lib.countB ⟨#[110, 101, 119, 32, 109, 101, 114, 103, 101, 100, 32, 102, 117, 108, 108, 32, 102, 111, 114, 109, 32, 102, 111, 117, 110, 100, 32, 110, 111, 110, 101, 32, 108, 97, 103, 32, 100, 111, 110, 101]⟩ ⟨#[32]⟩) ⟨#[110, 101, 119, 32, 109, 101, 114, 103, 101, 100, 32, 102, 117, 108, 108, 32, 102, 111, 114, 109, 32, 102, 111, 117, 110, 100, 32, 110, 111, 110, 101, 32, 108, 97, 103, 32, 100, 111, 110, 101]⟩ = [⟨#[110, 101, 119]⟩, ⟨#[109, 101, 114, 103, 101, 100]⟩, ⟨#[102, 117, 108, 108]⟩, ⟨#[102, 111, 114, 109]⟩, ⟨#[102, 111, 117, 110, 100]⟩, ⟨#[110, 111, 110, 101]⟩, ⟨#[108, 97, 103]⟩, ⟨#[100, 111, 110, 101]⟩] := by decide +kernel
  unfold splitR
  rw [h]
  rfl
theorem codes_fit : ∀ x ∈ Lib.splitB ⟨#[32]⟩ 0 (Lib.countB ⟨#[110, 101, 119, 32, 109, 101, 114, 103, 101, 100, 32, 102, 117, 108, 108, 32, 102, 111, 114, 109, 32, 102, 111, 117, 110, 100, 32, 110, 111, 110, 101, 32, 108, 97, 103, 32, 100, 111, 110, 101]⟩ ⟨#[32]⟩) ⟨#[110, 101, 119, 32, 109, 101, 114, 103, 101, 100, 32, 102, 117, 108, 108, 32, 102, 111, 114, 109, 32, 102, 111, 117, 110, 100, 32, 110, 111, 110, 101, 32, 108, 97, 103, 32, 100, 111, 110, 101]⟩, x.size ≤ lenMax := by decide +kernel
theorem ok34 : Good1 Tryz.prog Φ g34 := good1 tok mixed (l := [g38]) (by simp [ok38]) Tryz.func34 (by decide) (by decide) v34_eq (args1 fun a hw hp => by
  simp [v34, g34, show Φ 34 = mCodeT from rfl, show Φ 38 = mB _ from rfl, mB, mCodeT, codeT, chunk]
  refine ⟨fun h => by rw [tt_false (by omega)]; rfl, fun h1 h2 => ?_⟩
  have e : IntKind.i64.wrap (a.asInt - 1) = ((a.asInt.toNat - 1 : Nat) : Int) := by rw [w64 (by omega) (by omega)]; omega
  have hs := codes_str (a.asInt.toNat - 1) (by omega)
  rw [e, tt_true ⟨h1, h2⟩, cond_true, ← hs]
  refine ⟨⟨by omega, by omega⟩, ?_⟩
  show cell (Go.Vx.rowAt codesR _) 0 = _
  rw [Go.Vx.rowAt_nat])
theorem ok32 : Good1 Tryz.prog Φ g32 := good1 tok mixed (l := [g36, g37]) (by simp [ok36, ok37]) Tryz.func32 (by decide) (by decide) v32_eq (args1 fun a hw hp => by
  simp [v32, g32, show Φ 32 = mCodeT from rfl, show Φ 36 = mB _ from rfl, show Φ 37 = mSplit from rfl, mB, mSplit, mCodeT, codeT, codes_split, codes_fit, codes_len]
  refine ⟨fun h => by rw [tt_false (by omega)]; rfl, fun h1 h2 => ?_⟩
  have e : IntKind.i64.wrap (a.asInt - 1) = ((a.asInt.toNat - 1 : Nat) : Int) := by rw [w64 (by omega) (by omega)]; omega
  have hs := codes_str (a.asInt.toNat - 1) (by omega)
  rw [e, tt_true ⟨h1, h2⟩, cond_true, ← hs]
  rw [Go.Vx.rowAt_nat]
  exact ⟨⟨⟨by decide, by decide, codes_fit⟩, by omega, by omega⟩, rfl⟩)

/-! Tasks. -/
def namesR : List (List D) := [[.str ⟨#[105, 100, 108, 101]⟩], [.str ⟨#[112, 117, 116, 32]⟩], [.str ⟨#[103, 101, 116, 32]⟩], [.str ⟨#[108, 105, 115, 116, 32]⟩], [.str ⟨#[115, 119, 101, 101, 112, 32]⟩], [.str ⟨#[106, 111, 105, 110, 32]⟩], [.str ⟨#[102, 108, 117, 115, 104, 32]⟩]]
theorem tasks_len : tasksR.length = 6 := rfl
theorem tasks_size : ∀ i, i < 6 → (cell (rowN tasksR i) 0).asStr.size ≤ 5 := by decide
theorem tasks_names : ∀ i, i < 6 → (cell (rowN namesR (i + 1)) 0).asStr = (cell (rowN tasksR i) 0).asStr ++ ⟨#[32]⟩
  | 0, _ => rfl
  | 1, _ => rfl
  | 2, _ => rfl
  | 3, _ => rfl
  | 4, _ => rfl
  | 5, _ => rfl
  | n + 6, h => by omega
theorem tasks_split : splitR ⟨#[112, 117, 116, 32, 103, 101, 116, 32, 108, 105, 115, 116, 32, 115, 119, 101, 101, 112, 32, 106, 111, 105, 110, 32, 102, 108, 117, 115, 104]⟩ ⟨#[32]⟩ = tasksR := by
  have h : Lib.splitB ⟨#[32]⟩ 0 (Lib.countB ⟨#[112, 117, 116, 32, 103, 101, 116, 32, 108, 105, 115, 116, 32, 115, 119, 101, 101, 112, 32, 106, 111, 105, 110, 32, 102, 108, 117, 115, 104]⟩ ⟨#[32]⟩) ⟨#[112, 117, 116, 32, 103, 101, 116, 32, 108, 105, 115, 116, 32, 115, 119, 101, 101, 112, 32, 106, 111, 105, 110, 32, 102, 108, 117, 115, 104]⟩ = [⟨#[112, 117, 116]⟩, ⟨#[103, 101, 116]⟩, ⟨#[108, 105, 115, 116]⟩, ⟨#[115, 119, 101, 101, 112]⟩, ⟨#[106, 111, 105, 110]⟩, ⟨#[102, 108, 117, 115, 104]⟩] := by decide +kernel
  unfold splitR
  rw [h]
  rfl
theorem tasks_fit : ∀ x ∈ Lib.splitB ⟨#[32]⟩ 0 (Lib.countB ⟨#[112, 117, 116, 32, 103, 101, 116, 32, 108, 105, 115, 116, 32, 115, 119, 101, 101, 112, 32, 106, 111, 105, 110, 32, 102, 108, 117, 115, 104]⟩ ⟨#[32]⟩) ⟨#[112, 117, 116, 32, 103, 101, 116, 32, 108, 105, 115, 116, 32, 115, 119, 101, 101, 112, 32, 106, 111, 105, 110, 32, 102, 108, 117, 115, 104]⟩, x.size ≤ lenMax := by decide +kernel
theorem ok13 : Good1 Tryz.prog Φ g13 := good1 tok mixed (l := [g35, g38]) (by simp [ok38, ok35]) Tryz.func13 (by decide) (by decide) v13_eq (args1 fun a hw hp => by
  simp [g13] at hw
  have h7 := itoaB_size (n := (cell a.row 1).asInt) hw.2.1
  simp [v13, g13, show Φ 13 = mTaskT from rfl, show Φ 38 = mB _ from rfl, show Φ 35 = mItoa from rfl, mB, mItoa, mTaskT, taskT, chunk]
  generalize hn : (cell a.row 0).asInt = n
  refine ⟨fun h => ?_, fun h1 h2 => ⟨fun h0 => ?_, fun h0 => ?_⟩⟩
  · rw [tt_false (p := n = 0) (by omega), tt_false (by omega)]; rfl
  · rw [tt_true h0]; rfl
  · obtain ⟨k, hk, hnk⟩ : ∃ k : Nat, k < 6 ∧ n = ((k + 1 : Nat) : Int) := ⟨n.toNat - 1, by omega, by omega⟩
    have hs := tasks_size k hk
    have hx : (cell (Go.Vx.rowAt namesR n) 0).asStr = (cell (rowN tasksR k) 0).asStr ++ ⟨#[32]⟩ := by rw [hnk, Go.Vx.rowAt_nat]; exact tasks_names k hk
    have hk' : n.toNat - 1 = k := by omega
    rw [tt_false h0, tt_true ⟨by omega, by omega⟩, hk']
    show (_ ∧ _ ∧ (cell (Go.Vx.rowAt namesR _) 0).asStr.size + _ ≤ _) ∧ (cell (Go.Vx.rowAt namesR _) 0).asStr ++ _ = _
    rw [hx]
    refine ⟨⟨by omega, by omega, ?_⟩, rfl⟩
    rw [ba_size_append, show (⟨#[32]⟩ : ByteArray).size = 1 from rfl]
    simp only [lenMax]
    omega)
theorem ok12 : Good1 Tryz.prog Φ g12 := good1 tok mixed (l := [g31, g36, g37]) (by simp [ok36, ok37, ok31]) Tryz.func12 (by decide) (by decide) v12_eq (args1 fun a hw hp => by
  simp [g12] at hw
  have h7 := itoaB_size (n := (cell a.row 1).asInt) hw.2.1
  simp [v12, g12, show Φ 12 = mTaskT from rfl, show Φ 36 = mB _ from rfl, show Φ 37 = mSplit from rfl, show Φ 31 = mItoa from rfl, mB, mItoa, mSplit, mTaskT, taskT, tasks_split, tasks_len]
  generalize hn : (cell a.row 0).asInt = n
  refine ⟨fun h0 => by rw [tt_true h0]; rfl, fun h0 => ⟨fun h1 h2 => ?_, fun h => ?_⟩⟩
  · have e : IntKind.i64.wrap (n - 1) = ((n.toNat - 1 : Nat) : Int) := by rw [w64 (by omega) (by omega)]; omega
    have hs := tasks_size (n.toNat - 1) (by omega)
    rw [e, Go.Vx.rowAt_nat, tt_false h0, tt_true ⟨h1, h2⟩]
    have hz : (⟨#[32]⟩ : ByteArray).size = 1 := rfl
    exact ⟨⟨⟨by decide, by decide, tasks_fit⟩, by omega, by omega, by rw [hz]; simp only [lenMax]; omega, by rw [hz]; simp only [lenMax]; omega⟩, rfl⟩
  · rw [tt_false h0, tt_false (by omega)]; rfl)

/-! Deeds. -/
theorem ttT : tt True = true := tt_true trivial
theorem ttF : tt False = false := tt_false id
theorem op_cases (n : Int) : n = 1 ∨ n = 2 ∨ n = 3 ∨ n = 4 ∨ n = 5 ∨ n = 6 ∨ n = 7 ∨ n = 8 ∨ n = 9 ∨ (¬ n = 1 ∧ ¬ n = 2 ∧ ¬ n = 3 ∧ ¬ n = 4 ∧ ¬ n = 5 ∧ ¬ n = 6 ∧ ¬ n = 7 ∧ ¬ n = 8 ∧ ¬ n = 9) := by omega
theorem headT_size {r : List D} (h7 : inR .i64 (cell r 7).asInt) (h8 : inR .i64 (cell r 8).asInt) : (headT r).size ≤ 170 ∧ (1 ≤ (cell r 0).asInt ∧ (cell r 0).asInt ≤ 9 → 0 < (headT r).size) ∧ (¬ (1 ≤ (cell r 0).asInt ∧ (cell r 0).asInt ≤ 9) → headT r = ⟨#[]⟩) := by
  have e1 := alT_size [cell r 2, cell r 3, cell r 4, cell r 5]
  have e2 := setT_size (cell r 6).asList
  have e3 := itoaB_size h7
  have e4 := itoaB_size h8
  unfold headT
  generalize (cell r 0).asInt = n
  rcases op_cases n with h | h | h | h | h | h | h | h | h | ⟨h1, h2, h3, h4, h5, h6, h7, h8, h9⟩
  all_goals first
    | (subst h; simp [ttT, ttF, sz_mk]; done)
    | (subst h; simp [ttT, ttF, sz_mk]; omega)
    | (simp [h1, h2, h3, h4, h5, h6, h7, h8, h9, ttT, ttF, sz_mk]; omega)
theorem ok33 : Good1 Tryz.prog Φ g33 := good1 tok mixed (l := [g35, g39, g40]) (by simp [ok35, ok40, ok39]) Tryz.func33 (by decide) (by decide) v33_eq (args1 fun a hw hp => by
  have e1 := alT_size [cell a.row 2, cell a.row 3, cell a.row 4, cell a.row 5]
  have e2 := setT_size (cell a.row 6).asList
  simp [g33] at hw
  have e3 := itoaB_size (n := (cell a.row 7).asInt) hw.2.2.2.2.2.2.2.1
  have e4 := itoaB_size (n := (cell a.row 8).asInt) hw.2.2.2.2.2.2.2.2.1
  clear hw hp
  rcases op_cases (cell a.row 0).asInt with h | h | h | h | h | h | h | h | h | ⟨h1, h2, h3, h4, h5, h6, h7, h8, h9⟩
  all_goals first
    | (simp [v33, g33, show Φ 33 = mHeadT from rfl, show Φ 40 = mAlT from rfl, show Φ 39 = mSetT from rfl, show Φ 35 = mItoa from rfl, mAlT, mItoa, mSetT, mHeadT, headT, lenMax, sz_mk, h, ttT, ttF]; done)
    | (simp [v33, g33, show Φ 33 = mHeadT from rfl, show Φ 40 = mAlT from rfl, show Φ 39 = mSetT from rfl, show Φ 35 = mItoa from rfl, mAlT, mItoa, mSetT, mHeadT, headT, lenMax, sz_mk, h, ttT, ttF]; omega)
    | (simp [v33, g33, show Φ 33 = mHeadT from rfl, mHeadT, headT, h1, h2, h3, h4, h5, h6, h7, h8, h9, ttT, ttF]))
theorem ok11 : Good1 Tryz.prog Φ g11 := good1 tok mixed (l := [g33, g34, g35]) (by simp [ok35, ok33, ok34]) Tryz.func11 (by decide) (by decide) v11_eq (args1 fun a hw hp => by
  simp [g11] at hw
  obtain ⟨e1, e2, e3⟩ := headT_size (r := a.row) hw.2.2.2.2.2.2.2.1 hw.2.2.2.2.2.2.2.2.1
  have e4 := codeT_size (cell a.row 9).asInt
  have hl : (cell a.row 10).asList.length ≤ lenMax := hw.2.2.2.2.2.2.2.2.2.2.1.1
  simp only [lenMax] at hl
  have e5 := itoaB_size (n := ((cell a.row 10).asList.length : Nat)) ⟨show -9223372036854775808 ≤ _ by omega, show _ ≤ 9223372036854775807 by omega⟩
  clear hw hp
  by_cases hop : 1 ≤ (cell a.row 0).asInt ∧ (cell a.row 0).asInt ≤ 9
  · have hne : ¬ headT a.row = ⟨#[]⟩ := fun h => by have := e2 hop; rw [h] at this; exact absurd this (by decide)
    simp [v11, g11, show Φ 11 = mDeedT from rfl, show Φ 33 = mHeadT from rfl, show Φ 34 = mCodeT from rfl, show Φ 35 = mItoa from rfl, mItoa, mHeadT, mCodeT, mDeedT, deedT, lenMax, sz_mk, hne, tt_true hop, ba_assoc]
    exact ⟨fun h => ⟨by omega, by rw [tt_true h]; rfl⟩, fun h => ⟨⟨by omega, by omega⟩, ⟨by omega, by omega⟩, fun h1 => ⟨⟨by omega, by omega⟩, by rw [tt_false h, tt_true (by omega)]; rfl⟩, fun h1 h2 h3 => by rw [tt_false h, tt_false (by omega)]; rfl⟩⟩
  · simp [v11, g11, show Φ 11 = mDeedT from rfl, show Φ 33 = mHeadT from rfl, mHeadT, mDeedT, deedT, e3 hop, tt_false hop])
theorem ok10 : Good1 Tryz.prog Φ g10 := good1 tok mixed (l := [g29, g30, g31, g32]) (by simp [ok31, ok29, ok30, ok32]) Tryz.func10 (by decide) (by decide) v10_eq (args1 fun a hw hp => by
  have e1 := alT_size [cell a.row 2, cell a.row 3, cell a.row 4, cell a.row 5]
  have e2 := setT_size (cell a.row 6).asList
  simp [g10] at hw
  have e3 := itoaB_size (n := (cell a.row 7).asInt) hw.2.2.2.2.2.2.2.1
  have e4 := itoaB_size (n := (cell a.row 8).asInt) hw.2.2.2.2.2.2.2.2.1
  have e5 := codeT_size (cell a.row 9).asInt
  have hl : (cell a.row 10).asList.length ≤ lenMax := hw.2.2.2.2.2.2.2.2.2.2.1.1
  simp only [lenMax] at hl
  have e6 := itoaB_size (n := ((cell a.row 10).asList.length : Nat)) ⟨show -9223372036854775808 ≤ _ by omega, show _ ≤ 9223372036854775807 by omega⟩
  clear hw hp
  rcases op_cases (cell a.row 0).asInt with h | h | h | h | h | h | h | h | h | ⟨h1, h2, h3, h4, h5, h6, h7, h8, h9⟩
  all_goals by_cases hm : (cell a.row 13).asInt = -1
  all_goals first
    | (simp [v10, g10, show Φ 10 = mDeedT from rfl, show Φ 29 = mAlT from rfl, show Φ 30 = mSetT from rfl, show Φ 31 = mItoa from rfl, show Φ 32 = mCodeT from rfl, mAlT, mItoa, mSetT, mCodeT, mDeedT, deedT, headT, lenMax, sz_mk, ttT, ttF, h, hm]; done)
    | (simp [v10, g10, show Φ 10 = mDeedT from rfl, show Φ 29 = mAlT from rfl, show Φ 30 = mSetT from rfl, show Φ 31 = mItoa from rfl, show Φ 32 = mCodeT from rfl, mAlT, mItoa, mSetT, mCodeT, mDeedT, deedT, headT, lenMax, sz_mk, ttT, ttF, h, hm]; omega)
    | (simp [v10, g10, show Φ 10 = mDeedT from rfl, show Φ 29 = mAlT from rfl, show Φ 30 = mSetT from rfl, show Φ 31 = mItoa from rfl, show Φ 32 = mCodeT from rfl, mAlT, mItoa, mSetT, mCodeT, mDeedT, deedT, headT, lenMax, sz_mk, ttT, ttF, h1, h2, h3, h4, h5, h6, h7, h8, h9, hm]; done)
    | (simp [v10, g10, show Φ 10 = mDeedT from rfl, show Φ 29 = mAlT from rfl, show Φ 30 = mSetT from rfl, show Φ 31 = mItoa from rfl, show Φ 32 = mCodeT from rfl, mAlT, mItoa, mSetT, mCodeT, mDeedT, deedT, headT, lenMax, sz_mk, ttT, ttF, h1, h2, h3, h4, h5, h6, h7, h8, h9, hm]; intros; rw [tt_false (by omega)]; rfl))
end Go.Proofs.YthibophjhdoooaaGreatDoor


/-
  Contracts: labels, alarms and batches in words.
-/
import Derived.Test.YthibophjhdoooaaGreatDoorS3
set_option linter.unusedVariables false
set_option linter.unusedSimpArgs false
namespace Go.Proofs.YthibophjhdoooaaGreatDoor
open Go.Vx

/-! Texts joined, bit by bit. -/
theorem lens_le {m : Nat} : ∀ xs : List (List UInt8), (∀ x ∈ xs, x.length ≤ m) → Lib.lens xs ≤ xs.length * m
  | [], _ => by simp [Lib.lens]
  | x :: xs, h => by
    have h1 := h x (by simp)
    have h2 := lens_le xs fun y hy => h y (by simp [hy])
    simp only [Lib.lens, List.map_cons, List.sum_cons, List.length_cons, Nat.add_mul] at h2 ⊢
    omega
theorem joinB_size {m : Nat} {xs : List ByteArray} {sep : ByteArray} (h : ∀ x ∈ xs, x.size ≤ m) : (joinB xs sep).size ≤ xs.length * (m + sep.size) := by
  cases xs with
  | nil => simp [joinB_nil, sz_mk]
  | cons x r =>
    have e : (joinB (x :: r) sep).size = (lby sep).length * (r.map lby).length + Lib.lens ((x :: r).map lby) := by
      rw [List.map_cons, ← Lib.join_length]
      simp [joinB, ByteArray.size]
    have h2 := lens_le ((x :: r).map lby) (m := m) fun y hy => by
      obtain ⟨z, hz, rfl⟩ := List.mem_map.1 hy
      have := h z hz
      exact this
    have h3 : (lby sep).length = sep.size := rfl
    rw [e, h3]
    simp only [List.length_map, List.length_cons, Nat.add_mul, Nat.mul_add] at h2 ⊢
    rw [Nat.mul_comm sep.size]
    omega
theorem join_take {f : List D → ByteArray} {xs : List (List D)} {i : Nat} (h : i < xs.length) (sep : ByteArray) :
    joinB ((xs.take (i + 1)).map f) sep = if i = 0 then f (rowN xs i) else joinB ((xs.take i).map f) sep ++ sep ++ f (rowN xs i) := by
  rw [List.take_add_one, List.getElem?_eq_getElem h, List.map_append, rowN_lt h]
  by_cases e : i = 0
  · subst e
    simp [joinB_one]
  · rw [if_neg e]
    obtain ⟨x, r, hx⟩ : ∃ x r, xs.take i = x :: r := List.exists_cons_of_ne_nil (by
      intro h0
      have := congrArg List.length h0
      rw [List.length_take, List.length_nil] at this
      omega)
    rw [hx]
    exact joinB_more _ _
theorem strs_fm {f : List D → ByteArray} (xs : List (List D)) : strs (xs.flatMap fun r => [[.str (f r)]]) = xs.map f := by
  induction xs with
  | nil => rfl
  | cons x xs ih =>
    simp only [strs, List.flatMap_cons, List.map_append, List.map_cons, List.map_nil] at ih ⊢
    rw [ih]
    rfl
theorem fm1_len (f : List D → List D) (xs : List (List D)) : (xs.flatMap fun r => [f r]).length = xs.length := by
  induction xs with
  | nil => rfl
  | cons x xs ih => simp only [List.flatMap_cons, List.length_append, ih, List.length_cons, List.length_nil]; omega

/-! How long. -/
theorem labB_size {r : List D} (h : LabOk r) : (labB r).size ≤ 23 := by
  have h1 := h.1.1.2
  have h2 := h.2.1
  simp only [labB, ba_size_append, sz_mk, List.size_toArray, List.length_cons, List.length_nil]
  omega
theorem labs_size {xs : List (List D)} (h : SetOk xs) (k : Nat) : (joinB ((xs.take k).map labB) ⟨#[44, 32]⟩).size ≤ 100 := by
  have := joinB_size (m := 23) (xs := (xs.take k).map labB) (sep := ⟨#[44, 32]⟩) fun x hx => by
    obtain ⟨r, hr, rfl⟩ := List.mem_map.1 hx
    obtain ⟨i, hi, rfl⟩ := List.getElem_of_mem (List.mem_of_mem_take hr)
    have := (h.2 i hi).1
    rw [rowN_lt hi] at this
    exact labB_size this
  have h2 : ((xs.take k).map labB).length ≤ 4 := by have := h.1; simp; omega
  have h3 : (⟨#[44, 32]⟩ : ByteArray).size = 2 := rfl
  rw [h3] at this
  omega
theorem setT_size (xs : List (List D)) : (setT xs).size ≤ 102 := by
  unfold setT
  by_cases h : SetOk xs
  · rw [tt_true h]
    have := labs_size h xs.length
    rw [List.take_length] at this
    simp only [cond_true, Vx.setB, setB, ba_size_append, sz_mk, List.size_toArray, List.length_cons, List.length_nil]
    omega
  · rw [tt_false h]
    simp [sz_mk]
theorem alT_size (r : List D) : (alT r).size ≤ 161 := by
  unfold alT
  by_cases h : AlOk r
  · rw [tt_true h]
    have h1 := setT_size (cell r 0).asList
    obtain ⟨-, ⟨h2, h3⟩, ⟨h4, h5⟩, h6, -⟩ := h
    have h7 := itoaB_size (n := (cell r 1).asInt) ⟨show -9223372036854775808 ≤ _ by omega, show _ ≤ 9223372036854775807 by omega⟩
    have h8 := itoaB_size (n := (cell r 2).asInt) ⟨show -9223372036854775808 ≤ _ by omega, show _ ≤ 9223372036854775807 by omega⟩
    simp only [cond_true, alB, ba_size_append, sz_mk, List.size_toArray, List.length_cons, List.length_nil]
    omega
  · rw [tt_false h]
    simp [sz_mk]
theorem als_size (xs : List (List D)) : (joinB (xs.map alT) ⟨#[59, 32]⟩).size ≤ xs.length * 163 := by
  have := joinB_size (m := 161) (xs := xs.map alT) (sep := ⟨#[59, 32]⟩) fun x hx => by
    obtain ⟨r, hr, rfl⟩ := List.mem_map.1 hx
    exact alT_size r
  rw [List.length_map] at this
  exact this
theorem btF_take {xs : List (List D)} {i : Nat} (h : i < xs.length) (s : ByteArray) : btF (xs.take (i + 1)) s = btF (xs.take i) s ++ ⟨#[59, 32]⟩ ++ alT (rowN xs i) := by
  rw [List.take_add_one, List.getElem?_eq_getElem h, rowN_lt h]
  simp only [btF, List.foldl_append, Option.toList_some, List.foldl_cons, List.foldl_nil]
theorem btF_size : ∀ (xs : List (List D)) (s : ByteArray), (btF xs s).size ≤ s.size + xs.length * 163
  | [], s => by simp [btF]
  | x :: xs, s => by
    have h1 := btF_size xs (s ++ ⟨#[59, 32]⟩ ++ alT x)
    have h2 := alT_size x
    have h3 : (⟨#[59, 32]⟩ : ByteArray).size = 2 := rfl
    simp only [ba_size_append] at h1
    simp only [List.length_cons, Nat.add_mul]
    show (btF xs (s ++ ⟨#[59, 32]⟩ ++ alT x)).size ≤ _
    omega

theorem ok30 : Good1 Tryz.prog Φ g30 := good1 tok mixed (l := [g41, g58]) (by simp [ok41, ok58]) Tryz.func30 (by decide) (by decide) v30_eq (args1 fun a hw hp => by
  unfold v30
  rw [wp_req', wp_ite']
  refine ⟨by simp [show Φ 58 = mB _ from rfl, mB], fun h => ?_, fun h => ?_⟩
  · simp [show Φ 58 = mB _ from rfl, mB] at h
    simp [g30, show Φ 30 = mSetT from rfl, mSetT, setT, tt_false h]
  simp [show Φ 58 = mB _ from rfl, mB] at h
  have h4 := h.1
  refine fm_wp' (Φ := Φ) (g := fun r => [[.str (labB r)]]) (xs := a.asList) rfl (fun _ _ => by simp) (by omega) rfl (fun i x hi hx => ?_) fun x hx p => ?_
  · have hl : x.asList.length = i := by rw [hx, fm1_len, List.length_take]; omega
    have hlab := (h.2 i hi).1
    have h1 := hlab.1.1.2
    have h2 := hlab.2.1
    simp [rowAt_nat, lenMax, chunk, hl, ba_size_append, sz_mk, hi, labB]
    omega
  · have hs := labs_size h a.asList.length
    rw [List.take_length] at hs
    simp [g30, show Φ 30 = mSetT from rfl, show Φ 41 = mJoin from rfl, mSetT, mJoin, setT, tt_true h, hx, strs_fm, setB, lenMax, ba_size_append, sz_mk]
    omega)

theorem ok39 : Good1 Tryz.prog Φ g39 := good1 tok mixed (l := [g61]) (by simp [ok61]) Tryz.func39 (by decide) (by decide) v39_eq (args1 fun a hw hp => by
  unfold v39
  rw [wp_req', wp_ite']
  refine ⟨by simp [show Φ 61 = mB _ from rfl, mB], fun h => ?_, fun h => ?_⟩
  · simp [show Φ 61 = mB _ from rfl, mB] at h
    simp [g39, show Φ 39 = mSetT from rfl, mSetT, setT, tt_false h]
  simp [show Φ 61 = mB _ from rfl, mB] at h
  have h4 := h.1
  refine loop2'_wp (Φ := Φ) (N := a.asList.length) rfl (fun _ _ => by simp) (by omega) (fun i x => x.asStr = ⟨#[123]⟩ ++ joinB ((a.asList.take i).map labB) ⟨#[44, 32]⟩) (by simp [joinB_nil]; rfl) (fun i x hi _ hx => ?_) fun x _ hx p => ?_
  · have hs := labs_size h i
    have hlab := (h.2 i hi).1
    have h1 := hlab.1.1.2
    have h2 := hlab.2.1
    rw [join_take hi]
    have hsz : x.asStr.size ≤ 101 := by rw [hx, ba_size_append]; show 1 + _ ≤ _; omega
    simp [rowAt_nat, lenMax, ba_size_append, sz_mk, hi, -List.map_take]
    refine ⟨fun h0 => ⟨by omega, by omega, ?_⟩, fun h0 => ⟨by omega, ?_⟩⟩
    · rw [if_neg (by omega), hx]
      refine ba_ext ?_
      simp [labB, -List.map_take]
    · rw [if_pos h0, hx, h0]
      refine ba_ext ?_
      simp [labB, joinB_nil]
  · have hs := labs_size h a.asList.length
    rw [List.take_length] at hs hx
    simp [g39, show Φ 39 = mSetT from rfl, mSetT, setT, tt_true h, hx, setB, lenMax, ba_size_append, sz_mk]
    omega)

theorem ok40 : Good1 Tryz.prog Φ g40 := good1 tok mixed (l := [g35, g39, g62]) (by simp [ok35, ok39, ok62]) Tryz.func40 (by decide) (by decide) v40_eq (args1 fun a hw hp => by
  have h1 := setT_size (cell a.row 0).asList
  by_cases h : AlOk a.row
  · have h2 : (cell a.row 3).asStr.size ≤ 12 := h.2.2.2.1
    have h7 := itoaB_size (n := (cell a.row 1).asInt) ⟨show -9223372036854775808 ≤ _ by have := h.2.1; omega, show _ ≤ 9223372036854775807 by have := h.2.1; omega⟩
    have h8 := itoaB_size (n := (cell a.row 2).asInt) ⟨show -9223372036854775808 ≤ _ by have := h.2.1; have := h.2.2.1; omega, show _ ≤ 9223372036854775807 by have := h.2.2.1; omega⟩
    simp [v40, g40, show Φ 40 = mAlT from rfl, show Φ 35 = mItoa from rfl, show Φ 39 = mSetT from rfl, show Φ 62 = mB _ from rfl, mB, mAlT, mItoa, mSetT, alT, alB, h, tt_true h, lenMax, ba_size_append, sz_mk]
    omega
  · simp [v40, g40, show Φ 40 = mAlT from rfl, show Φ 62 = mB _ from rfl, mB, mAlT, alT, h, tt_false h])

theorem ok29 : Good1 Tryz.prog Φ g29 := good1 tok mixed (l := [g30, g31, g57]) (by simp [ok31, ok30, ok57]) Tryz.func29 (by decide) (by decide) v29_eq (args1 fun a hw hp => by
  have h1 := setT_size (cell a.row 0).asList
  by_cases h : AlOk a.row
  · have h2 : (cell a.row 3).asStr.size ≤ 12 := h.2.2.2.1
    have h7 := itoaB_size (n := (cell a.row 1).asInt) ⟨show -9223372036854775808 ≤ _ by have := h.2.1; omega, show _ ≤ 9223372036854775807 by have := h.2.1; omega⟩
    have h8 := itoaB_size (n := (cell a.row 2).asInt) ⟨show -9223372036854775808 ≤ _ by have := h.2.1; have := h.2.2.1; omega, show _ ≤ 9223372036854775807 by have := h.2.2.1; omega⟩
    simp [v29, g29, show Φ 29 = mAlT from rfl, show Φ 31 = mItoa from rfl, show Φ 30 = mSetT from rfl, show Φ 57 = mB _ from rfl, mB, mAlT, mItoa, mSetT, alT, alB, h, tt_true h, lenMax, ba_size_append, sz_mk]
    omega
  · simp [v29, g29, show Φ 29 = mAlT from rfl, show Φ 57 = mB _ from rfl, mB, mAlT, alT, h, tt_false h])

theorem ok16 : Good1 Tryz.prog Φ g16 := good1 tok mixed (l := [g29, g41]) (by simp [ok29, ok41]) Tryz.func16 (by decide) (by decide) v16_eq (args1 fun a hw hp => by
  simp [g16, show Φ 16 = mAlsT from rfl, mAlsT] at hp
  unfold v16
  rw [wp_ite']
  refine ⟨fun h => ?_, fun h => ?_⟩
  · simp at h
    simp [g16, show Φ 16 = mAlsT from rfl, mAlsT, alsT, h]
  simp at h
  have h' : ¬ a.asList.length = 0 := by simpa using h
  refine fm_wp' (Φ := Φ) (g := fun r => [[.str (alT r)]]) (xs := a.asList) rfl (fun _ _ => by simp) (by omega) rfl (fun i x hi hx => ?_) fun x hx p => ?_
  · have hl : x.asList.length = i := by rw [hx, fm1_len, List.length_take]; omega
    simp [rowAt_nat, show Φ 29 = mAlT from rfl, mAlT, lenMax, chunk, hl, hi]
    omega
  · have hs := als_size a.asList
    simp [g16, show Φ 16 = mAlsT from rfl, show Φ 41 = mJoin from rfl, mAlsT, mJoin, alsT, tt_false h, hx, strs_fm, lenMax]
    omega)

theorem ok17 : Good1 Tryz.prog Φ g17 := good1e tok mixed (l := [g40]) (by simp [ok40]) Tryz.func17 (by decide) (by decide) v17_eq (args1 fun a hw hp => by
  simp [g17, show Φ 17 = mAlsT from rfl, mAlsT] at hp
  unfold v17
  rw [wp_ite']
  refine ⟨fun h => ?_, fun h => ?_⟩
  · simp at h
    simp [RSh.cells, g17, show Φ 17 = mAlsT from rfl, mAlsT, alsT, h]
  simp at h
  have h' : ¬ a.asList.length = 0 := by simpa using h
  refine loop2'_wp (Φ := Φ) (N := a.asList.length) rfl (fun _ _ => by simp) (by omega) (fun i x => x.asStr = joinB ((a.asList.take i).map alT) ⟨#[59, 32]⟩) (by simp [joinB_nil]) (fun i x hi _ hx => ?_) fun x _ hx p => ?_
  · have hs := als_size (a.asList.take i)
    rw [List.length_take] at hs
    have h1 := alT_size (rowN a.asList i)
    rw [join_take hi]
    have hsz : x.asStr.size ≤ 1048576 * 163 := by rw [hx]; omega
    simp [rowAt_nat, show Φ 40 = mAlT from rfl, mAlT, lenMax, ba_size_append, sz_mk, hi, -List.map_take]
    refine ⟨fun h0 => ⟨by omega, by omega, ?_⟩, fun h0 => ⟨by omega, ?_⟩⟩
    · rw [if_neg (by omega), hx]
    · rw [if_pos h0, hx, h0]
      simp [joinB_nil, ba_nil]
  · rw [List.take_length] at hx
    simp [g17, show Φ 17 = mAlsT from rfl, RSh.cells, mAlsT, alsT, tt_false h, ← hx])

theorem ok15 : Good1 Tryz.prog Φ g15 := good1e tok mixed (l := [g35, g39, g40]) (by simp [ok40, ok35, ok39]) Tryz.func15 (by decide) (by decide) v15_eq (args1 fun a hw hp => by
  simp [g15, show Φ 15 = mBtT from rfl, mBtT] at hp
  simp [g15] at hw
  have h1 := setT_size (cell a.row 1).asList
  have h7 := itoaB_size (n := (cell a.row 0).asInt) hw.1
  have h8 := itoaB_size (n := (cell a.row 2).asInt) hw.2.2.1
  unfold v15
  rw [wp_req']
  refine ⟨by simp [show Φ 35 = mItoa from rfl, show Φ 39 = mSetT from rfl, mItoa, mSetT, lenMax, ba_size_append, sz_mk]; omega, ?_⟩
  refine loop2'_wp (Φ := Φ) (N := (cell a.row 3).asList.length) rfl (fun _ _ => by simp) (by omega) (fun i x => x.asStr = btF ((cell a.row 3).asList.take i) (itoaB (cell a.row 0).asInt ++ ⟨#[32]⟩ ++ itoaB (cell a.row 2).asInt ++ ⟨#[32]⟩ ++ setT (cell a.row 1).asList))
    (by simp [show Φ 35 = mItoa from rfl, show Φ 39 = mSetT from rfl, mItoa, mSetT, btF]) (fun i x hi _ hx => ?_) fun x _ hx p => ?_
  · have hs := btF_size ((cell a.row 3).asList.take i) (itoaB (cell a.row 0).asInt ++ ⟨#[32]⟩ ++ itoaB (cell a.row 2).asInt ++ ⟨#[32]⟩ ++ setT (cell a.row 1).asList)
    rw [List.length_take, ← hx] at hs
    simp only [ba_size_append, show (⟨#[32]⟩ : ByteArray).size = 1 from rfl] at hs
    have h2 := alT_size (rowN (cell a.row 3).asList i)
    rw [btF_take hi, ← hx]
    simp [rowAt_nat, show Φ 40 = mAlT from rfl, mAlT, lenMax, ba_size_append, sz_mk, hi]
    omega
  · rw [List.take_length] at hx
    simp [g15, show Φ 15 = mBtT from rfl, RSh.cells, mBtT, btT, ← hx])

theorem ok14 : Good1 Tryz.prog Φ g14 := good1e tok mixed (l := [g29, g30, g31]) (by simp [ok29, ok31, ok30]) Tryz.func14 (by decide) (by decide) v14_eq (args1 fun a hw hp => by
  simp [g14, show Φ 14 = mBtT from rfl, mBtT] at hp
  simp [g14] at hw
  have h1 := setT_size (cell a.row 1).asList
  have h7 := itoaB_size (n := (cell a.row 0).asInt) hw.1
  have h8 := itoaB_size (n := (cell a.row 2).asInt) hw.2.2.1
  unfold v14
  rw [wp_req']
  refine ⟨by simp [show Φ 31 = mItoa from rfl, show Φ 30 = mSetT from rfl, mItoa, mSetT, lenMax, ba_size_append, sz_mk]; omega, ?_⟩
  refine loop2'_wp (Φ := Φ) (N := (cell a.row 3).asList.length) rfl (fun _ _ => by simp) (by omega) (fun i x => x.asStr = btF ((cell a.row 3).asList.take i) (itoaB (cell a.row 0).asInt ++ ⟨#[32]⟩ ++ itoaB (cell a.row 2).asInt ++ ⟨#[32]⟩ ++ setT (cell a.row 1).asList))
    (by simp [show Φ 31 = mItoa from rfl, show Φ 30 = mSetT from rfl, mItoa, mSetT, btF]) (fun i x hi _ hx => ?_) fun x _ hx p => ?_
  · have hs := btF_size ((cell a.row 3).asList.take i) (itoaB (cell a.row 0).asInt ++ ⟨#[32]⟩ ++ itoaB (cell a.row 2).asInt ++ ⟨#[32]⟩ ++ setT (cell a.row 1).asList)
    rw [List.length_take, ← hx] at hs
    simp only [ba_size_append, show (⟨#[32]⟩ : ByteArray).size = 1 from rfl] at hs
    have h2 := alT_size (rowN (cell a.row 3).asList i)
    rw [btF_take hi, ← hx]
    simp [rowAt_nat, show Φ 29 = mAlT from rfl, mAlT, lenMax, ba_size_append, sz_mk, hi]
    exact ⟨by omega, (ba_assoc _ _ _).symm⟩
  · rw [List.take_length] at hx
    simp [g14, show Φ 14 = mBtT from rfl, RSh.cells, mBtT, btT, ← hx])
end Go.Proofs.YthibophjhdoooaaGreatDoor


/-
  Contracts: reading up to a byte; numbers read.
-/
import Derived.Test.YthibophjhdoooaaDoorS4
import Derived.Test.YthibophjhdoooaaDoorSI
set_option linter.unusedVariables false
set_option linter.unusedSimpArgs false
namespace Go.Proofs.YthibophjhdoooaaDoor
open Go.Vx

theorem findB_range (s : ByteArray) (b : Int) : ∀ f k, findB s b f k = -1 ∨ ((k : Int) ≤ findB s b f k ∧ findB s b f k < s.size)
  | 0, k => .inl rfl
  | f + 1, k => by
    rw [findB]
    split
    · split
      · exact .inr ⟨by omega, by omega⟩
      · rcases findB_range s b f (k + 1) with h | h
        · exact .inl h
        · exact .inr ⟨by omega, h.2⟩
    · exact .inl rfl
theorem toK_range (s : ByteArray) (at' b : Int) : toK s at' b = -1 ∨ (at' ≤ toK s at' b ∧ 0 ≤ toK s at' b ∧ toK s at' b < s.size) := by
  rcases findB_range s b (s.size + 1) at'.toNat with h | h
  · exact .inl h
  · exact .inr ⟨by unfold toK; omega, by unfold toK; omega, h.2⟩
theorem toN_range (s : ByteArray) (at' b : Int) : toN s at' b = -1 ∨ (at' + 1 ≤ toN s at' b ∧ 1 ≤ toN s at' b ∧ toN s at' b ≤ s.size) := by
  unfold toN
  rcases toK_range s at' b with h | h
  · rw [h]; exact .inl rfl
  · rw [if_neg (by omega)]; exact .inr ⟨by omega, by omega, by omega⟩

theorem ok28 : Good1 Tryd.prog Φ g28 := good1 tok mixed (l := []) (by simp) Tryd.func28 (by decide) (by decide) v28_eq (args3 fun a b c hw hp => by
  simp [g28, show Φ 28 = mTo from rfl, mTo] at hp
  obtain ⟨hp1, hp2⟩ := hp
  refine wp_loop' (fun v => ∃ (i f : Nat) (d : D), v = [d] ∧ d.asInt = i ∧ b.asInt ≤ i ∧ findB a.asStr c.asInt f i = toK a.asStr b.asInt c.asInt ∧ a.asStr.size < f + i) (fun v => a.asStr.size - (cell v 0).asInt.toNat)
    ⟨b.asInt.toNat, a.asStr.size + 1, b, rfl, by omega, by omega, rfl, by omega⟩ ?_
  simp only [allN_succ, allN_zero, kinds_cons, kinds_nil]
  rintro d _ ⟨i, f, d', e, hd, h1, h2, h3⟩
  simp only [List.cons.injEq, and_true] at e
  subst e
  simp [hd, g28, show Φ 28 = mTo from rfl, mTo]
  refine ⟨fun hi => ?_, fun hi => ?_⟩
  · obtain ⟨f, rfl⟩ : ∃ g, f = g + 1 := ⟨f - 1, by omega⟩
    rw [findB, if_pos hi] at h2
    have hw64 : IntKind.i64.wrap ((i : Int) + 1) = (i : Int) + 1 := w64 (by omega) (by omega)
    refine ⟨hi, fun he => ?_, fun he => ?_⟩
    · have he' : (byte a.asStr i : Int) = c.asInt := he
      rw [if_pos he'] at h2
      have hk : ¬ toK a.asStr b.asInt c.asInt < 0 := by rw [← h2]; omega
      refine ⟨⟨hp1, h1, by omega⟩, by rw [toT, if_neg hk, ← h2]; rfl, by rw [toN, if_neg hk, ← h2, hw64]⟩
    · have he' : ¬ (byte a.asStr i : Int) = c.asInt := he
      rw [if_neg he'] at h2
      exact ⟨⟨i + 1, by rw [hw64]; omega, by omega, f, h2, by omega⟩, by rw [hw64]; omega⟩
  · have e : findB a.asStr c.asInt f i = -1 := by
      cases f with
      | zero => rfl
      | succ f => rw [findB, if_neg (by omega)]
    rw [e] at h2
    rw [toT, toN, ← h2]
    exact ⟨rfl, rfl⟩)

theorem digs_bound {s : ByteArray} : ∀ i, (∀ j, j < i → DigB s j) → 0 ≤ digs s i ∧ digs s i < 10 ^ i
  | 0, _ => ⟨by simp [digs], by simp [digs]⟩
  | i + 1, h => by
    obtain ⟨h1, h2⟩ := digs_bound i fun j hj => h j (by omega)
    obtain ⟨h3, h4⟩ := h i (by omega)
    rw [digs, Int.pow_succ]
    generalize (10 : Int) ^ i = p at h2 ⊢
    omega
theorem digs_small {s : ByteArray} {i : Nat} (h5 : i ≤ 5) (h : ∀ j, j < i → DigB s j) : 0 ≤ digs s i ∧ digs s i ≤ 99999 := by
  obtain ⟨h1, h2⟩ := digs_bound i h
  have : (10 : Int) ^ i ≤ 10 ^ 5 := by
    have := Nat.pow_le_pow_right (n := 10) (by omega) h5
    exact_mod_cast this
  exact ⟨h1, by omega⟩
theorem u8w {n : Int} (h : 0 ≤ n) (h' : n ≤ 255) : IntKind.u8.wrap n = n := by
  obtain ⟨k, rfl⟩ : ∃ k : Nat, n = k := ⟨n.toNat, by omega⟩
  exact wrap8 (by omega)

theorem ok18 : Good1 Tryd.prog Φ g18 := good1e tok mixed (l := [g20, g31]) (by simp [ok31, ok20]) Tryd.func18 (by decide) (by decide) v18_eq (args1 fun a hw hp => by
  have hin : ¬ NumI a.asStr → ∀ x : ByteArray, ¬ (NumI a.asStr ∧ x = a.asStr) := fun h x h' => h h'.1
  unfold v18
  rw [wp_req', wp_ite']
  refine ⟨by simp [show Φ 31 = mB _ from rfl, mB], fun h => ?_, fun h => ?_⟩
  · simp [show Φ 31 = mB _ from rfl, mB] at h
    have hn : ¬ NumI a.asStr := fun h' => by have := h'.1; omega
    simp [g18, RSh.cells, show Φ 18 = mNumI from rfl, mNumI, numI, OkNI, con, tt_false (hin hn _)]
  simp [show Φ 31 = mB _ from rfl, mB] at h
  refine loop2'_wp (Φ := Φ) (N := a.asStr.size) rfl (fun _ _ => by simp) (by omega) (fun i x => x.asInt = digs a.asStr i ∧ ∀ j, j < i → DigB a.asStr j) ⟨rfl, by omega⟩ (fun i x hi _ ⟨hx, hI⟩ => ?_) fun x _ ⟨hx, hI⟩ p => ?_
  · have hb := digs_small (by omega) hI
    simp [hi, hx, g18, RSh.cells, show Φ 18 = mNumI from rfl, mNumI, numI, OkNI, con]
    refine ⟨by omega, fun hbad => ?_, fun h1 h2 => ⟨?_, all_next hI ⟨by unfold byte; omega, by unfold byte; omega⟩⟩⟩
    · have hn : ¬ NumI a.asStr := fun h' => by
        have := h'.2 i hi
        simp only [DigB, byte] at this
        omega
      exact ⟨by rw [tt_false (hin hn _)]; rfl, fun h' => absurd h' hn⟩
    · rw [u8w (by omega) (by omega), w64 (n := 10 * digs a.asStr i) (by omega) (by omega), w64 (n := _ - 48) (by omega) (by omega), w64 (by omega) (by omega)]
      rfl
  · simp [hx, g18, RSh.cells, show Φ 18 = mNumI from rfl, show Φ 20 = mItoa from rfl, mItoa, mNumI, numI, OkNI, con]
    have hn : NumI a.asStr := ⟨by omega, hI⟩
    exact ⟨fun h' => ⟨by rw [tt_false (fun h'' => h' h''.2)]; rfl, fun _ => h'⟩, fun h' => ⟨by rw [tt_true ⟨hn, h'⟩]; rfl, hn, h'⟩⟩)

theorem ok29 : Good1 Tryd.prog Φ g29 := good1e tok mixed (l := [g50]) (by simp [ok50]) Tryd.func29 (by decide) (by decide) v29_eq (args1 fun a hw hp => by
  have hin : ¬ NumI a.asStr → ¬ (NumI a.asStr ∧ (a.asStr.size = 1 ∨ byte a.asStr 0 ≠ 48)) := fun h h' => h h'.1
  unfold v29
  rw [wp_req', wp_ite']
  have hz : a.asStr = ByteArray.empty ↔ a.asStr.size = 0 := by simp
  refine ⟨?_, fun h => ?_, fun h => ?_⟩
  · simp
    simp only [hz]
    omega
  · simp at h
    simp only [hz] at h
    have hn : ¬ (NumI a.asStr ∧ (a.asStr.size = 1 ∨ byte a.asStr 0 ≠ 48)) := by
      rintro ⟨⟨h1, -⟩, h2⟩
      unfold byte at h2
      omega
    simp [g29, RSh.cells, show Φ 29 = mNumS from rfl, mNumS, numS, OkNS, con, tt_false hn]
  simp at h
  simp only [hz] at h
  have hfst : a.asStr.size = 1 ∨ byte a.asStr 0 ≠ 48 := by unfold byte; omega
  refine loop2'_wp (Φ := Φ) (N := a.asStr.size) rfl (fun _ _ => by simp) (by omega) (fun i x => x.asInt = digs a.asStr i ∧ ∀ j, j < i → DigB a.asStr j) ⟨rfl, by omega⟩ (fun i x hi _ ⟨hx, hI⟩ => ?_) fun x _ ⟨hx, hI⟩ p => ?_
  · have hb := digs_small (by omega) hI
    simp [hi, hx, g29, RSh.cells, show Φ 29 = mNumS from rfl, show Φ 50 = mB _ from rfl, mB, mNumS, numS, OkNS, con]
    have hbl : (a.asStr.toList[i]?.getD 0).toNat < 256 := (a.asStr.toList[i]?.getD 0).toNat_lt
    rw [w64 (n := (((a.asStr.toList[i]?.getD 0).toNat : Nat) : Int)) (by omega) (by omega)]
    refine ⟨fun hbad => ?_, fun h1 h2 => ⟨?_, all_next hI ⟨by unfold byte; omega, by unfold byte; omega⟩⟩⟩
    · have hn : ¬ NumI a.asStr := fun h' => by
        have := h'.2 i hi
        simp only [DigB, byte] at this
        omega
      exact ⟨by rw [tt_false (fun h' => hn h'.1)]; rfl, fun h' => absurd h' hn⟩
    · rw [u8w (by omega) (by omega), w64 (n := 10 * digs a.asStr i) (by omega) (by omega), w64 (n := _ - 48) (by omega) (by omega), w64 (by omega) (by omega)]
      rfl
  · simp [hx, g29, RSh.cells, show Φ 29 = mNumS from rfl, mNumS, numS, OkNS, con]
    have hn : NumI a.asStr := ⟨by omega, hI⟩
    have h2 : a.asStr.size = 1 ∨ ¬ byte a.asStr 0 = 48 := hfst
    exact ⟨by rw [tt_true ⟨hn, h2⟩]; rfl, hn, h2⟩)

theorem ok26 : Good1 Tryd.prog Φ g26 := good1 tok mixed (l := [g28]) (by simp [ok28]) Tryd.func26 (by decide) (by decide) v26_eq (args1 fun a hw hp => by
  simp [g26, show Φ 26 = mL28 from rfl, mL28] at hp
  refine wp_loop' (fun v => ∃ (f : Nat) (d : D), v = [d] ∧ 0 ≤ d.asInt ∧ d.asInt ≤ a.asStr.size + 2 ∧ l28F a.asStr f d.asInt = l28F a.asStr (a.asStr.size + 2) 1 ∧ a.asStr.size + 2 < f + d.asInt) (fun v => a.asStr.size + 2 - (cell v 0).asInt.toNat)
    ⟨a.asStr.size + 2, .int 1, rfl, by simp, by simp; omega, rfl, by simp; omega⟩ ?_
  simp only [allN_succ, allN_zero, kinds_cons, kinds_nil]
  rintro d _ ⟨f, d', e, h0, h1, h2, h3⟩
  simp only [List.cons.injEq, and_true] at e
  subst e
  obtain ⟨f, rfl⟩ | hf : (∃ g, f = g + 1) ∨ f = 0 := by
    cases f with
    | zero => exact .inr rfl
    | succ g => exact .inl ⟨g, rfl⟩
  · rw [l28F] at h2
    simp [g26, show Φ 26 = mL28 from rfl, show Φ 28 = mTo from rfl, mTo, mL28]
    have r1 := toN_range a.asStr d.asInt 61
    have w1 : IntKind.i64.wrap (toN a.asStr d.asInt 61 + 1) = toN a.asStr d.asInt 61 + 1 := w64 (by omega) (by omega)
    rw [w1]
    have r2 := toN_range a.asStr (toN a.asStr d.asInt 61 + 1) 34
    generalize toN a.asStr (toN a.asStr d.asInt 61 + 1) 34 = n2 at *
    generalize toN a.asStr d.asInt 61 = n1 at *
    have w2 : IntKind.i64.wrap (n2 + 1) = n2 + 1 := w64 (by omega) (by omega)
    have w3 : IntKind.i64.wrap (n2 + 2) = n2 + 2 := w64 (by omega) (by omega)
    rw [w2, w3]
    refine ⟨⟨h0, hp⟩, fun c => by rw [if_pos c] at h2; exact h2, fun c => ⟨⟨by omega, hp⟩, fun c2 => by rw [if_neg (by omega), if_pos c2] at h2; exact h2, fun c2 => ⟨by omega, fun c3 c4 => ?_, fun c3 => ?_⟩⟩⟩
    · have c4' : byte a.asStr n2.toNat = 125 := by unfold byte; omega
      rw [if_neg (by omega), if_neg (by omega), if_pos ⟨c3, c4'⟩] at h2
      exact h2
    · have c3' : ¬ (n2 < a.asStr.size ∧ byte a.asStr n2.toNat = 125) := fun h => c3 h.1 (by have := h.2; unfold byte at this; omega)
      rw [if_neg (by omega), if_neg (by omega), if_neg c3'] at h2
      exact ⟨⟨by omega, by omega, f, h2, by omega⟩, by omega⟩
  · omega)
end Go.Proofs.YthibophjhdoooaaDoor


/-
  The plain law of reading alarms, third part: numbers.
-/
import Derived.Test.YthibophjhdoooaaDoorS12
set_option linter.unusedVariables false
set_option linter.unusedSimpArgs false
namespace Go.Proofs.YthibophjhdoooaaDoor
open Go.Vx

theorem u8_small {n : Nat} (h : n < 256) : (UInt8.ofNat n).toNat = n := by
  simp [Nat.mod_eq_of_lt h]
theorem dec_digit : ∀ (u : Nat), ∀ c ∈ Lib.decDigits u, 48 ≤ c.toNat ∧ c.toNat ≤ 57 := by
  intro u
  induction u using Nat.strongRecOn with
  | _ u ih =>
    intro c hc
    by_cases h : u < 10
    · rw [Lib.decDigits, dif_pos h] at hc
      simp only [List.mem_singleton] at hc
      subst hc
      rw [u8_small (by omega)]
      omega
    · rw [Lib.decDigits.eq_def u, dif_neg h] at hc
      rcases List.mem_append.1 hc with hc | hc
      · exact ih (u / 10) (by omega) c hc
      · simp only [List.mem_singleton] at hc
        subst hc
        rw [u8_small (by omega)]
        omega
theorem dec_val : ∀ (u : Nat) (s : ByteArray) (q : List UInt8), lby s = Lib.decDigits u ++ q → digs s (Lib.decDigits u).length = u := by
  intro u
  induction u using Nat.strongRecOn with
  | _ u ih =>
    intro s q h
    by_cases h10 : u < 10
    · rw [Lib.decDigits, dif_pos h10] at h ⊢
      have hb := byte_at (p := []) (x := UInt8.ofNat (48 + u)) (q := q) (by rw [h]; rfl)
      rw [u8_small (by omega)] at hb
      simp only [List.length_cons, List.length_nil, digs]
      simp only [List.length_nil] at hb
      rw [hb]
      omega
    · rw [Lib.decDigits.eq_def u, dif_neg h10] at h ⊢
      have h' : lby s = Lib.decDigits (u / 10) ++ UInt8.ofNat (48 + u % 10) :: q := by rw [h]; simp
      have hb := byte_at h'
      rw [u8_small (by omega)] at hb
      have := ih (u / 10) (by omega) s _ h'
      simp only [List.length_append, List.length_cons, List.length_nil, Nat.zero_add, digs]
      rw [this, hb]
      omega
theorem dec_head : ∀ (u : Nat), 0 < u → ∃ c l, Lib.decDigits u = c :: l ∧ c.toNat ≠ 48 := by
  intro u
  induction u using Nat.strongRecOn with
  | _ u ih =>
    intro h0
    by_cases h : u < 10
    · rw [Lib.decDigits, dif_pos h]
      exact ⟨_, _, rfl, by rw [u8_small (by omega)]; omega⟩
    · rw [Lib.decDigits.eq_def u, dif_neg h]
      obtain ⟨c, l, e, hc⟩ := ih (u / 10) (by omega) (by omega)
      exact ⟨c, _, by rw [e]; rfl, hc⟩
theorem dec_len : ∀ (k u : Nat), u < 10 ^ (k + 1) → Lib.nDigits u ≤ k + 1
  | 0, u, h => by rw [Lib.nDigits_small (by simpa using h)]; omega
  | k + 1, u, h => by
    by_cases h10 : u < 10
    · rw [Lib.nDigits_small h10]; omega
    · rw [Lib.nDigits_big h10]
      have := dec_len k (u / 10) (by rw [Nat.pow_succ] at h; omega)
      omega
theorem itoa_lby {n : Int} (h : 0 ≤ n) : lby (itoaB n) = Lib.decDigits n.toNat := by
  unfold itoaB
  rw [lby_mk]
  unfold Lib.itoa
  rw [if_neg (by omega)]
theorem num_ok {n : Int} (h0 : 0 ≤ n) (h1 : n ≤ 99999) : OkNI (itoaB n) ∧ numI (itoaB n) = n ∧ OkNS (itoaB n) ∧ numS (itoaB n) = n := by
  have hl := itoa_lby h0
  have hs := size_at hl
  have hv := dec_val n.toNat (itoaB n) [] (by rw [hl]; simp)
  rw [← hs] at hv
  have hv' : digs (itoaB n) (itoaB n).size = n := by rw [hv]; omega
  have hp := Lib.nDigits_pos n.toNat
  have h5 := dec_len 4 n.toNat (by omega)
  rw [Lib.decDigits_length] at hs
  have hn : NumI (itoaB n) := by
    refine ⟨⟨by omega, by omega⟩, fun i hi => ?_⟩
    rw [← lby_size] at hi
    have := dec_digit n.toNat ((lby (itoaB n))[i]) (by rw [← hl]; exact List.getElem_mem _)
    unfold DigB byte
    rw [toList_lby, List.getElem?_eq_getElem hi]
    exact this
  have hi : OkNI (itoaB n) := ⟨hn, by rw [hv']⟩
  have hf : OkNS (itoaB n) := by
    refine ⟨hn, ?_⟩
    by_cases hz : n = 0
    · left
      subst hz
      rw [hs]
      exact Lib.nDigits_small (by decide)
    · right
      obtain ⟨c, l, e, hc⟩ := dec_head n.toNat (by omega)
      have hb := byte_at (p := []) (x := c) (q := l) (by rw [hl, e]; rfl)
      simp only [List.length_nil] at hb
      rw [hb]
      exact hc
  refine ⟨hi, ?_, hf, ?_⟩
  · unfold numI
    rw [tt_true (p := NumI (itoaB n) ∧ itoaB (digs (itoaB n) (itoaB n).size) = itoaB n) hi]
    exact hv'
  · unfold numS
    rw [tt_true (p := NumI (itoaB n) ∧ ((itoaB n).size = 1 ∨ byte (itoaB n) 0 ≠ 48)) hf]
    exact hv'
end Go.Proofs.YthibophjhdoooaaDoor


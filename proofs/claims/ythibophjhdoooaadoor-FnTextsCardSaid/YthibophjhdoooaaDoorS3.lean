/-
  Contracts: numbers, labels and alarms in words.
-/
import Derived.Test.YthibophjhdoooaaDoorS2
set_option linter.unusedVariables false
set_option linter.unusedSimpArgs false
namespace Go.Proofs.YthibophjhdoooaaDoor
open Go.Vx

theorem sz_mk (a : Array UInt8) : (⟨a⟩ : ByteArray).size = a.size := rfl
/-! Numbers. -/
theorem dgt_dec : ∀ (n f : Nat) (s : ByteArray), 0 < n → n ≤ f → (dgt f n s).data.toList = Lib.decDigits n ++ s.data.toList := by
  intro n
  induction n using Nat.strongRecOn with
  | _ n ih =>
    intro f s h0 hf
    obtain ⟨f, rfl⟩ : ∃ g, f = g + 1 := ⟨f - 1, by omega⟩
    rw [dgt, if_neg (by omega)]
    have hb : (bytesOf [[D.int ((48 + n % 10 : Nat) : Int)]]).data.toList = [UInt8.ofNat (48 + n % 10)] := by
      show [UInt8.ofNat (((48 + n % 10 : Nat) : Int)).toNat] = _
      rw [Int.toNat_natCast]
    by_cases h : n < 10
    · rw [show n / 10 = 0 by omega, dgt_zero, Lib.decDigits, dif_pos h, ba_app, hb, show n % 10 = n by omega]
    · rw [ih (n / 10) (by omega) f _ (by omega) (by omega), Lib.decDigits.eq_def n, dif_neg h, ba_app, hb]
      simp
theorem itoa_dgt (n : Int) : itoaB n = if n = 0 then ⟨#[48]⟩ else if n < 0 then ⟨#[45]⟩ ++ dgt n.natAbs n.natAbs ⟨#[]⟩ else dgt n.natAbs n.natAbs ⟨#[]⟩ := by
  by_cases h0 : n = 0
  · subst h0
    refine ba_ext ?_
    simp [itoaB, Lib.itoa, Lib.decDigits]
  · rw [if_neg h0]
    refine ba_ext ?_
    by_cases h : n < 0
    · rw [if_pos h, ba_app, dgt_dec _ _ _ (by omega) (Nat.le_refl _)]
      simp [itoaB, Lib.itoa, h]
    · rw [if_neg h, dgt_dec _ _ _ (by omega) (Nat.le_refl _)]
      simp [itoaB, Lib.itoa, h, show n.toNat = n.natAbs by omega]

theorem ok20 : Good1 Tryd.prog Φ g20 := good1 tok mixed (l := [g44]) (by simp [ok44]) Tryd.func20 (by decide) (by decide) v20_eq (args1 fun a hw hp => by
  simp [v20, g20, show Φ 20 = mItoa from rfl, show Φ 44 = mItoa from rfl, mItoa])

theorem ok47 : Good1 Tryd.prog Φ g47 := good1 tok mixed (l := []) (by simp) Tryd.func47 (by decide) (by decide) v47_eq (args1 fun a hw hp => by
  simp [g47] at hw
  have hw1 : -9223372036854775808 ≤ a.asInt := hw.1
  have hw2 : a.asInt ≤ 9223372036854775807 := hw.2
  unfold v47
  rw [wp_ite']
  have hpost : ∀ s : ByteArray, s = itoaB a.asInt → (fun l : List D => l = retDs (fun c => Φ 47 c [a]) 0 g47.rets) [.str s] := by
    rintro s rfl
    simp [g47, show Φ 47 = mItoa from rfl, mItoa]
  refine ⟨fun h => ?_, fun h => ?_⟩
  · simp at h
    rw [wp_ret']
    exact hpost _ (by rw [itoa_dgt, if_pos h])
  simp at h
  refine wp_loop' (fun v => ∃ (n : Int) (s : ByteArray) (d : D) (f : Nat), v = [.str s, d] ∧ d.asInt = n ∧ n.natAbs * 10 ^ s.size ≤ 9223372036854775808 ∧ s.size ≤ 20 ∧ n.natAbs ≤ f ∧ dgt f n.natAbs s = dgt a.asInt.natAbs a.asInt.natAbs ⟨#[]⟩) (fun v => (cell v 1).asInt.natAbs)
    ⟨a.asInt, ⟨#[]⟩, a, a.asInt.natAbs, rfl, rfl, by simp [ByteArray.size]; omega, by simp [ByteArray.size], Nat.le_refl _, rfl⟩ ?_
  simp only [allN_succ, allN_zero, kinds_cons, kinds_nil]
  rintro d d' _ _ ⟨n, s, d0, f, e, hd, h1, h2, h3, h4⟩
  simp only [List.cons.injEq, and_true] at e
  obtain ⟨rfl, rfl⟩ := e
  simp only [wp_ite', wp_req', wp_back', wp_ret', conj_cons, conj_nil, List.cons_append, List.nil_append, den_op, dens_cons, dens_nil, den_var, den_int, den_str, cell_zero, cell_succ, op_bin, op_nz, op_le, op_len, op_asl, op_rows, op_wrap, op_neg, op_strfit, op_bstr, op_sbin, intV_lss, intV_neq, intV_rem, intV_add, intV_quo, strV_add,
    D.asInt_int, D.asBool_bool, D.asStr_str, D.asList_sl, tt_ok, tt_no, tt_not, hd, List.map_cons, List.map_nil, setB_eq, List.length_cons, List.length_nil, chunk]
  have hn62 : n.natAbs ≤ 9223372036854775808 := Nat.le_trans (Nat.le_mul_of_pos_right _ (Nat.pow_pos (by omega))) h1
  have hm : (n.tmod 10).natAbs = n.natAbs % 10 := by simp [Int.natAbs_tmod]
  have hq : (n.tdiv 10).natAbs = n.natAbs / 10 := by rw [Int.natAbs_tdiv]; rfl
  have hqw : IntKind.i64.wrap (n.tdiv 10) = n.tdiv 10 := w64 (by omega) (by omega)
  have step : n ≠ 0 → ∀ x : Int, x = ((48 + n.natAbs % 10 : Nat) : Int) → ((((0 + 1 : Nat) : Int) ≤ 140737488355328 ∧ (bytesOf [List.take 1 [D.int x]]).size + s.size ≤ lenMax ∧ True) ∧ ((10 : Int) ≠ 0 ∧ True) ∧
      (∃ n1 s1 d f, [D.str (bytesOf [List.take 1 [D.int x]] ++ s), D.int (IntKind.i64.wrap (n.tdiv 10))] = [D.str s1, d] ∧ d.asInt = n1 ∧ n1.natAbs * 10 ^ s1.size ≤ 9223372036854775808 ∧ s1.size ≤ 20 ∧ n1.natAbs ≤ f ∧
        dgt f n1.natAbs s1 = dgt a.asInt.natAbs a.asInt.natAbs ⟨#[]⟩) ∧ (IntKind.i64.wrap (n.tdiv 10)).natAbs < n.natAbs) := by
    rintro hn x rfl
    have hn' : 0 < n.natAbs := by omega
    have hs : s.size ≤ 18 := by
      rcases Nat.lt_or_ge s.size 19 with h | h
      · omega
      · have : 10 ^ 19 ≤ 10 ^ s.size := Nat.pow_le_pow_right (by omega) h
        have : 10 ^ 19 ≤ n.natAbs * 10 ^ s.size := Nat.le_trans this (Nat.le_mul_of_pos_left _ hn')
        omega
    have hb := bytesOf_one ((48 + n.natAbs % 10 : Nat) : Int)
    simp only [List.take_succ_cons, List.take_zero]
    refine ⟨⟨by omega, by rw [hb]; simp [lenMax]; omega, trivial⟩, ⟨by omega, trivial⟩, ⟨n.tdiv 10, _, _, f - 1, rfl, by rw [hqw]; rfl, ?_, ?_, by omega, ?_⟩, ?_⟩
    · rw [ba_size_append, hb, Nat.add_comm 1, Nat.pow_succ, hq]
      have : n.natAbs / 10 * (10 ^ s.size * 10) ≤ n.natAbs * 10 ^ s.size := by
        rw [Nat.mul_comm (10 ^ s.size) 10, ← Nat.mul_assoc]
        exact Nat.mul_le_mul_right _ (Nat.div_mul_le_self _ 10)
      omega
    · rw [ba_size_append, hb]; omega
    · obtain ⟨f', rfl⟩ : ∃ f', f = f' + 1 := ⟨f - 1, by omega⟩
      rw [← h4, dgt, if_neg (by omega), hq]
      rfl
    · rw [hqw]
      omega
  have hneg : n.tmod 10 < 0 → IntKind.u8.wrap (IntKind.i64.wrap (48 + IntKind.i64.wrap (0 - n.tmod 10))) = ((48 + n.natAbs % 10 : Nat) : Int) := fun hr => by
    rw [w64 (n := 0 - n.tmod 10) (by omega) (by omega), w64 (by omega) (by omega), show 48 + (0 - n.tmod 10) = ((48 + n.natAbs % 10 : Nat) : Int) by omega, wrap8 (by omega)]
  have hpos : ¬ n.tmod 10 < 0 → IntKind.u8.wrap (IntKind.i64.wrap (48 + n.tmod 10)) = ((48 + n.natAbs % 10 : Nat) : Int) := fun hr => by
    rw [w64 (by omega) (by omega), show 48 + n.tmod 10 = ((48 + n.natAbs % 10 : Nat) : Int) by omega, wrap8 (by omega)]
  refine ⟨fun hn => ⟨⟨by decide, trivial⟩, fun hr => step hn _ (hneg hr), fun hr => step hn _ (hpos hr)⟩, fun hn => ?_⟩
  have hn0 : n = 0 := by omega
  subst hn0
  rw [show (0 : Int).natAbs = 0 from rfl, dgt_zero] at h4
  refine ⟨fun hl => ⟨⟨by rw [sz_mk]; simp [lenMax]; omega, trivial⟩, hpost _ ?_⟩, fun hl => hpost _ ?_⟩
  · rw [itoa_dgt, if_neg h, if_pos hl, h4]
  · rw [itoa_dgt, if_neg h, if_neg hl, h4])
end Go.Proofs.YthibophjhdoooaaDoor


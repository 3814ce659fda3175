/-
  The plain law of reading alarms, first part: bytes and places.
-/
import Derived.Test.YthibophjhdoooaaDoorS10
set_option linter.unusedVariables false
set_option linter.unusedSimpArgs false
namespace Go.Proofs.YthibophjhdoooaaDoor
open Go.Vx

theorem toList_lby (s : ByteArray) : s.toList = lby s := ByteArray.toList_eq s
theorem mk_lby (s : ByteArray) : (⟨(lby s).toArray⟩ : ByteArray) = s := ba_ext (by simp [lby])
theorem lby_inj {s t : ByteArray} (h : lby s = lby t) : s = t := ba_ext h
theorem lby_mk (l : List UInt8) : lby ⟨l.toArray⟩ = l := by simp [lby]
theorem lby_app (s t : ByteArray) : lby (s ++ t) = lby s ++ lby t := ba_app s t
theorem byte_at {s : ByteArray} {p q : List UInt8} {x : UInt8} (h : lby s = p ++ x :: q) : byte s p.length = x.toNat := by
  unfold byte
  rw [toList_lby, h, List.getElem?_append_right (Nat.le_refl _)]
  simp
theorem size_at {s : ByteArray} {l : List UInt8} (h : lby s = l) : s.size = l.length := by rw [← h, lby_size]
theorem mem_byte {s : ByteArray} {p : Nat → Prop} (h : ∀ i, i < s.size → p (byte s i)) : ∀ c ∈ lby s, p c.toNat := by
  intro c hc
  obtain ⟨i, hi, rfl⟩ := List.getElem_of_mem hc
  have := h i (by rw [← lby_size]; exact hi)
  unfold byte at this
  rw [toList_lby, List.getElem?_eq_getElem hi] at this
  exact this

/-! The next byte. -/
theorem findB_run {s : ByteArray} {b : Int} {c : UInt8} {q : List UInt8} (hc : (c.toNat : Int) = b) : ∀ (t p : List UInt8) (f : Nat), lby s = p ++ (t ++ c :: q) → (∀ x ∈ t, (x.toNat : Int) ≠ b) → t.length < f → findB s b f p.length = p.length + t.length
  | [], p, f + 1, h, _, _ => by
    have hb := byte_at (p := p) (x := c) (q := q) (by simpa using h)
    have hs := size_at h
    simp at hs
    rw [findB, if_pos (by omega), hb, if_pos hc]
    simp
  | x :: t, p, f + 1, h, ht, hf => by
    have hb := byte_at (p := p) (x := x) (q := t ++ c :: q) (by simpa using h)
    have hs := size_at h
    simp at hs
    rw [findB, if_pos (by omega), hb, if_neg (ht x (by simp))]
    have := findB_run hc t (p ++ [x]) f (by simpa using h) (fun y hy => ht y (by simp [hy])) (by simpa using hf)
    simp only [List.length_append, List.length_cons, List.length_nil, Nat.zero_add] at this
    rw [this]
    simp
    omega
theorem toK_at {s : ByteArray} {b : Int} {c : UInt8} {t p q : List UInt8} {a : Int} (ha : a = p.length) (hc : (c.toNat : Int) = b) (h : lby s = p ++ (t ++ c :: q)) (ht : ∀ x ∈ t, (x.toNat : Int) ≠ b) : toK s a b = p.length + t.length := by
  subst ha
  have hs := size_at h
  simp at hs
  exact findB_run hc t p _ h ht (by omega)
theorem toN_at {s : ByteArray} {b : Int} {c : UInt8} {t p q : List UInt8} {a : Int} (ha : a = p.length) (hc : (c.toNat : Int) = b) (h : lby s = p ++ (t ++ c :: q)) (ht : ∀ x ∈ t, (x.toNat : Int) ≠ b) : toN s a b = p.length + t.length + 1 := by
  rw [toN, toK_at ha hc h ht, if_neg (by omega)]
theorem toT_at {s : ByteArray} {b : Int} {c : UInt8} {t p q : List UInt8} {a : Int} (ha : a = p.length) (hc : (c.toNat : Int) = b) (h : lby s = p ++ (t ++ c :: q)) (ht : ∀ x ∈ t, (x.toNat : Int) ≠ b) : toT s a b = ⟨t.toArray⟩ := by
  rw [toT, toK_at ha hc h ht, if_neg (by omega)]
  subst ha
  refine lby_inj ?_
  rw [lby_mk t, ← toList_lby, Lib.extract_toList]
  show ((lby s).drop _).take _ = _
  rw [h]
  have e1 : ((p.length : Nat) : Int).toNat = p.length := by omega
  have e2 : ((p.length : Int) + (t.length : Int)).toNat - ((p.length : Nat) : Int).toNat = t.length := by omega
  rw [e2, e1, List.drop_left, List.take_left]

/-! Cut in two. -/
theorem cut_at {t q sep : List UInt8} {c : UInt8} (ht : ∀ x ∈ t, x ≠ c) : Lib.cut (t ++ (c :: sep ++ q)) (c :: sep) = (t, q, true) := by
  have hi : Lib.index (t ++ (c :: sep ++ q)) (c :: sep) = t.length := by
    refine Lib.index_first (by simp) ?_ fun j hj => ?_
    · unfold Lib.occAt
      rw [List.drop_left, List.isPrefixOf_iff_prefix]
      exact List.prefix_append _ _
    · unfold Lib.occAt
      rw [List.drop_append_of_le_length (by omega), List.drop_eq_getElem_cons hj]
      have := ht t[j] (List.getElem_mem _)
      show (c == t[j] && _) = false
      rw [beq_eq_false_iff_ne.2 (Ne.symm this), Bool.false_and]
  unfold Lib.cut
  rw [hi, if_pos (by omega)]
  simp [List.take_left]
theorem cutO_at {s : ByteArray} {t q sep : List UInt8} {c : UInt8} (h : lby s = t ++ (c :: sep ++ q)) (ht : ∀ x ∈ t, x ≠ c) : cutO s ⟨(c :: sep).toArray⟩ = true := by
  unfold cutO
  rw [h, lby_mk (c :: sep), cut_at ht]
theorem cutA_at {s : ByteArray} {t q sep : List UInt8} {c : UInt8} (h : lby s = t ++ (c :: sep ++ q)) (ht : ∀ x ∈ t, x ≠ c) : cutA s ⟨(c :: sep).toArray⟩ = ⟨t.toArray⟩ := by
  unfold cutA
  rw [h, lby_mk (c :: sep), cut_at ht]
theorem cutB_at {s : ByteArray} {t q sep : List UInt8} {c : UInt8} (h : lby s = t ++ (c :: sep ++ q)) (ht : ∀ x ∈ t, x ≠ c) : lby (cutB s ⟨(c :: sep).toArray⟩) = q := by
  unfold cutB
  rw [h, lby_mk (c :: sep), cut_at ht, lby_mk q]
theorem trimP_at {s : ByteArray} {p q : List UInt8} (h : lby s = p ++ q) : lby (trimP s ⟨p.toArray⟩) = q := by
  unfold trimP
  rw [h, lby_mk p, lby_mk]
  unfold Lib.trimPrefix Lib.hasPrefix
  rw [if_pos (by rw [List.isPrefixOf_iff_prefix]; exact List.prefix_append _ _), List.drop_left]
theorem trimS_at {s : ByteArray} {p q : List UInt8} (h : lby s = q ++ p) : lby (trimS s ⟨p.toArray⟩) = q := by
  unfold trimS
  rw [h, lby_mk p, lby_mk]
  unfold Lib.trimSuffix Lib.hasSuffix
  rw [if_pos (by rw [List.isSuffixOf_iff_suffix]; exact List.suffix_append _ _)]
  simp [List.take_left]
end Go.Proofs.YthibophjhdoooaaDoor


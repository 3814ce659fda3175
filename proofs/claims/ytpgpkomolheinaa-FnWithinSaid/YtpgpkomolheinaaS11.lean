/-
  Plain laws: some of others; the last of each labels.
-/
import Derived.Test.YtpgpkomolheinaaS10
import Derived.Test.YtpgpkomolheinaaS5
set_option linter.unusedVariables false
set_option linter.unusedSimpArgs false
namespace Go.Proofs.Ytpgpkomolheinaa
open Go.Vx

inductive Sub (p : List D → List D → Bool) : List (List D) → List (List D) → Prop where
  | nil (ys) : Sub p [] ys
  | skip {xs ys} (y) : Sub p xs ys → Sub p xs (y :: ys)
  | take {x y xs ys} : p x y = true → Sub p xs ys → Sub p (x :: xs) (y :: ys)

section
variable {p : List D → List D → Bool}
theorem Sub.tail : ∀ {ys : List (List D)} {x : List D} {xs : List (List D)}, Sub p (x :: xs) ys → Sub p xs ys
  | _ :: _, _, _, .skip y h => .skip y h.tail
  | _ :: _, _, _, .take _ h => .skip _ h
theorem within_of : ∀ {ys xs : List (List D)}, Sub p xs ys → within p xs ys = true
  | ys, [], _ => by cases ys <;> rfl
  | y :: ys, x :: xs, h => by
    simp only [within]
    by_cases hp : p x y = true
    · rw [if_pos hp]
      cases h with
      | skip _ h => exact within_of h.tail
      | take _ h => exact within_of h
    · rw [if_neg hp]
      cases h with
      | skip _ h => exact within_of h
      | take h' _ => exact absurd h' hp
theorem sub_of : ∀ {ys xs : List (List D)}, within p xs ys = true → Sub p xs ys
  | _, [], _ => .nil _
  | y :: ys, x :: xs, h => by
    simp only [within] at h
    by_cases hp : p x y = true
    · rw [if_pos hp] at h
      exact .take hp (sub_of h)
    · rw [if_neg hp] at h
      exact .skip _ (sub_of h)
theorem Sub.refl (hp : ∀ x, p x x = true) : ∀ xs : List (List D), Sub p xs xs
  | [] => .nil _
  | x :: xs => .take (hp x) (Sub.refl hp xs)
theorem Sub.take' : ∀ {xs ys : List (List D)}, Sub p xs ys → ∀ k, Sub p (xs.take k) ys
  | _, _, .nil ys, k => by simp only [List.take_nil]; exact .nil _
  | _, _, .skip y h, k => .skip y (h.take' k)
  | _, _, .take _ _, 0 => .nil _
  | _, _, .take hp h, k + 1 => .take hp (h.take' k)
theorem Sub.drop' : ∀ {k : Nat} {xs ys : List (List D)}, Sub p xs ys → Sub p (xs.drop k) ys
  | 0, _, _, h => h
  | k + 1, [], _, _ => .nil _
  | k + 1, _ :: _, _, h => Sub.drop' (k := k) h.tail
theorem Sub.len : ∀ {xs ys : List (List D)}, Sub p xs ys → xs.length ≤ ys.length
  | _, _, .nil ys => Nat.zero_le _
  | _, _, .skip y h => Nat.le_succ_of_le h.len
  | _, _, .take _ h => Nat.succ_le_succ h.len
theorem Sub.fm {g : List D → List (List D)} (hg : ∀ r, g r = [] ∨ ∃ x, g r = [x] ∧ p x r = true) : ∀ l : List (List D), Sub p (l.flatMap g) l
  | [] => .nil _
  | r :: l => by
    rw [List.flatMap_cons]
    rcases hg r with h | ⟨x, h, hx⟩
    · rw [h]; exact .skip _ (Sub.fm hg l)
    · rw [h]; exact .take hx (Sub.fm hg l)
end

theorem cp_same (r : List D) : eqDs kAlarm (cpAl r) r = true := by
  simp [eqDs_cons, eqDs_nil, cpAl, eqD_sl, eqD_int, eqD_str, eqR_refl (eqDs_refl kLabel)]
theorem of_sub (s l : List (List D)) : Sub (eqDs kAlarm) (l.flatMap (ofG s)) l := Sub.fm (fun r => by
  unfold ofG
  cases eqR (eqDs kLabel) (cell r 0).asList s with
  | false => exact .inl rfl
  | true => exact .inr ⟨_, rfl, cp_same r⟩) l

theorem flatS_eq : ∀ {a b : List (List D)}, flatS a = flatS b → eqR (eqDs kLabel) a b = true
  | [], [], _ => rfl
  | [], _ :: _, h => by simp [flatS] at h
  | _ :: _, [], h => by simp [flatS] at h
  | r :: a, s :: b, h => by
    have e : ∀ (q : List D) (l : List (List D)), flatS (q :: l) = (cell q 0).asStr.toList :: (cell q 1).asStr.toList :: flatS l := fun _ _ => rfl
    rw [e, e] at h
    simp only [List.cons.injEq, toList_inj'] at h
    simp [eqR, eqDs_cons, eqDs_nil, eqD_str, h.1, h.2.1, flatS_eq h.2.2]
theorem setLt_total {a b : List (List D)} (h : setLt b a = false) (hn : eqR (eqDs kLabel) a b = false) : setLt a b = true := by
  rw [setLt_eq] at h ⊢
  simp only [decide_eq_false_iff_not, List.not_lt, decide_eq_true_eq] at h ⊢
  rcases Classical.em (flatS a < flatS b) with h' | h'
  · exact h'
  · exfalso
    rw [List.not_lt] at h'
    rw [flatS_eq (List.le_antisymm h h')] at hn
    cases hn

theorem stS_sorted {lt : List D → List D → Bool} (h : Go.Sort.SWO lt) (l : List (List D)) : (stS lt l).Pairwise fun a b => lt b a = false :=
  (stS_all h l [] List.Pairwise.nil (List.pairwise_of_forall fun _ _ => rfl) (fun _ _ _ h => by simp at h)).2

theorem eqR_symm : ∀ (a b : List (List D)), eqR (eqDs kLabel) a b = eqR (eqDs kLabel) b a
  | [], [] => rfl
  | [], _ :: _ => rfl
  | _ :: _, [] => rfl
  | r :: a, s :: b => by
    simp only [eqR, eqDs_cons, eqDs_nil, eqD_str, cell_tail, eqR_symm a b]
    simp only [eq_comm]

/-- No two of the last ones have the same labels. -/
theorem lasts_apart (l : List (List D)) : ∀ n, n ≤ l.length → (lastsN cpAl l n).Pairwise fun a b => eqR (eqDs kLabel) (cell a 0).asList (cell b 0).asList = false
  | 0, _ => List.Pairwise.nil
  | n + 1, hn => by
    unfold lastsN
    rw [pickN]
    rw [List.pairwise_append]
    refine ⟨lasts_apart l n (by omega), by split <;> simp, fun x hx y hy => ?_⟩
    split at hy
    · simp only [List.mem_singleton] at hy
      subst hy
      obtain ⟨i, hi, hc, rfl⟩ := pickN_mem hx
      simp only [lastAt, tt_ok] at hc
      have := hc n hi (by omega)
      rw [eqR_symm] at this
      simpa [cpAl] using this
    · simp at hy
theorem last_ne {l : List (List D)} (h : l ≠ []) : lastsN cpAl l l.length ≠ [] := by
  obtain ⟨n, hn⟩ : ∃ n, l.length = n + 1 := ⟨l.length - 1, by have := List.length_pos_iff.2 h; omega⟩
  rw [hn]
  unfold lastsN
  rw [pickN, if_pos]
  · simp
  · simp only [lastAt, tt_ok]
    intro k h1 h2
    omega

section
variable (l : List (List D))
noncomputable abbrev lastO : List (List D) := stS ltA (lastsN cpAl l l.length)
theorem lastO_len : (lastO l).length = (lastsN cpAl l l.length).length := stS_length _ _
theorem lastO_nil : (l.length = 0) ↔ ((lastO l).length = 0) := by
  rw [lastO_len]
  constructor
  · intro h
    have : l = [] := List.eq_nil_of_length_eq_zero h
    subst this
    rfl
  · intro h
    by_cases hl : l = []
    · rw [hl]; rfl
    · exact absurd (List.eq_nil_of_length_eq_zero h) (last_ne hl)
/-- In order. -/
theorem lastO_less {i : Nat} (h : i + 1 < (lastO l).length) : setLt (cell (rowN (lastO l) i) 0).asList (cell (rowN (lastO l) (i + 1)) 0).asList = true := by
  have hs := stS_sorted ltA_swo (lastsN cpAl l l.length)
  have hp : (lastO l).Pairwise fun a b => eqR (eqDs kLabel) (cell a 0).asList (cell b 0).asList = false :=
    ((stS_perm ltA _).pairwise_iff (fun {x y} h => by rw [eqR_symm]; exact h)).2 (lasts_apart l l.length (Nat.le_refl _))
  have h1 := List.pairwise_iff_getElem.1 hs i (i + 1) (Nat.lt_of_succ_lt h) h (by omega)
  have h2 := List.pairwise_iff_getElem.1 hp i (i + 1) (Nat.lt_of_succ_lt h) h (by omega)
  rw [rowN_lt (xs := lastO l) (i := i) (by omega), rowN_lt h]
  exact setLt_total h1 h2
/-- The last of its labels. -/
theorem lastO_of {i : Nat} (h : i < (lastO l).length) : ∃ ys, l.flatMap (ofG (cell (rowN (lastO l) i) 0).asList) = ys ++ [rowN (lastO l) i] := by
  have hm : rowN (lastO l) i ∈ lastsN cpAl l l.length := (stS_perm ltA _).mem_iff.1 (rowN_mem h)
  obtain ⟨j, hj, hc, e⟩ := pickN_mem hm
  rw [e]
  refine ⟨(l.take j).flatMap (ofG (cell (cpAl (rowN l j)) 0).asList), ?_⟩
  have e1 : l = l.take j ++ (rowN l j :: l.drop (j + 1)) := by
    rw [rowN_lt hj, List.getElem_cons_drop, List.take_append_drop]
  have key : ∀ g : List D → List (List D), g (rowN l j) = [cpAl (rowN l j)] → (l.drop (j + 1)).flatMap g = [] → l.flatMap g = (l.take j).flatMap g ++ [cpAl (rowN l j)] := fun g h1 h2 => by
    conv => lhs; rw [e1]
    rw [List.flatMap_append, List.flatMap_cons, h1, h2]
    rfl
  have e2 : ofG (cell (cpAl (rowN l j)) 0).asList (rowN l j) = [cpAl (rowN l j)] := by
    unfold ofG
    have : eqR (eqDs kLabel) (cell (rowN l j) 0).asList (cell (cpAl (rowN l j)) 0).asList = true := by simp [cpAl, eqR_refl (eqDs_refl kLabel)]
    rw [this]; rfl
  have e3 : (l.drop (j + 1)).flatMap (ofG (cell (cpAl (rowN l j)) 0).asList) = [] := by
    rw [List.flatMap_eq_nil_iff]
    intro x hx
    obtain ⟨k, hk, rfl⟩ := List.mem_iff_getElem.1 hx
    simp only [lastAt, tt_ok] at hc
    rw [List.length_drop] at hk
    have := hc (j + 1 + k) (by omega) (by omega)
    rw [rowN_lt (by omega)] at this
    unfold ofG
    rw [List.getElem_drop]
    have h' : eqR (eqDs kLabel) (cell l[j + 1 + k] 0).asList (cell (cpAl (rowN l j)) 0).asList = false := by simpa [cpAl] using this
    rw [h']; rfl
  exact key _ e2 e3
end
end Go.Proofs.Ytpgpkomolheinaa


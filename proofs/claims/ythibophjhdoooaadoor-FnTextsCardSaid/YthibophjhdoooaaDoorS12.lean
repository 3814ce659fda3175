/-
  The plain law of reading alarms, second part: labels.
-/
import Derived.Test.YthibophjhdoooaaDoorS11
set_option linter.unusedVariables false
set_option linter.unusedSimpArgs false
namespace Go.Proofs.YthibophjhdoooaaDoor
open Go.Vx

def nm (r : List D) : List UInt8 := lby (cell r 0).asStr
def vl (r : List D) : List UInt8 := lby (cell r 1).asStr
def norm (r : List D) : List D := [.str (cell r 0).asStr, .str (cell r 1).asStr]
def labL (r : List D) : List UInt8 := nm r ++ (61 :: 34 :: (vl r ++ [34]))
def moreL (rs : List (List D)) : List UInt8 := (rs.map fun r => 44 :: 32 :: labL r).flatten
theorem moreL_cons (r : List D) (rs : List (List D)) : moreL (r :: rs) = 44 :: 32 :: (labL r ++ moreL rs) := by simp [moreL]
theorem lby_labB (r : List D) : lby (labB r) = labL r := by
  unfold labB
  rw [lby_app, lby_app, lby_app]
  simp [labL, nm, vl, lby]
theorem lby_setB (r : List D) (rs : List (List D)) : lby (setB (r :: rs)) = 123 :: (labL r ++ (moreL rs ++ [125])) := by
  unfold setB
  rw [lby_app, lby_app]
  have : lby (joinB ((r :: rs).map labB) ⟨#[44, 32]⟩) = labL r ++ moreL rs := by
    unfold joinB
    rw [lby_mk, List.map_cons, List.map_cons, Lib.join_cons, lby_labB]
    congr 1
    unfold Lib.joinTail moreL
    simp only [List.map_map]
    congr 1
    refine List.map_congr_left fun x _ => ?_
    simp only [Function.comp]
    rw [lby_labB]
    rfl
  rw [this]
  simp [lby]

/-- What is known of a right label's bytes. -/
structure LabW (r : List D) : Prop where
  n : ∀ c ∈ nm r, 97 ≤ c.toNat ∧ c.toNat ≤ 122
  ne : nm r ≠ []
  v : ∀ c ∈ vl r, c.toNat ≠ 34
theorem LabOk.w {r : List D} (h : LabOk r) : LabW r := by
  refine ⟨mem_byte (s := (cell r 0).asStr) (p := fun n => 97 ≤ n ∧ n ≤ 122) h.1.2, fun e => ?_, fun c hc => ?_⟩
  · have := h.1.1.1
    rw [← lby_size] at this
    have e' : lby (cell r 0).asStr = [] := e
    rw [e'] at this
    simp at this
  · exact (mem_byte (p := fun n => 32 ≤ n ∧ n ≤ 126 ∧ n ≠ 34 ∧ n ≠ 92) h.2.2 c hc).2.2.1

theorem mk_nm (r : List D) : (⟨(nm r).toArray⟩ : ByteArray) = (cell r 0).asStr := mk_lby _
theorem mk_vl (r : List D) : (⟨(vl r).toArray⟩ : ByteArray) = (cell r 1).asStr := mk_lby _

/-! The reference: one label from a place on. -/
theorem ref_one {s : ByteArray} {r : List D} {p q : List UInt8} {a : Int} (w : LabW r) (ha : a = p.length) (h : lby s = p ++ (labL r ++ q)) :
    toN s a 61 = p.length + (nm r).length + 1 ∧ toT s a 61 = (cell r 0).asStr ∧ toN s (toN s a 61 + 1) 34 = p.length + (labL r).length ∧ toT s (toN s a 61 + 1) 34 = (cell r 1).asStr := by
  have h1 : lby s = p ++ (nm r ++ 61 :: (34 :: (vl r ++ 34 :: q))) := by rw [h]; simp [labL]
  have hn : ∀ x ∈ nm r, (x.toNat : Int) ≠ 61 := fun x hx => by have := w.n x hx; omega
  have e1 := toN_at (b := 61) ha (by decide) h1 hn
  have e2 := toT_at (b := 61) ha (by decide) h1 hn
  have h2 : lby s = (p ++ nm r ++ [61, 34]) ++ (vl r ++ 34 :: q) := by rw [h1]; simp
  have hv : ∀ x ∈ vl r, (x.toNat : Int) ≠ 34 := fun x hx => by have := w.v x hx; omega
  have ha2 : toN s a 61 + 1 = ((p ++ nm r ++ [61, 34]).length : Nat) := by rw [e1]; simp; omega
  have e3 := toN_at (b := 34) ha2 (by decide) h2 hv
  have e4 := toT_at (b := 34) ha2 (by decide) h2 hv
  refine ⟨e1, by rw [e2, mk_nm], ?_, by rw [e4, mk_vl]⟩
  rw [e3]
  simp [labL]
  omega

theorem l28_run {s : ByteArray} {q : List UInt8} : ∀ (rs : List (List D)) (r : List D) (p : List UInt8) (f : Nat) (a : Int), a = p.length → LabW r → (∀ x ∈ rs, LabW x) → lby s = p ++ (labL r ++ (moreL rs ++ 125 :: q)) → rs.length < f →
    l28F s f a = p.length + (labL r).length + (moreL rs).length + 1
  | [], r, p, f + 1, a, ha, w, _, h, _ => by
    obtain ⟨e1, -, e3, -⟩ := ref_one w ha h
    have hb := byte_at (p := p ++ labL r) (x := 125) (q := q) (by rw [h]; simp [moreL])
    have hs := size_at h
    simp [moreL] at hs hb
    rw [l28F, e3, e1, if_neg (by omega), if_neg (by omega), if_pos ⟨by omega, by rw [show ((p.length : Int) + ((labL r).length : Int)).toNat = p.length + (labL r).length by omega]; exact hb⟩]
    simp [moreL]
  | r2 :: rs, r, p, f + 1, a, ha, w, hw, h, hf => by
    obtain ⟨e1, -, e3, -⟩ := ref_one w ha h
    have hb := byte_at (p := p ++ labL r) (x := 44) (q := 32 :: (labL r2 ++ (moreL rs ++ 125 :: q))) (by rw [h]; simp [moreL_cons])
    have hs := size_at h
    simp [moreL_cons] at hs hb
    rw [l28F, e3, e1, if_neg (by omega), if_neg (by omega), if_neg (by rintro ⟨-, h'⟩; rw [show ((p.length : Int) + ((labL r).length : Int)).toNat = p.length + (labL r).length by omega, hb] at h'; omega)]
    rw [l28_run (q := q) rs r2 (p ++ labL r ++ [44, 32]) f _ (by simp; omega) (hw r2 (by simp)) (fun x hx => hw x (by simp [hx])) (by rw [h]; simp [moreL_cons]) (by simpa using hf)]
    simp [moreL_cons]
    omega

theorem ps_run {s : ByteArray} : ∀ (rs : List (List D)) (p : List UInt8) (f : Nat) (a : Int) (out : List (List D)), a = p.length → (∀ x ∈ rs, LabW x) → lby s = p ++ (moreL rs ++ [125]) → rs.length < f → 0 < out.length → out.length + rs.length ≤ 4 →
    psF s f a out = out ++ rs.map norm
  | [], p, f + 1, a, out, ha, _, h, _, _, _ => by
    have hs := size_at h
    simp [moreL] at hs
    rw [psF, if_neg (by omega)]
    simp
  | r :: rs, p, f + 1, a, out, ha, hw, h, hf, h0, h4 => by
    have h' : lby s = (p ++ [44, 32]) ++ (labL r ++ (moreL rs ++ [125])) := by rw [h]; simp [moreL_cons]
    have hs := size_at h'
    simp at hs h4
    obtain ⟨e1, e2, e3, e4⟩ := ref_one (a := a + 2) (hw r (by simp)) (by subst ha; simp) h'
    rw [psF, if_pos ⟨by omega, by omega⟩]
    simp only [if_pos h0]
    rw [if_neg (by rw [e1]; omega), if_neg (by rw [e3]; omega), e2, e4, e3]
    rw [ps_run (s := s) rs (p ++ [44, 32] ++ labL r) f _ (out ++ [[D.str (cell r 0).asStr, D.str (cell r 1).asStr]]) (by simp; omega) (fun x hx => hw x (by simp [hx])) (by rw [h']; simp) (by simpa using hf) (by simp) (by simp; omega)]
    simp [norm]
theorem psR_run {s : ByteArray} {r : List D} {rs : List (List D)} (w : LabW r) (hw : ∀ x ∈ rs, LabW x) (h : lby s = 123 :: (labL r ++ (moreL rs ++ [125]))) (h4 : rs.length ≤ 3) : psR s = (r :: rs).map norm := by
  have h' : lby s = [123] ++ (labL r ++ (moreL rs ++ [125])) := h
  have hs := size_at h'
  simp at hs
  obtain ⟨e1, e2, e3, e4⟩ := ref_one (a := 1) w rfl h'
  unfold psR
  simp only [List.length_cons, List.length_nil] at e1 e3
  have hl : 3 ≤ (labL r).length := by simp [labL]; omega
  rw [psF, if_pos ⟨by omega, by simp⟩]
  simp only [List.length_nil, Nat.lt_irrefl, if_false]
  rw [if_neg (by rw [e1]; omega), if_neg (by rw [e3]; omega), e2, e4, e3]
  rw [ps_run (s := s) rs ([123] ++ labL r) 5 _ _ (by simp; omega) hw (by rw [h']; simp) (by omega) (by simp) (by simp; omega)]
  simp [norm]

/-! The program. -/
theorem prefix_no {l p : List UInt8} {x y : UInt8} (h : x ≠ y) : Lib.hasPrefix (x :: l) (y :: p) = false := by
  show (y == x && _) = false
  rw [beq_eq_false_iff_ne.2 (Ne.symm h), Bool.false_and]
theorem prefix_yes {l p : List UInt8} : Lib.hasPrefix (p ++ l) p = true := by
  unfold Lib.hasPrefix
  rw [List.isPrefixOf_iff_prefix]
  exact List.prefix_append _ _
theorem prog_one {s : ByteArray} {r : List D} {q : List UInt8} (w : LabW r) (h : lby s = labL r ++ q) :
    cutO s ⟨#[61, 34]⟩ = true ∧ cutA s ⟨#[61, 34]⟩ = (cell r 0).asStr ∧ cutO (cutB s ⟨#[61, 34]⟩) ⟨#[34]⟩ = true ∧ cutA (cutB s ⟨#[61, 34]⟩) ⟨#[34]⟩ = (cell r 1).asStr ∧ lby (cutB (cutB s ⟨#[61, 34]⟩) ⟨#[34]⟩) = q := by
  have h1 : lby s = nm r ++ ((61 : UInt8) :: [34] ++ (vl r ++ 34 :: q)) := by rw [h]; simp [labL]
  have hn : ∀ x ∈ nm r, x ≠ (61 : UInt8) := fun x hx e => by have := w.n x hx; rw [e] at this; exact absurd this (by decide)
  have e1 := cutO_at h1 hn
  have e2 := cutA_at h1 hn
  have e3 := cutB_at h1 hn
  have h2 : lby (cutB s ⟨#[61, 34]⟩) = vl r ++ ((34 : UInt8) :: [] ++ q) := by rw [show (⟨#[61, 34]⟩ : ByteArray) = ⟨((61 : UInt8) :: [34]).toArray⟩ from rfl, e3]; simp
  have hv : ∀ x ∈ vl r, x ≠ (34 : UInt8) := fun x hx e => w.v x hx (by rw [e]; rfl)
  exact ⟨e1, by rw [← mk_nm]; exact e2, cutO_at h2 hv, by rw [← mk_vl]; exact cutA_at h2 hv, cutB_at h2 hv⟩

theorem sa_more {q : List UInt8} : ∀ (rs : List (List D)) (s : ByteArray) (f : Nat) (out : List (List D)), (∀ x ∈ rs, LabW x) → lby s = moreL rs ++ 125 :: q → rs.length < f → 0 < out.length → out.length + rs.length ≤ 4 →
    saF f s true out = (out ++ rs.map norm, ⟨q.toArray⟩, true)
  | [], s, f + 1, out, _, h, _, _, _ => by
    have h' : lby s = [125] ++ q := by rw [h]; simp [moreL]
    have e : trimP s ⟨#[125]⟩ = ⟨q.toArray⟩ := lby_inj (by rw [show (⟨#[125]⟩ : ByteArray) = ⟨([125] : List UInt8).toArray⟩ from rfl, trimP_at h', lby_mk q])
    rw [saF, if_neg (by simp), if_pos (by rw [h']; exact prefix_yes), e]
    simp
  | r :: rs, s, f + 1, out, hw, h, hf, h0, h4 => by
    have h' : lby s = [44, 32] ++ (labL r ++ (moreL rs ++ 125 :: q)) := by rw [h]; simp [moreL_cons]
    have e := trimP_at h'
    obtain ⟨e1, e2, e3, e4, e5⟩ := prog_one (hw r (by simp)) e
    simp at h4
    rw [saF, if_neg (by simp), if_neg (by rw [h']; intro hh; rw [show ([44, 32] ++ (labL r ++ (moreL rs ++ 125 :: q)) : List UInt8) = 44 :: (32 :: (labL r ++ (moreL rs ++ 125 :: q))) from rfl, show lby (⟨#[125]⟩ : ByteArray) = [125] from rfl, prefix_no (by decide)] at hh; cases hh),
      if_neg (fun hh => hh.2.elim (fun hh => by rw [h', show lby (⟨#[44, 32]⟩ : ByteArray) = [44, 32] from rfl, prefix_yes] at hh; cases hh) fun hh => by omega)]
    simp only [if_pos h0]
    rw [if_pos e1, e3, e2, e4, sa_more (q := q) rs _ f (out ++ [[D.str (cell r 0).asStr, D.str (cell r 1).asStr]]) (fun x hx => hw x (by simp [hx])) e5 (by simpa using hf) (by simp) (by simp; omega)]
    simp [norm]
theorem sa_run {s : ByteArray} {r : List D} {rs : List (List D)} {q : List UInt8} (w : LabW r) (hw : ∀ x ∈ rs, LabW x) (h : lby s = 123 :: (labL r ++ (moreL rs ++ 125 :: q))) (h4 : rs.length ≤ 3) : setAtF s = ((r :: rs).map norm, ⟨q.toArray⟩, true) := by
  have h' : lby s = [123] ++ (labL r ++ (moreL rs ++ 125 :: q)) := h
  have e := trimP_at h'
  have hs := size_at h'
  obtain ⟨e1, e2, e3, e4, e5⟩ := prog_one w e
  obtain ⟨c, l, hcl⟩ := List.exists_cons_of_ne_nil w.ne
  have hc : (125 : UInt8) ≠ c := fun hh => by
    have := w.n c (by rw [hcl]; simp)
    rw [← hh] at this
    exact absurd this (by decide)
  have hno : Lib.hasPrefix (lby (trimP s ⟨#[123]⟩)) (lby ⟨#[125]⟩) = false := by
    rw [show (⟨#[123]⟩ : ByteArray) = ⟨([123] : List UInt8).toArray⟩ from rfl, e, show lby (⟨#[125]⟩ : ByteArray) = [125] from rfl, labL, hcl]
    exact prefix_no (Ne.symm hc)
  unfold setAtF
  rw [show Lib.hasPrefix (lby s) (lby ⟨#[123]⟩) = true by rw [h']; exact prefix_yes]
  rw [saF, if_neg (by simp), if_neg (by rw [hno]; simp), if_neg (by simp)]
  simp only [List.length_nil, Nat.lt_irrefl, if_false]
  have z : (⟨#[123]⟩ : ByteArray) = ⟨([123] : List UInt8).toArray⟩ := rfl
  rw [z, if_pos e1, e3, e2, e4, sa_more (q := q) rs _ _ ([] ++ [[D.str (cell r 0).asStr, D.str (cell r 1).asStr]]) hw e5 (by simp at hs; omega) (by simp) (by simp; omega)]
  simp [norm]
end Go.Proofs.YthibophjhdoooaaDoor


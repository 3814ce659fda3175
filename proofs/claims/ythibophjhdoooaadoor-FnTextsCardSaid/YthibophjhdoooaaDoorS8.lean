/-
  Contracts: the labels at the beginning of a text.
-/
import Derived.Test.YthibophjhdoooaaDoorS7
set_option linter.unusedVariables false
set_option linter.unusedSimpArgs false
namespace Go.Proofs.YthibophjhdoooaaDoor
open Go.Vx

theorem cutB_less {s p : ByteArray} (h : cutO s p = true) (hp : 1 ≤ p.size) : (cutB s p).size + p.size ≤ s.size := by
  unfold cutO at h
  show (Lib.cut (lby s) (lby p)).2.1.length + _ ≤ _
  unfold Lib.cut at h ⊢
  split at h
  · rename_i hi
    rw [if_pos hi]
    have hr := Lib.index_room (lby s) (lby p) hi
    simp only [List.length_drop]
    rw [lby_size] at hr ⊢
    rw [lby_size] at hr ⊢
    omega
  · cases h

theorem ok14 : Good1 Tryd.prog Φ g14 := good1e tok mixed (l := [g15, g39]) (by simp [ok15, ok39]) Tryd.func14 (by decide) (by decide) v14_eq (args1 fun a hw hp => by
  simp [g14, show Φ 14 = mSetAt from rfl, mSetAt] at hp
  unfold v14
  rw [wp_req']
  refine ⟨by simp [show Φ 39 = mCutP from rfl, mCutP], ?_⟩
  refine wp_loop' (fun v => ∃ (f : Nat) (r : ByteArray) (ok : Bool) (x : D), v = [.str r, .bool ok, x] ∧ saF f r ok x.asList = setAtF a.asStr ∧ r.size ≤ a.asStr.size ∧ (ok = true → r.size + 1 < f) ∧ x.asList.length ≤ 4) (fun v => if (cell v 1).asBool then (cell v 0).asStr.size + 1 else 0)
    ⟨a.asStr.size + 3, trimP a.asStr ⟨#[123]⟩, Lib.hasPrefix (lby a.asStr) (lby ⟨#[123]⟩), .sl [], by simp [show Φ 39 = mCutP from rfl, mCutP, con], rfl, trimP_size _ _, fun _ => by have := trimP_size a.asStr ⟨#[123]⟩; omega, by simp⟩ ?_
  simp only [allN_succ, allN_zero, kinds_cons, kinds_nil]
  rintro d1 d2 d3 _ _ _ ⟨f, r, ok, x, e, h1, h2, h3, h4⟩
  simp only [List.cons.injEq, and_true] at e
  obtain ⟨rfl, rfl, rfl⟩ := e
  cases ok with
  | false =>
    have hz : setAtF a.asStr = ([], ⟨#[]⟩, false) := by
      rw [← h1]
      cases f <;> simp [saF]
    simp [g14, RSh.cells, show Φ 14 = mSetAt from rfl, mSetAt, con, hz]
  | true =>
    obtain ⟨f, rfl⟩ : ∃ g, f = g + 1 := ⟨f - 1, by have := h3 rfl; omega⟩
    rw [saF] at h1
    simp [g14, RSh.cells, show Φ 14 = mSetAt from rfl, show Φ 39 = mCutP from rfl, show Φ 15 = mCut from rfl, mCutP, mCut, mSetAt, con, chunk, lenMax, -Bool.exists_bool]
    rw [if_neg (by simp)] at h1
    have h3' : r.size < f := by have := h3 rfl; omega
    clear h3
    refine ⟨fun c => ?_, fun c => ⟨fun cl => ⟨fun cb => ?_, fun c44 c4 => ?_⟩, fun cl => ?_⟩⟩
    · rw [if_pos c] at h1
      rw [← h1]
      exact ⟨rfl, rfl, rfl⟩
    · rw [if_neg (by rw [c]; simp), if_pos ⟨cl, cb.imp id fun h => by omega⟩] at h1
      rw [← h1]
      exact ⟨rfl, rfl, rfl⟩
    · rw [if_neg (by rw [c]; simp), if_neg (fun h => h.2.elim (fun h => by rw [c44] at h; cases h) fun h => by omega)] at h1
      simp only [if_pos cl] at h1
      have hs := trimP_size r ⟨#[44, 32]⟩
      generalize trimP r ⟨#[44, 32]⟩ = r' at hs h1 ⊢
      have z1 : (⟨#[61, 34]⟩ : ByteArray).size = 2 := rfl
      have z2 : (⟨#[34]⟩ : ByteArray).size = 1 := rfl
      refine ⟨by omega, fun k => ?_, fun k => ?_⟩
      · have q1 := cutB_less k (by decide)
        have q2 := cutB_size (cutB r' ⟨#[61, 34]⟩) ⟨#[34]⟩
        rw [if_pos k] at h1
        refine ⟨by omega, ⟨by omega, by omega⟩, ⟨f, _, _, _, ⟨rfl, rfl, rfl⟩, h1, by omega, fun k2 => ?_, by simp; omega⟩, ?_⟩
        · have q3 := cutB_less k2 (by decide)
          omega
        · split
          · omega
          · omega
      · have q2 := cutB_size r' ⟨#[61, 34]⟩
        rw [if_neg (by rw [k]; simp)] at h1
        refine ⟨⟨by omega, by omega⟩, ⟨f, _, _, _, ⟨rfl, rfl, rfl⟩, by rw [k]; exact h1, by omega, fun k2 => (by rw [k] at k2; cases k2), by simp; omega⟩, ?_⟩
        rw [if_neg (by rw [k]; simp)]
        omega
    · have cl' : d3.asList.length = 0 := by simp [cl]
      rw [if_neg (by rw [c]; simp), if_neg (by omega)] at h1
      simp only [if_neg (show ¬ 0 < d3.asList.length by omega)] at h1
      have hs : r.size ≤ r.size := Nat.le_refl _
      have h5 := h3'
      have h6 := h2
      generalize hr : r.size = n at hs h5 h6 ⊢
      have hs' : r.size ≤ n := by omega
      clear hr h3' h2
      generalize r = r' at hs' h1 ⊢
      have z1 : (⟨#[61, 34]⟩ : ByteArray).size = 2 := rfl
      have z2 : (⟨#[34]⟩ : ByteArray).size = 1 := rfl
      refine ⟨by omega, fun k => ?_, fun k => ?_⟩
      · have q1 := cutB_less k (by decide)
        have q2 := cutB_size (cutB r' ⟨#[61, 34]⟩) ⟨#[34]⟩
        rw [if_pos k] at h1
        refine ⟨by omega, ⟨by omega, by omega⟩, ⟨f, _, _, _, ⟨rfl, rfl, rfl⟩, h1, by omega, fun k2 => ?_, by simp; omega⟩, ?_⟩
        · have q3 := cutB_less k2 (by decide)
          omega
        · split
          · omega
          · omega
      · have q2 := cutB_size r' ⟨#[61, 34]⟩
        rw [if_neg (by rw [k]; simp)] at h1
        refine ⟨⟨by omega, by omega⟩, ⟨f, _, _, _, ⟨rfl, rfl, rfl⟩, by rw [k]; exact h1, by omega, fun k2 => (by rw [k] at k2; cases k2), by simp; omega⟩, ?_⟩
        rw [if_neg (by rw [k]; simp)]
        omega)
end Go.Proofs.YthibophjhdoooaaDoor


/-
  Draws: labels, alarms, lists; what the law is called with.
-/
import Derived.Test.YthibophjhdoooaaDoorD1
set_option linter.unusedVariables false
set_option linter.unusedSimpArgs false
namespace Go.Proofs.YthibophjhdoooaaDoor
open Go.Vx

section
variable {Ψ : Fns}
set_option maxRecDepth 100000 in
theorem sPlain (H1 : fStr.2 (Ψ 22)) : ∃ φ, fPlain.2 φ := drawB tok mixed (Φ := Ψ) (l := [g22]) (by simpa using gof (t := g22) H1.1) Tryd.func49 (by decide) (by kernel_rfl) (by decide) _ _ (by decide) (by decide) (by decide) v49_eq
    (fun _ h => by rw [h]; rfl) (fun _ _ => ⟨[.str ⟨#[]⟩], rfl, (by decide : ByteArray.size ⟨#[]⟩ ≤ 16)⟩) (fun c rest hc h => by
  subst h
  have a1 := dStr H1 (n := .sl [[.str ⟨#[97]⟩], [.str ⟨#[98]⟩], [.str ⟨#[120, 32, 121]⟩], [.str ⟨#[]⟩], [.str ⟨#[99, 114, 105, 116]⟩], [.str ⟨#[125, 45]⟩]]) hc (by decide) (by decide)
  obtain ⟨b1, ⟨i, hi, e⟩, b3⟩ := a1
  simp [v49, g49, RSh.cells, rPlain, chunk, b1, b3, e]
  have hi : i < 6 := hi
  match i, hi with
  | 0, _ => decide
  | 1, _ => decide
  | 2, _ => decide
  | 3, _ => decide
  | 4, _ => decide
  | 5, _ => decide)

set_option maxRecDepth 100000 in
theorem sLab (H1 : fStr.2 (Ψ 22)) (H2 : fOnce.2 (Ψ 21)) : ∃ φ, fLab.2 φ := drawB tok mixed (Φ := Ψ) (l := [g21, g22]) (by simp [gof (t := g21) H2.1, gof (t := g22) H1.1]) Tryd.func48 (by decide) (by kernel_rfl) (by decide) _ _ (by decide) (by decide) (by decide) v48_eq
    (fun _ h => by rw [h]; rfl) (fun _ _ => ⟨[.sl [[.str ⟨#[]⟩, .str ⟨#[]⟩]]], rfl, ⟨Nat.le_refl _, rfl⟩, by decide, by simp [D.asList, sumR, smL, ByteArray.size]⟩) (fun c rest hc h => by
  subst h
  obtain ⟨b1, ⟨i, hi, e⟩, b3⟩ := dStr H1 (n := .sl [[.str ⟨#[97]⟩], [.str ⟨#[98]⟩], [.str ⟨#[99]⟩]]) hc (by decide) (by decide)
  have he : (cell (rowN [[D.str ⟨#[97]⟩], [.str ⟨#[98]⟩], [.str ⟨#[99]⟩]] i) 0).asStr.size ≤ 1 := by
    have hi : i < 3 := hi
    match i, hi with
    | 0, _ => decide
    | 1, _ => decide
    | 2, _ => decide
  simp [v48, g48, RSh.cells, rLab, chunk, b1]
  refine wp_loop' (fun v => ∃ (i : Nat) (x b j h : D), v = [.int i, x, b, j, h] ∧ i ≤ 3 ∧ (1 ≤ x.asList.length ∧ (rowN x.asList 0).length = 2) ∧ x.asList.length ≤ 1 + i ∧ sumR (szDs kLabel) x.asList ≤ 16 * (1 + i) ∧ curR [b, j, h]) (fun v => 3 - (cell v 0).asInt.toNat)
    ⟨0, _, _, _, _, rfl, by omega, by simp [chunk], by simp [chunk], by simp [chunk, sumR, smL, e]; have : (ByteArray.size ⟨#[97, 112, 112]⟩) = 3 := rfl; omega, by simpa [chunk] using b3⟩ ?_
  simp only [allN_succ, allN_zero, kinds_cons, kinds_nil]
  rintro d1 d2 d3 d4 d5 - - - - - ⟨i, x, b, j, h, hv, h1, h0, h2, h3, h4⟩
  simp only [List.cons.injEq, and_true] at hv
  obtain ⟨rfl, rfl, rfl, rfl, rfl⟩ := hv
  have o1 := dOnce H2 (c := .sl [[d3, d4, d5]]) (n := .int 4) h4
  obtain ⟨c1, ⟨k, hk, e2⟩, c3⟩ := dStr H1 (n := .sl [[.str ⟨#[49]⟩], [.str ⟨#[50]⟩]]) o1.2 (by decide) (by decide)
  have he2 : (cell (rowN [[D.str ⟨#[49]⟩], [.str ⟨#[50]⟩]] k) 0).asStr.size ≤ 1 := by
    have hk : k < 2 := hk
    match k, hk with
    | 0, _ => decide
    | 1, _ => decide
  have hn : i < 3 → (cell (rowN [[D.str ⟨#[104, 111, 115, 116]⟩], [.str ⟨#[115, 101, 118]⟩], [.str ⟨#[122, 111, 110, 101]⟩]] i) 0).asStr.size ≤ 4 := fun hi => by
    match i, hi with
    | 0, _ => decide
    | 1, _ => decide
    | 2, _ => decide
  simp [chunk, o1, c1, Vx.rowAt, rLab]
  refine ⟨fun hi => ⟨⟨hi, by omega⟩, fun _ => ⟨by simp only [lenMax]; omega, ?_⟩, fun _ => ?_⟩, fun hi => ⟨⟨⟨by omega, h0.2⟩, by omega, by omega⟩, h4⟩⟩
  · rw [w64 (by omega) (by omega)]
    refine ⟨⟨i + 1, _, _, _, _, ⟨by simp, rfl, rfl, rfl, rfl⟩, by omega, ⟨by simp, ?_⟩, by simp; omega, ?_, c3⟩, by omega⟩
    · simp only [D.asList_sl]
      rw [row0_app h0.1]
      exact h0.2
    simp [sumR_append, sumR, smL, e2]
    have := hn (by omega)
    omega
  · rw [w64 (by omega) (by omega)]
    exact ⟨⟨i + 1, _, _, _, _, ⟨by simp, rfl, rfl, rfl, rfl⟩, by omega, h0, by omega, by omega, o1.2⟩, by omega⟩)

end
end Go.Proofs.YthibophjhdoooaaDoor


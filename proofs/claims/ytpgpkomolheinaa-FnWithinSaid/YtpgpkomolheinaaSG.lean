/-
  Draws: labels, alarms, lists; what the law is called with.
-/
import Derived.Test.YtpgpkomolheinaaSE
set_option linter.unusedVariables false
set_option linter.unusedSimpArgs false
namespace Go.Proofs.Ytpgpkomolheinaa
open Go.Vx

section
variable {Ψ : Fns}
set_option maxRecDepth 100000 in
theorem sPlain (H1 : fStr.2 (Ψ 103)) : ∃ φ, fPlain.2 φ := drawB tok mixed (Φ := Ψ) (l := [g103]) (by simpa using gof (t := g103) H1.1) Try.func101 (by decide) (by kernel_rfl) (by decide) _ _ (by decide) (by decide) (by decide) v101_eq
    (fun _ h => by rw [h]; rfl) (fun _ _ => ⟨[.str ⟨#[]⟩], rfl, (by decide : ByteArray.size ⟨#[]⟩ ≤ 16)⟩) (fun c rest hc h => by
  subst h
  have a1 := dStr H1 (n := .sl [[.str ⟨#[97]⟩], [.str ⟨#[98]⟩], [.str ⟨#[120, 32, 121]⟩], [.str ⟨#[]⟩], [.str ⟨#[99, 114, 105, 116]⟩], [.str ⟨#[125, 45]⟩]]) hc (by decide) (by decide)
  obtain ⟨b1, ⟨i, hi, e⟩, b3⟩ := a1
  simp [v101, g101, RSh.cells, rPlain, chunk, b1, b3, e]
  have hi : i < 6 := hi
  match i, hi with
  | 0, _ => decide
  | 1, _ => decide
  | 2, _ => decide
  | 3, _ => decide
  | 4, _ => decide
  | 5, _ => decide)

set_option maxRecDepth 100000 in
theorem sLab (H1 : fStr.2 (Ψ 103)) (H2 : fOnce.2 (Ψ 83)) : ∃ φ, fLab.2 φ := drawB tok mixed (Φ := Ψ) (l := [g83, g103]) (by simpa using ⟨gof (t := g83) H2.1, gof (t := g103) H1.1⟩) Try.func95 (by decide) (by kernel_rfl) (by decide) _ _ (by decide) (by decide) (by decide) v95_eq
    (fun _ h => by rw [h]; rfl) (fun _ _ => ⟨[.sl []], rfl, by simp [rLab, D.asList, sumR]⟩) (fun c rest hc h => by
  subst h
  obtain ⟨b1, ⟨i, hi, e⟩, b3⟩ := dStr H1 (n := .sl [[.str ⟨#[97]⟩], [.str ⟨#[98]⟩], [.str ⟨#[99]⟩]]) hc (by decide) (by decide)
  have he : (cell (rowN [[D.str ⟨#[97]⟩], [.str ⟨#[98]⟩], [.str ⟨#[99]⟩]] i) 0).asStr.size ≤ 1 := by
    have hi : i < 3 := hi
    match i, hi with
    | 0, _ => decide
    | 1, _ => decide
    | 2, _ => decide
  simp [v95, g95, RSh.cells, rLab, chunk, b1]
  refine wp_loop' (fun v => ∃ (i : Nat) (x b j h : D), v = [.int i, x, b, j, h] ∧ i ≤ 3 ∧ x.asList.length ≤ 1 + i ∧ sumR (szDs kLabel) x.asList ≤ 16 * (1 + i) ∧ curR [b, j, h]) (fun v => 3 - (cell v 0).asInt.toNat)
    ⟨0, _, _, _, _, rfl, by omega, by simp [chunk], by simp [chunk, sumR, smL, e]; have : (ByteArray.size ⟨#[97, 112, 112]⟩) = 3 := rfl; omega, by simpa [chunk] using b3⟩ ?_
  simp only [allN_succ, allN_zero, kinds_cons, kinds_nil]
  rintro d1 d2 d3 d4 d5 - - - - - ⟨i, x, b, j, h, hv, h1, h2, h3, h4⟩
  simp only [List.cons.injEq, and_true] at hv
  obtain ⟨rfl, rfl, rfl, rfl, rfl⟩ := hv
  have o1 := dOnce H2 (c := .sl [[d3, d4, d5]]) (n := .int 4) h4
  obtain ⟨c1, ⟨k, hk, e2⟩, c3⟩ := dStr H1 (n := .sl [[.str ⟨#[49]⟩], [.str ⟨#[50]⟩]]) o1.2 (by decide) (by decide)
  have he2 : (cell (rowN [[D.str ⟨#[49]⟩], [.str ⟨#[50]⟩]] k) 0).asStr.size ≤ 1 := by
    have hk : k < 2 := hk
    match k, hk with
    | 0, _ => decide
    | 1, _ => decide
  have hn : i < 3 → (cell (rowN [[D.str ⟨#[104, 111, 115, 116]⟩], [.str ⟨#[115, 101, 118]⟩], [.str ⟨#[122, 111, 110, 101]⟩]] i) 0).asStr.size ≤ 4 := fun hi => by
    match i, hi with
    | 0, _ => decide
    | 1, _ => decide
    | 2, _ => decide
  simp [chunk, o1, c1, Vx.rowAt, rLab]
  refine ⟨fun hi => ⟨⟨hi, by omega⟩, fun _ => ⟨by simp only [lenMax]; omega, ?_⟩, fun _ => ?_⟩, fun hi => ⟨⟨by omega, by omega⟩, h4⟩⟩
  · rw [w64 (by omega) (by omega)]
    refine ⟨⟨i + 1, _, _, _, _, ⟨by simp, rfl, rfl, rfl, rfl⟩, by omega, by simp; omega, ?_, c3⟩, by omega⟩
    simp [sumR_append, sumR, smL, e2]
    have := hn (by omega)
    omega
  · rw [w64 (by omega) (by omega)]
    exact ⟨⟨i + 1, _, _, _, _, ⟨by simp, rfl, rfl, rfl, rfl⟩, by omega, by omega, by omega, o1.2⟩, by omega⟩)

end
end Go.Proofs.Ytpgpkomolheinaa


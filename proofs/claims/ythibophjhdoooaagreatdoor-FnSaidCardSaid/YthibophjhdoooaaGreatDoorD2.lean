/-
  Draws: labels, alarms, lists; what the law is called with.
-/
import Derived.Test.YthibophjhdoooaaGreatDoorD1
set_option linter.unusedVariables false
set_option linter.unusedSimpArgs false
namespace Go.Proofs.YthibophjhdoooaaGreatDoor
open Go.Vx

section
variable {Ψ : Fns}
set_option maxRecDepth 100000 in
theorem sPlain (H1 : fStr.2 (Ψ 67)) : ∃ φ, fPlain.2 φ := drawB tok mixed (Φ := Ψ) (l := [g67]) (by simpa using gof (t := g67) H1.1) Tryz.func66 (by decide) (by kernel_rfl) (by decide) _ _ (by decide) (by decide) (by decide) v66_eq
    (fun _ h => by rw [h]; rfl) (fun _ _ => ⟨[.str ⟨#[]⟩], rfl, (by decide : ByteArray.size ⟨#[]⟩ ≤ 16), (show PlainOk ⟨#[]⟩ by unfold PlainOk PlainB; decide +kernel)⟩) (fun c rest hc h => by
  subst h
  have a1 := dStr H1 (n := .sl [[.str ⟨#[97]⟩], [.str ⟨#[98]⟩], [.str ⟨#[120, 32, 121]⟩], [.str ⟨#[]⟩], [.str ⟨#[99, 114, 105, 116]⟩], [.str ⟨#[125, 45]⟩]]) hc (by decide) (by decide)
  obtain ⟨b1, ⟨i, hi, e⟩, b3⟩ := a1
  simp [v66, g66, RSh.cells, rPlain, chunk, b1, b3, e]
  have hi : i < 6 := hi
  match i, hi with
  | 0, _ => exact ⟨by decide, (show PlainOk ⟨#[97]⟩ by unfold PlainOk PlainB; decide +kernel)⟩
  | 1, _ => exact ⟨by decide, (show PlainOk ⟨#[98]⟩ by unfold PlainOk PlainB; decide +kernel)⟩
  | 2, _ => exact ⟨by decide, (show PlainOk ⟨#[120, 32, 121]⟩ by unfold PlainOk PlainB; decide +kernel)⟩
  | 3, _ => exact ⟨by decide, (show PlainOk ⟨#[]⟩ by unfold PlainOk PlainB; decide +kernel)⟩
  | 4, _ => exact ⟨by decide, (show PlainOk ⟨#[99, 114, 105, 116]⟩ by unfold PlainOk PlainB; decide +kernel)⟩
  | 5, _ => exact ⟨by decide, (show PlainOk ⟨#[125, 45]⟩ by unfold PlainOk PlainB; decide +kernel)⟩)

theorem lab_nm {v : D} (j : Nat) (h : PlainOk v.asStr) : LabOk [.str (nmB j), v] := ⟨nm_ok j, h⟩
set_option maxRecDepth 100000 in
theorem sLab (H1 : fStr.2 (Ψ 67)) (H2 : fOnce.2 (Ψ 42)) : ∃ φ, fLab.2 φ := drawB tok mixed (Φ := Ψ) (l := [g42, g67]) (by simp [gof (t := g42) H2.1, gof (t := g67) H1.1]) Tryz.func46 (by decide) (by kernel_rfl) (by decide) _ _ (by decide) (by decide) (by decide) v46_eq
    (fun _ h => by rw [h]; rfl) (fun _ _ => ⟨[.sl [[.str (nmB 0), .str ⟨#[]⟩]]], rfl, ⟨Nat.le_refl _, rfl⟩, by decide, by simp [D.asList, sumR, smL, nmB, ByteArray.size], setOk_one (lab_nm 0 (show PlainOk ⟨#[]⟩ by unfold PlainOk PlainB; decide +kernel))⟩) (fun c rest hc h => by
  subst h
  obtain ⟨b1, ⟨i, hi, e⟩, b3⟩ := dStr H1 (n := .sl [[.str ⟨#[97]⟩], [.str ⟨#[98]⟩], [.str ⟨#[99]⟩]]) hc (by decide) (by decide)
  have he : (cell (rowN [[D.str ⟨#[97]⟩], [.str ⟨#[98]⟩], [.str ⟨#[99]⟩]] i) 0).asStr.size ≤ 1 := by
    have hi : i < 3 := hi
    match i, hi with
    | 0, _ => decide
    | 1, _ => decide
    | 2, _ => decide
  have hp1 : PlainOk (cell (rowN [[D.str ⟨#[97]⟩], [.str ⟨#[98]⟩], [.str ⟨#[99]⟩]] i) 0).asStr := by
    have hi : i < 3 := hi
    match i, hi with
    | 0, _ => exact (show PlainOk ⟨#[97]⟩ by unfold PlainOk PlainB; decide +kernel)
    | 1, _ => exact (show PlainOk ⟨#[98]⟩ by unfold PlainOk PlainB; decide +kernel)
    | 2, _ => exact (show PlainOk ⟨#[99]⟩ by unfold PlainOk PlainB; decide +kernel)
  simp [v46, g46, RSh.cells, rLab, chunk, b1]
  refine wp_loop' (fun v => ∃ (i : Nat) (x b j h : D), v = [.int i, x, b, j, h] ∧ i ≤ 3 ∧ (1 ≤ x.asList.length ∧ (rowN x.asList 0).length = 2) ∧ x.asList.length ≤ 1 + i ∧ sumR (szDs kLabel) x.asList ≤ 16 * (1 + i) ∧ curR [b, j, h] ∧ SetOk x.asList ∧ ∃ k, k ≤ i ∧ (cell (rowN x.asList (x.asList.length - 1)) 0).asStr = nmB k) (fun v => 3 - (cell v 0).asInt.toNat)
    ⟨0, _, _, _, _, rfl, by omega, by simp [chunk], by simp [chunk], by simp [chunk, sumR, smL, e]; have : (ByteArray.size ⟨#[97, 112, 112]⟩) = 3 := rfl; omega, by simpa [chunk] using b3, by simp [chunk]; exact setOk_one (lab_nm 0 (by simp only [D.asList_sl] at e; rw [e]; exact hp1)), 0, Nat.le_refl _, by simp [chunk, rowN, nmB]⟩ ?_
  simp only [allN_succ, allN_zero, kinds_cons, kinds_nil]
  rintro d1 d2 d3 d4 d5 - - - - - ⟨i, x, b, j, h, hv, h1, h0, h2, h3, h4, h5, k0, h6, h7⟩
  simp only [List.cons.injEq, and_true] at hv
  obtain ⟨rfl, rfl, rfl, rfl, rfl⟩ := hv
  have o1 := dOnce H2 (c := .sl [[d3, d4, d5]]) (n := .int 4) h4
  obtain ⟨c1, ⟨k, hk, e2⟩, c3⟩ := dStr H1 (n := .sl [[.str ⟨#[49]⟩], [.str ⟨#[50]⟩]]) o1.2 (by decide) (by decide)
  have he2 : (cell (rowN [[D.str ⟨#[49]⟩], [.str ⟨#[50]⟩]] k) 0).asStr.size ≤ 1 := by
    have hk : k < 2 := hk
    match k, hk with
    | 0, _ => decide
    | 1, _ => decide
  have hp2 : PlainOk (cell (rowN [[D.str ⟨#[49]⟩], [.str ⟨#[50]⟩]] k) 0).asStr := by
    have hk : k < 2 := hk
    match k, hk with
    | 0, _ => exact (show PlainOk ⟨#[49]⟩ by unfold PlainOk PlainB; decide +kernel)
    | 1, _ => exact (show PlainOk ⟨#[50]⟩ by unfold PlainOk PlainB; decide +kernel)
  have hm : i < 3 → (cell (rowN [[D.str ⟨#[104, 111, 115, 116]⟩], [.str ⟨#[115, 101, 118]⟩], [.str ⟨#[122, 111, 110, 101]⟩]] i) 0).asStr = nmB (i + 1) := fun hi => by
    match i, hi with
    | 0, _ => rfl
    | 1, _ => rfl
    | 2, _ => rfl
  have hn : i < 3 → (cell (rowN [[D.str ⟨#[104, 111, 115, 116]⟩], [.str ⟨#[115, 101, 118]⟩], [.str ⟨#[122, 111, 110, 101]⟩]] i) 0).asStr.size ≤ 4 := fun hi => by
    match i, hi with
    | 0, _ => decide
    | 1, _ => decide
    | 2, _ => decide
  simp [chunk, o1, c1, Vx.rowAt, rLab]
  refine ⟨fun hi => ⟨⟨hi, by omega⟩, fun _ => ⟨by simp only [lenMax]; omega, ?_⟩, fun _ => ?_⟩, fun hi => ⟨⟨⟨by omega, h0.2⟩, by omega, by omega, h5⟩, h4⟩⟩
  · rw [w64 (by omega) (by omega)]
    refine ⟨⟨i + 1, _, _, _, _, ⟨by simp, rfl, rfl, rfl, rfl⟩, by omega, ⟨by simp, ?_⟩, by simp; omega, ?_, c3, ?_, i + 1, by omega, ?_⟩, by omega⟩
    · simp only [D.asList_sl]
      rw [row0_app h0.1]
      exact h0.2
    simp [sumR_append, sumR, smL, e2]
    · have := hn (by omega)
      omega
    · simp only [D.asList_sl]
      refine setOk_app h5 (by omega) ⟨?_, ?_⟩ fun h0 => ?_
      · simp only [cell_zero]; rw [hm (by omega)]; exact nm_ok _
      · simp only [cell_succ, cell_zero, e2]; exact hp2
      · simp only [cell_zero]; rw [hm (by omega), h7]; exact nm_less _ _ h6 (by omega)
    · simp only [D.asList_sl, List.length_append, List.length_singleton, Nat.add_sub_cancel]
      rw [row_end]
      simp only [cell_zero]
      exact hm (by omega)
  · rw [w64 (by omega) (by omega)]
    exact ⟨⟨i + 1, _, _, _, _, ⟨by simp, rfl, rfl, rfl, rfl⟩, by omega, h0, by omega, by omega, o1.2, h5, k0, by omega, h7⟩, by omega⟩)

end
end Go.Proofs.YthibophjhdoooaaGreatDoor


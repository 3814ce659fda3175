/-
  Draws: labels, alarms, lists; what the law is called with.
-/
import Derived.Test.YtpgpkomolheinaaSG
set_option linter.unusedVariables false
set_option linter.unusedSimpArgs false
namespace Go.Proofs.Ytpgpkomolheinaa
open Go.Vx

section
variable {Ψ : Fns}
set_option maxRecDepth 100000 in
theorem sAl (H1 : fBelow.2 (Ψ 93)) (H2 : fLab.2 (Ψ 95)) (H3 : fPlain.2 (Ψ 101)) (H4 : fInt.2 (Ψ 102)) : ∃ φ, fAl.2 φ := drawB tok mixed (Φ := Ψ) (l := [g93, g95, g101, g102]) (by simpa using ⟨gof (t := g93) H1.1, gof (t := g95) H2.1, gof (t := g101) H3.1, gof (t := g102) H4.1⟩) Try.func94 (by decide) (by kernel_rfl) (by decide) _ _ (by decide) (by decide) (by decide) v94_eq
    (fun _ h => by rw [h]; rfl) (fun _ _ => ⟨[.sl [], .int 0, .int 0, .str ⟨#[]⟩], rfl, by show szDs kAlarm _ ≤ 100; rw [smA]; exact (by decide : 0 + sumR (szDs kLabel) [] + ByteArray.size ⟨#[]⟩ ≤ 100)⟩) (fun c rest hc h => by
  subst h
  have a1 := dLab H2 hc
  have a2 := dBelow H1 (n := .int 8) a1.2.2
  have a3 := dPlain H3 a2.2.2
  have a4 := dInt H4 (n := .sl [[.int 0], [.int 2], [.int 5], [.int 20], [.int 60]]) a3.2.2 (by decide) (by decide)
  simp [v94, g94, RSh.cells, rAl, chunk, a1, a2, a3, a4, smA]
  omega)

set_option maxRecDepth 100000 in
theorem sList (H1 : fBelow.2 (Ψ 93)) (H2 : fAl.2 (Ψ 94)) : ∃ φ, fList.2 φ := drawB tok mixed (Φ := Ψ) (l := [g93, g94]) (by simpa using ⟨gof (t := g93) H1.1, gof (t := g94) H2.1⟩) Try.func82 (by decide) (by kernel_rfl) (by decide) _ _ (by decide) (by decide) (by decide) v82_eq
    (fun _ h => by rw [h]; rfl) (fun _ _ => ⟨[.sl []], rfl, by simp [rList, D.asList, sumR]⟩) (fun c rest hc h => by
  subst h
  have a1 := dBelow H1 (n := .int 6) hc
  have a2 := a1.2.1.2 (by decide)
  have a3 := a1.2.1.1
  simp only [D.asInt_int] at a2
  simp [v82, g82, RSh.cells, rList, a1]
  refine wp_loop' (fun v => ∃ (n x b j h : D), v = [n, x, b, j, h] ∧ 0 ≤ n.asInt ∧ x.asList.length + n.asInt.toNat ≤ 5 ∧ sumR (szDs kAlarm) x.asList ≤ 100 * x.asList.length ∧ curR [b, j, h]) (fun v => (cell v 0).asInt.toNat)
    ⟨_, _, _, _, _, rfl, a3, by simp [chunk]; omega, by simp [chunk, sumR], a1.2.2⟩ ?_
  simp only [allN_succ, allN_zero, kinds_cons, kinds_nil]
  rintro d1 d2 d3 d4 d5 - - - - - ⟨n, x, b, j, h, hv, h1, h2, h3, h4⟩
  simp only [List.cons.injEq, and_true] at hv
  obtain ⟨rfl, rfl, rfl, rfl, rfl⟩ := hv
  have o1 := dAl H2 (c := .sl [[d3, d4, d5]]) h4
  have o2 := o1.2.1
  rw [smA] at o2
  simp [chunk, o1, rList]
  refine ⟨fun hi => ⟨by simp only [lenMax]; omega, ?_⟩, fun hi => ⟨⟨by omega, by omega⟩, h4⟩⟩
  rw [w64 (by omega) (by omega)]
  refine ⟨⟨_, _, _, _, _, ⟨rfl, rfl, rfl, rfl, rfl⟩, by simp only [D.asInt_int]; omega, by simp; omega, ?_, o1.2.2⟩, by omega⟩
  simp [sumR_append, sumR, smA]
  omega)

end
end Go.Proofs.Ytpgpkomolheinaa


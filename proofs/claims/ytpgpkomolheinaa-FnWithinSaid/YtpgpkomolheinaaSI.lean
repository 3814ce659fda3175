/-
  Draws: labels, alarms, lists; what the law is called with.
-/
import Derived.Test.YtpgpkomolheinaaSG
set_option linter.unusedVariables false
set_option linter.unusedSimpArgs false
namespace Go.Proofs.Ytpgpkomolheinaa
open Go.Vx

section
variable {Ψ : Fns}
theorem row_sum {l : List (List D)} {p : List D → Nat} {i : Nat} (h : i < l.length) : p (rowN l i) ≤ sumR p l := by
  have := sumR_take p h
  have := sumR_take_le (p := p) (xs := l) (i := i + 1)
  omega

set_option maxRecDepth 100000 in
theorem sLbl (H1 : fBelow.2 (Ψ 93)) (H2 : fOnce.2 (Ψ 83)) (H3 : fLab.2 (Ψ 95)) : ∃ φ, fLbl.2 φ := drawB tok mixed (Φ := Ψ) (l := [g83, g93, g95]) (by simpa using ⟨gof (t := g83) H2.1, gof (t := g93) H1.1, gof (t := g95) H3.1⟩) Try.func84 (by decide) (by kernel_rfl) (by decide) _ _ (by decide) (by decide) (by decide) v84_eq
    (fun _ h => h.1) (fun _ _ => ⟨[.sl []], rfl, by simp [rLbl, D.asList]⟩) (fun c rest hc h => by
  obtain ⟨l, rfl⟩ : ∃ n, rest = [n] := by match rest, h.1 with | [n], _ => exact ⟨n, rfl⟩
  have h2 := h.2
  simp only [cell_zero] at h2
  have hc' : curOk (.sl [[cell c.row 0, cell c.row 1, cell c.row 2]]) := hc
  have a1 := dOnce H2 (n := .int 3) hc
  by_cases hl : (0 : Int) < l.asList.length
  · have a2 := dBelow H1 (c := .sl [[cell (Ψ 83 2000 [c, .int 3]).row 0, cell (Ψ 83 2000 [c, .int 3]).row 1, cell (Ψ 83 2000 [c, .int 3]).row 2]]) (n := .int l.asList.length) a1.2
    have a3 := a2.2.1.2 hl
    simp only [D.asInt_int] at a3
    have a4 := dLab H3 (c := .sl [[cell (Ψ 83 2000 [c, .int 3]).row 0, cell (Ψ 83 2000 [c, .int 3]).row 1, cell (Ψ 83 2000 [c, .int 3]).row 2]]) a1.2
    have a5 : (Ψ 93 0 [.sl [[cell (Ψ 83 2000 [c, .int 3]).row 0, cell (Ψ 83 2000 [c, .int 3]).row 1, cell (Ψ 83 2000 [c, .int 3]).row 2]], .int l.asList.length]).asInt.toNat < l.asList.length := by have := a2.2.1.1; omega
    have a6 := row_sum (p := szDs kAlarm) a5
    rw [smA] at a6
    have hl' : 0 < l.asList.length := by omega
    simp [v84, g84, RSh.cells, rLbl, chunk, a1, a2, a3, a4, hl', Vx.rowAt, lenMax]
    refine ⟨fun _ => ⟨by omega, by omega⟩, fun _ => by omega⟩
  · have a4 := dLab H3 (c := .sl [[cell c.row 0, cell c.row 1, cell c.row 2]]) hc
    have hl' : l.asList = [] := by cases hh : l.asList with | nil => rfl | cons x y => rw [hh] at hl; simp at hl
    simp [v84, g84, RSh.cells, rLbl, chunk, a1, a4, hl']
    omega)

end
end Go.Proofs.Ytpgpkomolheinaa


/-
  Draws: labels, alarms, lists; what the law is called with.
-/
import Derived.Test.YthibophjhdoooaaGreatDoorD2
set_option linter.unusedVariables false
set_option linter.unusedSimpArgs false
namespace Go.Proofs.YthibophjhdoooaaGreatDoor
open Go.Vx

theorem emp_ok : PlainOk ⟨#[]⟩ := by unfold PlainOk PlainB; decide +kernel

section
variable {Ψ : Fns}
set_option maxRecDepth 100000 in
theorem sAl (H1 : fBelow.2 (Ψ 26)) (H2 : fLab.2 (Ψ 46)) (H3 : fPlain.2 (Ψ 66)) (H4 : fInt.2 (Ψ 45)) : ∃ φ, fAl.2 φ := drawB tok mixed (Φ := Ψ) (l := [g26, g45, g46, g66]) (by simp [gof (t := g26) H1.1, gof (t := g46) H2.1, gof (t := g66) H3.1, gof (t := g45) H4.1]) Tryz.func44 (by decide) (by kernel_rfl) (by decide) _ _ (by decide) (by decide) (by decide) v44_eq
    (fun _ h => by rw [h]; rfl) (fun _ _ => ⟨[.sl [[.str (nmB 0), .str ⟨#[]⟩]], .int 0, .int 0, .str ⟨#[]⟩], rfl, by show szDs kAlarm _ ≤ 100; rw [smA]; exact (by decide : 1 + sumR (szDs kLabel) [[.str (nmB 0), .str ⟨#[]⟩]] + ByteArray.size ⟨#[]⟩ ≤ 100), ⟨setOk_one (lab_nm 0 emp_ok), Nat.one_pos⟩, by decide, by decide, emp_ok⟩) (fun c rest hc h => by
  subst h
  have a1 := dLab H2 hc
  have a2 := dBelow H1 (n := .int 8) a1.2.2
  have a3 := dPlain H3 a2.2.2
  have a4 := dInt H4 (n := .sl [[.int 0], [.int 2], [.int 5], [.int 20], [.int 60]]) a3.2.2 (by decide) (by decide)
  have s1 := dLabOk H2 hc
  have s2 := dPlainOk H3 a2.2.2
  have s3 := a2.2.1.2 (by decide)
  have s4 := a1.2.1.1.1
  have s5 : 0 ≤ (Ψ 45 0 [Ψ 66 2000 [Ψ 26 2000 [Ψ 46 2000 [c], .int 8]], .sl [[.int 0], [.int 2], [.int 5], [.int 20], [.int 60]]]).asInt ∧ (Ψ 45 0 [Ψ 66 2000 [Ψ 26 2000 [Ψ 46 2000 [c], .int 8]], .sl [[.int 0], [.int 2], [.int 5], [.int 20], [.int 60]]]).asInt ≤ 60 := by
    obtain ⟨i, hi, e⟩ := a4.2.1
    rw [e]
    have hi : i < 5 := hi
    match i, hi with
    | 0, _ => decide
    | 1, _ => decide
    | 2, _ => decide
    | 3, _ => decide
    | 4, _ => decide
  simp only [D.asInt_int] at s3
  simp [v44, g44, RSh.cells, rAl, chunk, a1, a2, a3, a4, smA]
  refine ⟨by omega, ⟨s1, s4⟩, ?_, ?_, s2⟩
  · simp only [cell_succ, cell_zero]
    omega
  · simp only [cell_succ, cell_zero, D.asInt_int]
    rw [w64 (by omega) (by omega)]
    omega)

end
end Go.Proofs.YthibophjhdoooaaGreatDoor


/-
  Draws: labels, alarms, lists; what the law is called with.
-/
import Derived.Test.YthibophjhdoooaaDoorD2
set_option linter.unusedVariables false
set_option linter.unusedSimpArgs false
namespace Go.Proofs.YthibophjhdoooaaDoor
open Go.Vx

section
variable {Ψ : Fns}
set_option maxRecDepth 100000 in
theorem sAl (H1 : fBelow.2 (Ψ 34)) (H2 : fLab.2 (Ψ 48)) (H3 : fPlain.2 (Ψ 49)) (H4 : fInt.2 (Ψ 36)) : ∃ φ, fAl.2 φ := drawB tok mixed (Φ := Ψ) (l := [g34, g36, g48, g49]) (by simp [gof (t := g34) H1.1, gof (t := g48) H2.1, gof (t := g49) H3.1, gof (t := g36) H4.1]) Tryd.func25 (by decide) (by kernel_rfl) (by decide) _ _ (by decide) (by decide) (by decide) v25_eq
    (fun _ h => by rw [h]; rfl) (fun _ _ => ⟨[.sl [], .int 0, .int 0, .str ⟨#[]⟩], rfl, by show szDs kAlarm _ ≤ 100; rw [smA]; exact (by decide : 0 + sumR (szDs kLabel) [] + ByteArray.size ⟨#[]⟩ ≤ 100)⟩) (fun c rest hc h => by
  subst h
  have a1 := dLab H2 hc
  have a2 := dBelow H1 (n := .int 8) a1.2.2
  have a3 := dPlain H3 a2.2.2
  have a4 := dInt H4 (n := .sl [[.int 0], [.int 2], [.int 5], [.int 20], [.int 60]]) a3.2.2 (by decide) (by decide)
  simp [v25, g25, RSh.cells, rAl, chunk, a1, a2, a3, a4, smA]
  omega)

end
end Go.Proofs.YthibophjhdoooaaDoor


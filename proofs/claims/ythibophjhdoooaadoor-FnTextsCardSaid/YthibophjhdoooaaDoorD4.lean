/-
  Draws: labels, alarms, lists; what the law is called with.
-/
import Derived.Test.YthibophjhdoooaaDoorD3
set_option linter.unusedVariables false
set_option linter.unusedSimpArgs false
namespace Go.Proofs.YthibophjhdoooaaDoor
open Go.Vx

section
variable {Ψ : Fns}
/-! What the law is called with. -/
abbrev qCode : List D → Prop := fun ds => (cell ds 0).asList.length ≤ 1048576
noncomputable abbrev fNew : Fact := (12, fun φ => Good1 Tryd.prog (fun _ => φ) g12 ∧ ∀ ds, ds.length = 1 → WFAs g12.args ds → qCode ds → (φ 1000 ds).asBool = true ∧ curR (φ 0 ds).row)
set_option maxRecDepth 100000 in
theorem sNew : ∃ φ, fNew.2 φ := drawN (q := (60, [.sl 5 [.int .u8], .int .i64, .int .i64])) tok mixed (Φ := Φ) (l := []) (by simp) Tryd.func12 (by decide) (by kernel_rfl) (by decide) qCode (fun _ r => curR r) (by decide) v12_eq
    (args1 fun a hw hp => by
  have hp : a.asList.length ≤ 1048576 := hp
  refine wp_loop' (fun v => ∃ (h : D) (i : Nat), v = [h, .int i] ∧ i ≤ a.asList.length) (fun v => a.asList.length - (cell v 1).asInt.toNat) ⟨_, 0, rfl, by omega⟩ ?_
  simp only [allN_succ, allN_zero, kinds_cons, kinds_nil]
  rintro d1 d2 - - ⟨h, i, hv, hi⟩
  simp only [List.cons.injEq, and_true] at hv
  obtain ⟨rfl, rfl⟩ := hv
  simp [curR, hp]
  refine fun h1 h2 => ⟨h1, ?_⟩
  rw [w64 (n := (i : Int) + 1) (by omega) (by omega)]
  exact ⟨⟨_, i + 1, ⟨rfl, by simp⟩, by omega⟩, by omega⟩) (fun _ _ _ => ⟨[.sl [], .int 0, .int 0], by simp [curR, D.asList, D.asInt]⟩)
theorem dNew (h : fNew.2 (Ψ 12)) {a : D} (hw : WFAs [.one (.sl 5 [.int .u8])] [a]) (ha : a.asList.length ≤ 1048576) : (Ψ 12 1000 [a]).asBool = true ∧ curOk (Ψ 12 0 [a]) := h.2 [a] rfl hw ha
end
end Go.Proofs.YthibophjhdoooaaDoor


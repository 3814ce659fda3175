/-
  What the law on texts is called with.
-/
import Derived.Test.YthibophjhdoooaaDoorD5
set_option linter.unusedVariables false
set_option linter.unusedSimpArgs false
namespace Go.Proofs.YthibophjhdoooaaDoor
open Go.Vx

abbrev qBend : List D → Prop := fun rest => rest.length = 1 ∧ (cell rest 0).asStr.size ≤ 1000
abbrev rBend : List D → List D → Prop := fun rest r => (cell r 0).asStr.size ≤ 1000
noncomputable abbrev fBend : Fact := (23, fun φ => Good1 Tryd.prog (fun _ => φ) g23 ∧ DrawF g23.rets qBend rBend φ)
abbrev rDA : List D → List D → Prop := fun _ r => r.length = 4
noncomputable abbrev fDA : Fact := (5, fun φ => Good1 Tryd.prog (fun _ => φ) g5 ∧ PlainF g5 qCode rDA φ)
abbrev rDP : List D → List D → Prop := fun _ r => r.length = 1 ∧ (cell r 0).asStr.size ≤ 1000
noncomputable abbrev fDP : Fact := (8, fun φ => Good1 Tryd.prog (fun _ => φ) g8 ∧ PlainF g8 qCode rDP φ)

section
variable {Ψ : Fns}
theorem dBend (h : fBend.2 (Ψ 23)) {c s : D} (hc : curOk c) (hs : s.asStr.size ≤ 1000) : (Ψ 23 1000 [c, s]).asBool = true ∧ (Ψ 23 0 [c, s]).asStr.size ≤ 1000 ∧ curOk (Ψ 23 2000 [c, s]) := h.2 c [s] hc ⟨rfl, hs⟩

set_option maxRecDepth 100000 in
theorem sDA (HN : fNew.2 (Ψ 12)) (HA : fAnyA.2 (Ψ 13)) : ∃ φ, fDA.2 φ :=
  drawR tok mixed (Φ := Ψ) (l := [g12, g13]) (by simp [gof (t := g12) HN.1, gof (t := g13) HA.1]) Tryd.func5 (by decide) (by kernel_rfl) (by decide) qCode rDA (by decide) v5_eq (args1 fun a hw hp => by
  have n1 := dNew HN hw hp
  have a1 := dAnyA HA n1.2
  simp [v5, n1, a1, rDA]) (fun _ _ _ => ⟨[.sl [], .int 0, .int 0, .str ⟨#[]⟩], rfl⟩) (fun _ _ h => h)

set_option maxRecDepth 100000 in
theorem sDP (HN : fNew.2 (Ψ 12)) (HO : fOnce.2 (Ψ 21)) (HS : fStr.2 (Ψ 22)) (HA : fAl.2 (Ψ 25)) (HB : fBend.2 (Ψ 23)) (hT : Ψ 24 = Φ 24) : ∃ φ, fDP.2 φ :=
  drawR tok mixed (Φ := Ψ) (l := [g12, g21, g22, g23, g24, g25]) (by simp [gof (t := g12) HN.1, gof (t := g21) HO.1, gof (t := g22) HS.1, gof (t := g23) HB.1, gof (t := g25) HA.1, ok24.tr hT]) Tryd.func8 (by decide) (by kernel_rfl) (by decide) qCode rDP (by decide) v8_eq (args1 fun a hw hp => by
  have n1 := dNew HN hw hp
  have o1 := dOnce HO (n := .int 4) n1.2
  obtain ⟨b1, ⟨i, hi, e⟩, b3⟩ := dStr HS (n := .sl [[.str ⟨#[]⟩], [.str ⟨#[123, 97, 112, 112, 61, 34, 97, 34, 125, 32, 49, 45, 50, 32, 34, 120, 34]⟩], [.str ⟨#[123, 97, 112, 112, 61, 34, 97, 34, 125, 32, 50, 45, 49, 32, 34, 120, 34]⟩], [.str ⟨#[123, 125, 32, 49, 45, 50, 32, 34, 120, 34]⟩], [.str ⟨#[123, 97, 112, 112, 61, 34, 97, 34, 125, 32, 48, 49, 45, 50, 32, 34, 120, 34]⟩], [.str ⟨#[123, 97, 112, 112, 61, 34, 97, 34, 125, 32, 49, 45, 50, 32, 120]⟩], [.str ⟨#[123, 97, 112, 112, 61, 34, 97, 34, 125, 32, 49, 45, 50]⟩], [.str ⟨#[123, 97, 112, 112, 61, 34, 97, 34, 125, 49, 45, 50, 32, 34, 120, 34]⟩], [.str ⟨#[123, 97, 112, 112, 61, 34, 97, 34, 125, 32, 49, 45, 50, 32, 34, 120, 34, 32]⟩], [.str ⟨#[123, 97, 112, 112, 61, 34, 125, 34, 125, 32, 49, 45, 50, 32, 34, 120, 34]⟩], [.str ⟨#[123, 97, 112, 112, 61, 34, 97, 34, 125, 32, 49, 45, 49, 48, 48, 48, 48, 48, 32, 34, 120, 34]⟩]]) o1.2 (by decide) (by decide)
  have hle := str_le (m := 1000) (by decide) hi
  have a1 := dAl HA o1.2
  have hT' : Ψ 24 = mAlT := hT
  have hb : ∀ r, curOk (Ψ 25 2000 [Ψ 21 2000 [Ψ 12 0 [a], .int 4]]) → (Ψ 23 1000 [Ψ 25 2000 [Ψ 21 2000 [Ψ 12 0 [a], .int 4]], .str (alT r)]).asBool = true ∧ (Ψ 23 0 [Ψ 25 2000 [Ψ 21 2000 [Ψ 12 0 [a], .int 4]], .str (alT r)]).asStr.size ≤ 1000 := fun r hc => by
    have := dBend HB hc (s := .str (alT r)) (by have := alT_size r; simp only [D.asStr_str]; omega)
    exact ⟨this.1, this.2.1⟩
  have hb' := fun r => hb r a1.2.2
  simp only [D.asList_sl] at e hle
  simp [v8, n1, o1, b1, e, hle, a1, hT', mAlT, hb', chunk, rDP]) (fun _ _ _ => ⟨[.str ⟨#[]⟩], rfl, (by decide : ByteArray.size ⟨#[]⟩ ≤ 1000)⟩) (fun _ _ h => h.1)
end
end Go.Proofs.YthibophjhdoooaaDoor


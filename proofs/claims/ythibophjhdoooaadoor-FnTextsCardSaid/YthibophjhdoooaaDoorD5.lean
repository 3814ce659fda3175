/-
  Draws: odd numbers, any texts, any labels, any alarm.
-/
import Derived.Test.YthibophjhdoooaaDoorD4
set_option linter.unusedVariables false
set_option linter.unusedSimpArgs false
namespace Go.Proofs.YthibophjhdoooaaDoor
open Go.Vx

theorem row_sum {l : List (List D)} {p : List D → Nat} {i : Nat} (h : i < l.length) : p (rowN l i) ≤ sumR p l := by
  have := sumR_take p h
  have := sumR_take_le (p := p) (xs := l) (i := i + 1)
  omega
theorem str_le {L : List (List D)} {m : Nat} (h : (L.all fun r => decide ((cell r 0).asStr.size ≤ m)) = true) {i : Nat} (hi : i < L.length) : (cell (rowN L i) 0).asStr.size ≤ m := by
  have := List.all_eq_true.1 h _ (rowN_mem hi)
  simpa using this
abbrev qOdd : List D → Prop := fun rest => rest = []
abbrev rOdd : List D → List D → Prop := fun rest r => True
noncomputable abbrev fOdd : Fact := (54, fun φ => Good1 Tryd.prog (fun _ => φ) g54 ∧ DrawF g54.rets qOdd rOdd φ)
abbrev qRaw : List D → Prop := fun rest => rest = []
abbrev rRaw : List D → List D → Prop := fun rest r => True
noncomputable abbrev fRaw : Fact := (37, fun φ => Good1 Tryd.prog (fun _ => φ) g37 ∧ DrawF g37.rets qRaw rRaw φ)
abbrev qNames : List D → Prop := fun rest => rest = []
abbrev rNames : List D → List D → Prop := fun rest r => (cell r 0).asStr.size ≤ 16
noncomputable abbrev fNames : Fact := (66, fun φ => Good1 Tryd.prog (fun _ => φ) g66 ∧ DrawF g66.rets qNames rNames φ)
abbrev qAnyN : List D → Prop := fun rest => rest = []
abbrev rAnyN : List D → List D → Prop := fun rest r => (cell r 0).asStr.size ≤ 16
noncomputable abbrev fAnyN : Fact := (53, fun φ => Good1 Tryd.prog (fun _ => φ) g53 ∧ DrawF g53.rets qAnyN rAnyN φ)
abbrev qAnyP : List D → Prop := fun rest => rest = []
abbrev rAnyP : List D → List D → Prop := fun rest r => (cell r 0).asStr.size ≤ 16
noncomputable abbrev fAnyP : Fact := (38, fun φ => Good1 Tryd.prog (fun _ => φ) g38 ∧ DrawF g38.rets qAnyP rAnyP φ)
abbrev qLabs : List D → Prop := fun rest => rest = []
abbrev rLabs : List D → List D → Prop := fun rest r => (cell r 0).asList.length ≤ 8 ∧ sumR (szDs kLabel) (cell r 0).asList ≤ 200
noncomputable abbrev fLabs : Fact := (35, fun φ => Good1 Tryd.prog (fun _ => φ) g35 ∧ DrawF g35.rets qLabs rLabs φ)
abbrev qAnyA : List D → Prop := fun rest => rest = []
abbrev rAnyA : List D → List D → Prop := fun rest r => szDs kAlarm r ≤ 400
noncomputable abbrev fAnyA : Fact := (13, fun φ => Good1 Tryd.prog (fun _ => φ) g13 ∧ DrawF g13.rets qAnyA rAnyA φ)

section
variable {Ψ : Fns}
theorem dOdd (h : fOdd.2 (Ψ 54)) {c : D} (hc : curOk c) : (Ψ 54 1000 [c]).asBool = true ∧ curOk (Ψ 54 2000 [c]) := ⟨(h.2 c [] hc rfl).1, (h.2 c [] hc rfl).2.2⟩
theorem dRaw (h : fRaw.2 (Ψ 37)) {c : D} (hc : curOk c) : (Ψ 37 1000 [c]).asBool = true ∧ curOk (Ψ 37 2000 [c]) := ⟨(h.2 c [] hc rfl).1, (h.2 c [] hc rfl).2.2⟩
theorem dNames (h : fNames.2 (Ψ 66)) {c : D} (hc : curOk c) : (Ψ 66 1000 [c]).asBool = true ∧ (Ψ 66 0 [c]).asStr.size ≤ 16 ∧ curOk (Ψ 66 2000 [c]) := h.2 c [] hc rfl
theorem dAnyN (h : fAnyN.2 (Ψ 53)) {c : D} (hc : curOk c) : (Ψ 53 1000 [c]).asBool = true ∧ (Ψ 53 0 [c]).asStr.size ≤ 16 ∧ curOk (Ψ 53 2000 [c]) := h.2 c [] hc rfl
theorem dAnyP (h : fAnyP.2 (Ψ 38)) {c : D} (hc : curOk c) : (Ψ 38 1000 [c]).asBool = true ∧ (Ψ 38 0 [c]).asStr.size ≤ 16 ∧ curOk (Ψ 38 2000 [c]) := h.2 c [] hc rfl
theorem dLabs (h : fLabs.2 (Ψ 35)) {c : D} (hc : curOk c) : (Ψ 35 1000 [c]).asBool = true ∧ ((Ψ 35 0 [c]).asList.length ≤ 8 ∧ sumR (szDs kLabel) (Ψ 35 0 [c]).asList ≤ 200) ∧ curOk (Ψ 35 2000 [c]) := h.2 c [] hc rfl
theorem dAnyA (h : fAnyA.2 (Ψ 13)) {c : D} (hc : curOk c) : (Ψ 13 1000 [c]).asBool = true ∧ szDs kAlarm (Ψ 13 0 [c]).row ≤ 400 ∧ curOk (Ψ 13 2000 [c]) := by
  obtain ⟨h1, h2, h3⟩ := h.2 c [] hc rfl
  refine ⟨h1, ?_, h3⟩
  simpa [g13, rAnyA, smA, RSh.ds, List.range, List.range.loop, cell] using h2

set_option maxRecDepth 100000 in
theorem sOdd (H0 : fInt.2 (Ψ 36)) : ∃ φ, fOdd.2 φ := drawB tok mixed (Φ := Ψ) (l := [g36]) (by simp [gof (t := g36) H0.1]) Tryd.func54 (by decide) (by kernel_rfl) (by decide) _ _ (by decide) (by decide) (by decide) v54_eq
    (fun _ h => by rw [h]; rfl) (fun _ _ => ⟨[.int 0], rfl, trivial⟩) (fun c rest hc h => by
  subst h
  have a1 := dInt H0 (n := .sl [[.int (-1)], [.int 0], [.int 1], [.int 2], [.int 255], [.int 256], [.int 65535], [.int 2147483647], [.int 2147483648], [.int 4294967295], [.int 4294967296], [.int (-2147483648)], [.int 9223372036854775807], [.int (-9223372036854775808)]]) hc (by decide) (by decide)
  simp [v54, g54, RSh.cells, rOdd, chunk, a1])

set_option maxRecDepth 100000 in
theorem sRaw (H0 : fOnce.2 (Ψ 21)) (H1 : fOdd.2 (Ψ 54)) (H2 : fInt.2 (Ψ 36)) : ∃ φ, fRaw.2 φ := drawB tok mixed (Φ := Ψ) (l := [g21, g36, g54]) (by simp [gof (t := g21) H0.1, gof (t := g54) H1.1, gof (t := g36) H2.1]) Tryd.func37 (by decide) (by kernel_rfl) (by decide) _ _ (by decide) (by decide) (by decide) v37_eq
    (fun _ h => by rw [h]; rfl) (fun _ _ => ⟨[.int 0], rfl, trivial⟩) (fun c rest hc h => by
  subst h
  have a1 := dOnce H0 (n := .int 2) hc
  have a2 := dOdd H1 a1.2
  have a3 := dInt H2 (n := .sl [[.int (-1)], [.int 0], [.int 1], [.int 3], [.int 99999], [.int 100000]]) a1.2 (by decide) (by decide)
  simp [v37, g37, RSh.cells, rRaw, chunk, a1, a2, a3])

set_option maxRecDepth 100000 in
theorem sNames (H0 : fStr.2 (Ψ 22)) : ∃ φ, fNames.2 φ := drawB tok mixed (Φ := Ψ) (l := [g22]) (by simp [gof (t := g22) H0.1]) Tryd.func66 (by decide) (by kernel_rfl) (by decide) _ _ (by decide) (by decide) (by decide) v66_eq
    (fun _ h => by rw [h]; rfl) (fun _ _ => ⟨[.str ⟨#[]⟩], rfl, (by decide : ByteArray.size ⟨#[]⟩ ≤ 16)⟩) (fun c rest hc h => by
  subst h
  obtain ⟨b1, ⟨i, hi, e⟩, b3⟩ := dStr H0 (n := .sl [[.str ⟨#[97, 112, 112]⟩], [.str ⟨#[104, 111, 115, 116]⟩], [.str ⟨#[115, 101, 118]⟩], [.str ⟨#[122, 111, 110, 101]⟩]]) hc (by decide) (by decide)
  have := str_le (m := 16) (by decide) hi
  simp only [D.asList_sl] at this e
  simp [v66, g66, RSh.cells, rNames, chunk, b1, b3, e, this])

set_option maxRecDepth 100000 in
theorem sAnyN (H0 : fOnce.2 (Ψ 21)) (H1 : fNames.2 (Ψ 66)) (H2 : fStr.2 (Ψ 22)) : ∃ φ, fAnyN.2 φ := drawB tok mixed (Φ := Ψ) (l := [g21, g22, g66]) (by simp [gof (t := g21) H0.1, gof (t := g66) H1.1, gof (t := g22) H2.1]) Tryd.func53 (by decide) (by kernel_rfl) (by decide) _ _ (by decide) (by decide) (by decide) v53_eq
    (fun _ h => by rw [h]; rfl) (fun _ _ => ⟨[.str ⟨#[]⟩], rfl, (by decide : ByteArray.size ⟨#[]⟩ ≤ 16)⟩) (fun c rest hc h => by
  subst h
  have a1 := dOnce H0 (n := .int 2) hc
  have a2 := dNames H1 a1.2
  obtain ⟨b1, ⟨i, hi, e⟩, b3⟩ := dStr H2 (n := .sl [[.str ⟨#[]⟩], [.str ⟨#[65]⟩], [.str ⟨#[110, 105, 110, 101, 99, 104, 97, 114, 115]⟩], [.str ⟨#[101, 105, 103, 104, 116, 97, 98, 99]⟩], [.str ⟨#[97, 32, 98]⟩], [.str ⟨#[97, 49]⟩]]) a1.2 (by decide) (by decide)
  have := str_le (m := 16) (by decide) hi
  simp only [D.asList_sl] at this e
  simp [v53, g53, RSh.cells, rAnyN, chunk, a1, a2, b1, b3, e, this])

set_option maxRecDepth 100000 in
theorem sAnyP (H0 : fOnce.2 (Ψ 21)) (H1 : fPlain.2 (Ψ 49)) (H2 : fStr.2 (Ψ 22)) : ∃ φ, fAnyP.2 φ := drawB tok mixed (Φ := Ψ) (l := [g21, g22, g49]) (by simp [gof (t := g21) H0.1, gof (t := g49) H1.1, gof (t := g22) H2.1]) Tryd.func38 (by decide) (by kernel_rfl) (by decide) _ _ (by decide) (by decide) (by decide) v38_eq
    (fun _ h => by rw [h]; rfl) (fun _ _ => ⟨[.str ⟨#[]⟩], rfl, (by decide : ByteArray.size ⟨#[]⟩ ≤ 16)⟩) (fun c rest hc h => by
  subst h
  have a1 := dOnce H0 (n := .int 2) hc
  have a2 := dPlain H1 a1.2
  obtain ⟨b1, ⟨i, hi, e⟩, b3⟩ := dStr H2 (n := .sl [[.str ⟨#[34]⟩], [.str ⟨#[92]⟩], [.str ⟨#[127]⟩], [.str ⟨#[31]⟩], [.str ⟨#[116, 119, 101, 108, 118, 101, 32, 98, 121, 116, 101, 115]⟩], [.str ⟨#[116, 104, 105, 114, 116, 101, 101, 110, 98, 121, 116, 101, 115]⟩], [.str ⟨#[126]⟩], [.str ⟨#[125]⟩], [.str ⟨#[44, 32, 98, 61]⟩], [.str ⟨#[125, 32, 49, 45, 50]⟩]]) a1.2 (by decide) (by decide)
  have := str_le (m := 16) (by decide) hi
  simp only [D.asList_sl] at this e
  simp [v38, g38, RSh.cells, rAnyP, chunk, a1, a2, b1, b3, e, this])

set_option maxRecDepth 100000 in
theorem sLabs (H0 : fLab.2 (Ψ 48)) (H1 : fBelow.2 (Ψ 34)) (H2 : fAnyN.2 (Ψ 53)) (H3 : fAnyP.2 (Ψ 38)) : ∃ φ, fLabs.2 φ := drawB tok mixed (Φ := Ψ) (l := [g34, g38, g48, g53]) (by simp [gof (t := g48) H0.1, gof (t := g34) H1.1, gof (t := g53) H2.1, gof (t := g38) H3.1]) Tryd.func35 (by decide) (by kernel_rfl) (by decide) _ _ (by decide) (by decide) (by decide) v35_eq
    (fun _ h => by rw [h]; rfl) (fun _ _ => ⟨[.sl []], rfl, by simp [rLabs, D.asList, sumR]⟩) (fun c rest hc h => by
  subst h
  obtain ⟨a0, ⟨⟨a1, a2⟩, a3, a4⟩, a5⟩ := dLab H0 hc
  have b1 := dBelow H1 (n := .int 10) a5
  have b2 := dAnyN H2 b1.2.2
  have b3 := dAnyP H3 b2.2.2
  have b4 := dAnyP H3 b1.2.2
  have a1' : 0 < (Ψ 48 0 [c]).asList.length := a1
  have hr := row_sum (p := szDs kLabel) a1'
  have hr2 := hr
  rw [smL] at hr2
  have hset : ∀ x : List D, sumR (szDs kLabel) ((Ψ 48 0 [c]).asList.set 0 x) ≤ 64 + szDs kLabel x := fun x => by
    cases hL : (Ψ 48 0 [c]).asList with
    | nil => simp [sumR]
    | cons y ys => rw [hL] at a4; simp [sumR] at a4 ⊢; omega
  have z1 : ByteArray.size ⟨#[122, 122]⟩ = 2 := rfl
  have z2 : ByteArray.size ⟨#[49]⟩ = 1 := rfl
  have z3 : ByteArray.size ⟨#[122, 117]⟩ = 2 := rfl
  have z4 : ByteArray.size ⟨#[]⟩ = 0 := rfl
  have z5 : ByteArray.size ⟨#[122, 118]⟩ = 2 := rfl
  have z6 : ByteArray.size ⟨#[122, 119]⟩ = 2 := rfl
  have z7 : ByteArray.size ⟨#[122, 120]⟩ = 2 := rfl
  have hs := hset [cell (rowN (Ψ 48 0 [c]).asList 0) 0, Ψ 38 0 [Ψ 34 2000 [Ψ 48 2000 [c], .int 10]]]
  simp only [smL, cell_zero, cell_succ] at hs
  obtain ⟨p, q, hpq⟩ : ∃ p q, rowN (Ψ 48 0 [c]).asList 0 = [p, q] := by
    match rowN (Ψ 48 0 [c]).asList 0, a2 with
    | [p, q], _ => exact ⟨p, q, rfl⟩
  simp [hpq] at hr2 hs
  simp [v35, g35, RSh.cells, rLabs, chunk, a0, a1', a2, a5, b1, b2, b3, b4, lenMax, sumR_append, sumR, smL, Vx.rowAt, hpq, z1, z2, z3, z4, z5, z6, z7]
  have c2 := b2.2.1
  have c3 := b3.2.1
  have c4 := b4.2.1
  have c5 := b1.2.1
  omega)

set_option maxRecDepth 100000 in
theorem sAnyA (H0 : fAl.2 (Ψ 25)) (H1 : fBelow.2 (Ψ 34)) (H2 : fLabs.2 (Ψ 35)) (H3 : fInt.2 (Ψ 36)) (H4 : fRaw.2 (Ψ 37)) (H5 : fAnyP.2 (Ψ 38)) : ∃ φ, fAnyA.2 φ := drawB tok mixed (Φ := Ψ) (l := [g25, g34, g35, g36, g37, g38]) (by simp [gof (t := g25) H0.1, gof (t := g34) H1.1, gof (t := g35) H2.1, gof (t := g36) H3.1, gof (t := g37) H4.1, gof (t := g38) H5.1]) Tryd.func13 (by decide) (by kernel_rfl) (by decide) _ _ (by decide) (by decide) (by decide) v13_eq
    (fun _ h => by rw [h]; rfl) (fun _ _ => ⟨[.sl [], .int 0, .int 0, .str ⟨#[]⟩], rfl, by show szDs kAlarm _ ≤ 400; rw [smA]; exact (by decide : 0 + sumR (szDs kLabel) [] + ByteArray.size ⟨#[]⟩ ≤ 400)⟩) (fun c rest hc h => by
  subst h
  have a0 := dAl H0 hc
  have b1 := dBelow H1 (n := .int 12) a0.2.2
  have b2 := dLabs H2 b1.2.2
  have b3 := dInt H3 (n := .sl [[.int (-1)], [.int 99999], [.int 100000]]) b1.2.2 (by decide) (by decide)
  have b4 := dRaw H4 b1.2.2
  have b5 := dAnyP H5 b1.2.2
  have a1 := a0.2.1
  rw [smA] at a1
  simp [v13, g13, RSh.cells, rAnyA, chunk, a0, b1, b2, b3, b4, b5, smA]
  omega)
end
end Go.Proofs.YthibophjhdoooaaDoor


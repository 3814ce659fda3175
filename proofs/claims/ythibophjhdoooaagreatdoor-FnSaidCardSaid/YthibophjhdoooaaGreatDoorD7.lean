/-
  Draws: lists, groups, listeners, tasks, deeds.
-/
import Derived.Test.YthibophjhdoooaaGreatDoorD6
set_option linter.unusedVariables false
set_option linter.unusedSimpArgs false
namespace Go.Proofs.YthibophjhdoooaaGreatDoor
open Go.Vx

theorem dpost_5 {Q : List D → Prop} {x0 x1 x2 x3 x4 b i h : D} : dpost 5 Q [x0, x1, x2, x3, x4, b, i, h] = (Q [x0, x1, x2, x3, x4] ∧ curR [b, i, h]) := dpost_of (r := [x0, x1, x2, x3, x4]) rfl
theorem dpost_12 {Q : List D → Prop} {x0 x1 x2 x3 x4 x5 x6 x7 x8 x9 x10 x11 b i h : D} : dpost 12 Q [x0, x1, x2, x3, x4, x5, x6, x7, x8, x9, x10, x11, b, i, h] = (Q [x0, x1, x2, x3, x4, x5, x6, x7, x8, x9, x10, x11] ∧ curR [b, i, h]) := dpost_of (r := [x0, x1, x2, x3, x4, x5, x6, x7, x8, x9, x10, x11]) rfl
theorem dpost_15 {Q : List D → Prop} {x0 x1 x2 x3 x4 x5 x6 x7 x8 x9 x10 x11 x12 x13 x14 b i h : D} : dpost 15 Q [x0, x1, x2, x3, x4, x5, x6, x7, x8, x9, x10, x11, x12, x13, x14, b, i, h] = (Q [x0, x1, x2, x3, x4, x5, x6, x7, x8, x9, x10, x11, x12, x13, x14] ∧ curR [b, i, h]) := dpost_of (r := [x0, x1, x2, x3, x4, x5, x6, x7, x8, x9, x10, x11, x12, x13, x14]) rfl
noncomputable abbrev fList : Fact := (27, fun φ => Good1 Tryz.prog (fun _ => φ) g27 ∧ DrawF g27.rets qList rList φ)
abbrev qBy : List D → Prop := fun rest => rest = []
abbrev rBy : List D → List D → Prop := fun rest r => (cell r 0).asList.length ≤ 2
noncomputable abbrev fBy : Fact := (25, fun φ => Good1 Tryz.prog (fun _ => φ) g25 ∧ DrawF g25.rets qBy rBy φ)
abbrev qGDraw : List D → Prop := fun rest => rest.length = 1 ∧ (cell rest 0).asList.length ≤ 1000
abbrev rGDraw : List D → List D → Prop := fun rest r => (cell r 1).asList.length ≤ 100 ∧ lsz 10 5000 (cell r 4)
noncomputable abbrev fGDraw : Fact := (53, fun φ => Good1 Tryz.prog (fun _ => φ) g53 ∧ DrawF g53.rets qGDraw rGDraw φ)
abbrev qGAny : List D → Prop := fun rest => rest.length = 1 ∧ (cell rest 0).asList.length ≤ 1000
abbrev rGAny : List D → List D → Prop := fun rest r => (cell r 1).asList.length ≤ 1000 ∧ lsz 1000 100000 (cell r 4)
noncomputable abbrev fGAny : Fact := (24, fun φ => Good1 Tryz.prog (fun _ => φ) g24 ∧ DrawF g24.rets qGAny rGAny φ)
abbrev qSDraw : List D → Prop := fun rest => rest = []
abbrev rSDraw : List D → List D → Prop := fun rest r => lsz 10 5000 (cell r 0)
noncomputable abbrev fSDraw : Fact := (56, fun φ => Good1 Tryz.prog (fun _ => φ) g56 ∧ DrawF g56.rets qSDraw rSDraw φ)
abbrev qSAny : List D → Prop := fun rest => rest = []
abbrev rSAny : List D → List D → Prop := fun rest r => (cell r 0).asList.length ≤ 1000
noncomputable abbrev fSAny : Fact := (28, fun φ => Good1 Tryz.prog (fun _ => φ) g28 ∧ DrawF g28.rets qSAny rSAny φ)
abbrev qTAny : List D → Prop := fun rest => rest = []
abbrev rTAny : List D → List D → Prop := fun rest r => True
noncomputable abbrev fTAny : Fact := (22, fun φ => Good1 Tryz.prog (fun _ => φ) g22 ∧ DrawF g22.rets qTAny rTAny φ)
abbrev qDAny : List D → Prop := fun rest => rest = []
abbrev rDAny : List D → List D → Prop := fun rest r => True
noncomputable abbrev fDAny : Fact := (21, fun φ => Good1 Tryz.prog (fun _ => φ) g21 ∧ DrawF g21.rets qDAny rDAny φ)

section
variable {Ψ : Fns}
theorem dList (h : fList.2 (Ψ 27)) {c : D} (hc : curOk c) : (Ψ 27 1000 [c]).asBool = true ∧ ((Ψ 27 0 [c]).asList.length ≤ 5 ∧ sumR (szDs kAlarm) (Ψ 27 0 [c]).asList ≤ 500) ∧ curOk (Ψ 27 2000 [c]) := ⟨(h.2 c [] hc rfl).1, ⟨(h.2 c [] hc rfl).2.1.1, (h.2 c [] hc rfl).2.1.2.1⟩, (h.2 c [] hc rfl).2.2⟩
theorem dListOk (h : fList.2 (Ψ 27)) {c : D} (hc : curOk c) : ∀ x ∈ (Ψ 27 0 [c]).asList, AlOk x := (h.2 c [] hc rfl).2.1.2.2
theorem alOk_row {d : D} (h : AlOk d.row) : AlOk [.sl (cell d.row 0).asList, cell d.row 1, cell d.row 2, cell d.row 3] := h
set_option maxRecDepth 100000 in
theorem sList (H1 : fBelow.2 (Ψ 26)) (H2 : fAl.2 (Ψ 44)) : ∃ φ, fList.2 φ := drawB tok mixed (Φ := Ψ) (l := [g26, g44]) (by simp [gof (t := g26) H1.1, gof (t := g44) H2.1]) Tryz.func27 (by decide) (by kernel_rfl) (by decide) _ _ (by decide) (by decide) (by decide) v27_eq
    (fun _ h => by rw [h]; rfl) (fun _ _ => ⟨[.sl []], rfl, by simp [rList, D.asList, sumR]⟩) (fun c rest hc h => by
  subst h
  have a1 := dBelow H1 (n := .int 6) hc
  have a2 := a1.2.1.2 (by decide)
  have a3 := a1.2.1.1
  simp only [D.asInt_int] at a2
  simp [v27, g27, RSh.cells, rList, a1]
  refine wp_loop' (fun v => ∃ (n x b j h : D), v = [n, x, b, j, h] ∧ 0 ≤ n.asInt ∧ x.asList.length + n.asInt.toNat ≤ 5 ∧ sumR (szDs kAlarm) x.asList ≤ 100 * x.asList.length ∧ curR [b, j, h] ∧ ∀ y ∈ x.asList, AlOk y) (fun v => (cell v 0).asInt.toNat)
    ⟨_, _, _, _, _, rfl, a3, by simp [chunk]; omega, by simp [chunk, sumR], a1.2.2, by simp [chunk]⟩ ?_
  simp only [allN_succ, allN_zero, kinds_cons, kinds_nil]
  rintro d1 d2 d3 d4 d5 - - - - - ⟨n, x, b, j, h, hv, h1, h2, h3, h4, h5⟩
  simp only [List.cons.injEq, and_true] at hv
  obtain ⟨rfl, rfl, rfl, rfl, rfl⟩ := hv
  have o1 := dAl H2 (c := .sl [[d3, d4, d5]]) h4
  have o2 := o1.2.1
  rw [smA] at o2
  have o3 := alOk_row (dAlOk H2 (c := .sl [[d3, d4, d5]]) h4)
  simp [chunk, o1, rList]
  refine ⟨fun hi => ⟨by simp only [lenMax]; omega, ?_⟩, fun hi => ⟨⟨by omega, by omega, h5⟩, h4⟩⟩
  rw [w64 (by omega) (by omega)]
  refine ⟨⟨_, _, _, _, _, ⟨rfl, rfl, rfl, rfl, rfl⟩, by simp only [D.asInt_int]; omega, by simp; omega, ?_, o1.2.2, ?_⟩, by omega⟩
  · simp [sumR_append, sumR, smA]
    omega
  · simp only [D.asList_sl]
    intro y hy
    rcases List.mem_append.1 hy with hy | hy
    · exact h5 y hy
    · obtain rfl := List.mem_singleton.1 hy
      exact o3)

theorem dBy (h : fBy.2 (Ψ 25)) {c : D} (hc : curOk c) : (Ψ 25 1000 [c]).asBool = true ∧ (Ψ 25 0 [c]).asList.length ≤ 2 ∧ curOk (Ψ 25 2000 [c]) := h.2 c [] hc rfl

set_option maxRecDepth 100000 in
set_option maxHeartbeats 2000000 in
theorem sBy (H0 : fBelow.2 (Ψ 26)) : ∃ φ, fBy.2 φ := drawB tok mixed (Φ := Ψ) (l := [g26]) (by simp [gof (t := g26) H0.1]) Tryz.func25 (by decide) (by kernel_rfl) (by decide) _ _ (by decide) (by decide) (by decide) v25_eq
    (fun _ h => by rw [h]; rfl) (fun _ _ => ⟨[.sl []], rfl, by simp [rBy]⟩) (fun c rest hc h => by
  subst h
  have a1 := dBelow H0 (n := .int 5) hc
  simp [v25, g25, RSh.cells, rBy, chunk, a1])

set_option maxRecDepth 100000 in
set_option maxHeartbeats 2000000 in
theorem sSDraw (H0 : fBelow.2 (Ψ 26)) (H1 : fAl.2 (Ψ 44)) (H2 : fTell.2 (Ψ 75)) : ∃ φ, fSDraw.2 φ := drawB tok mixed (Φ := Ψ) (l := [g26, g44, g75]) (by simp [gof (t := g26) H0.1, gof (t := g44) H1.1, gof (t := g75) H2.1]) Tryz.func56 (by decide) (by kernel_rfl) (by decide) _ _ (by decide) (by decide) (by decide) v56_eq
    (fun _ h => by rw [h]; rfl) (fun _ _ => ⟨[.sl [], .bool false], rfl, by simp [rSDraw, lsz, sumR]⟩) (fun c rest hc h => by
  subst h
  have a1 := dBelow H0 (n := .int 6) hc
  have a2 := a1.2.1.2 (by decide)
  have a3 := a1.2.1.1
  simp only [D.asInt_int] at a2
  simp [v56, g56, RSh.cells, a1]
  refine wp_loop' (fun v => ∃ (n x t b j h : D), v = [n, x, t, b, j, h] ∧ 0 ≤ n.asInt ∧ x.asList.length + n.asInt.toNat ≤ 5 ∧ sumR (szDs kAlarm) x.asList + 100 * n.asInt.toNat ≤ 500 ∧ curR [b, j, h]) (fun v => (cell v 0).asInt.toNat)
    ⟨_, _, _, _, _, _, rfl, a3, by simp; omega, by simp [sumR]; omega, a1.2.2⟩ ?_
  simp only [allN_succ, allN_zero, kinds_cons, kinds_nil]
  rintro d1 d2 d3 d4 d5 d6 - - - - - - ⟨n, x, t, b, j, h, hv, h1, h2, h3, h4⟩
  simp only [List.cons.injEq, and_true] at hv
  obtain ⟨rfl, rfl, rfl, rfl, rfl, rfl⟩ := hv
  have o1 := dAl H1 (c := .sl [[d4, d5, d6]]) h4
  have o2 := o1.2.1
  have hz : szDs kAlarm [.sl (cell (Ψ 44 0 [.sl [[d4, d5, d6]]]).row 0).asList, cell (Ψ 44 0 [.sl [[d4, d5, d6]]]).row 1, cell (Ψ 44 0 [.sl [[d4, d5, d6]]]).row 2, cell (Ψ 44 0 [.sl [[d4, d5, d6]]]).row 3] = szDs kAlarm (Ψ 44 0 [.sl [[d4, d5, d6]]]).row := by rw [smA, smA]; simp
  obtain ⟨t1, -, t2, t3⟩ := H2.2 [.sl [[.sl d2.asList, d3]], .sl [[.sl (cell (Ψ 44 0 [.sl [[d4, d5, d6]]]).row 0).asList, cell (Ψ 44 0 [.sl [[d4, d5, d6]]]).row 1, cell (Ψ 44 0 [.sl [[d4, d5, d6]]]).row 2, cell (Ψ 44 0 [.sl [[d4, d5, d6]]]).row 3]]] rfl
    ⟨⟨by simp; omega, by simp; omega⟩, by simp only [cell_succ, cell_zero, D.row_sl]; rw [hz]; omega⟩
  simp [g75, hz] at t1 t2 t3
  simp [chunk, o1, t1, rSDraw, lsz]
  refine ⟨fun hi => ?_, fun hi => ⟨⟨by omega, by omega⟩, h4⟩⟩
  rw [w64 (by omega) (by omega)]
  refine ⟨⟨_, _, _, _, _, _, ⟨rfl, rfl, rfl, rfl, rfl, rfl⟩, by simp only [D.asInt_int]; omega, by simp; omega, ?_, o1.2.2⟩, by omega⟩
  simp
  omega)
end
end Go.Proofs.YthibophjhdoooaaGreatDoor


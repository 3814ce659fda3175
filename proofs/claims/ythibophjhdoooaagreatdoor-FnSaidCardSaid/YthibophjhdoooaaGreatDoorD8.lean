/-
  Draws: groups, listeners, tasks, deeds.
-/
import Derived.Test.YthibophjhdoooaaGreatDoorD7
set_option linter.unusedVariables false
set_option linter.unusedSimpArgs false
namespace Go.Proofs.YthibophjhdoooaaGreatDoor
open Go.Vx

theorem row_sl' (r : List D) : (D.sl [r]).row = r := Eq.trans (Eq.refl _) (Eq.refl _)
section
variable {Ψ : Fns}
theorem al_row (c : D) : szDs kAlarm [.sl (cell (Ψ 44 0 [c]).row 0).asList, cell (Ψ 44 0 [c]).row 1, cell (Ψ 44 0 [c]).row 2, cell (Ψ 44 0 [c]).row 3] = szDs kAlarm (Ψ 44 0 [c]).row := by rw [smA, smA]; simp
theorem dGDraw (h : fGDraw.2 (Ψ 53)) {c l : D} (hc : curOk c) (hl : l.asList.length ≤ 1000) : (Ψ 53 1000 [c, l]).asBool = true ∧ ((cell (Ψ 53 0 [c, l]).row 1).asList.length ≤ 100 ∧ lsz 10 5000 (cell (Ψ 53 0 [c, l]).row 4)) ∧ curOk (Ψ 53 2000 [c, l]) := by
  obtain ⟨h1, h2, h3⟩ := h.2 c [l] hc ⟨rfl, hl⟩
  exact ⟨h1, h2, h3⟩
theorem dSDraw (h : fSDraw.2 (Ψ 56)) {c : D} (hc : curOk c) : (Ψ 56 1000 [c]).asBool = true ∧ lsz 10 5000 (cell (Ψ 56 0 [c]).row 0) ∧ curOk (Ψ 56 2000 [c]) := by
  obtain ⟨h1, h2, h3⟩ := h.2 c [] hc rfl
  exact ⟨h1, h2, h3⟩
theorem dGAny (h : fGAny.2 (Ψ 24)) {c l : D} (hc : curOk c) (hl : l.asList.length ≤ 1000) : (Ψ 24 1000 [c, l]).asBool = true ∧ ((cell (Ψ 24 0 [c, l]).row 1).asList.length ≤ 1000 ∧ lsz 1000 100000 (cell (Ψ 24 0 [c, l]).row 4)) ∧ curOk (Ψ 24 2000 [c, l]) := by
  obtain ⟨h1, h2, h3⟩ := h.2 c [l] hc ⟨rfl, hl⟩
  exact ⟨h1, h2, h3⟩
theorem dSAny (h : fSAny.2 (Ψ 28)) {c : D} (hc : curOk c) : (Ψ 28 1000 [c]).asBool = true ∧ (cell (Ψ 28 0 [c]).row 0).asList.length ≤ 1000 ∧ curOk (Ψ 28 2000 [c]) := by
  obtain ⟨h1, h2, h3⟩ := h.2 c [] hc rfl
  exact ⟨h1, h2, h3⟩

set_option maxRecDepth 100000 in
set_option maxHeartbeats 4000000 in
theorem sGDraw (H0 : fBelow.2 (Ψ 26)) (H1 : fOnce.2 (Ψ 42)) (H2 : fAl.2 (Ψ 44)) (H3 : fKey.2 (Ψ 71)) (H4 : fTog.2 (Ψ 72)) (H5 : fJoin.2 (Ψ 73)) : ∃ φ, fGDraw.2 φ := drawB tok mixed (Φ := Ψ) (l := [g26, g42, g44, g71, g72, g73]) (by simp [gof (t := g26) H0.1, gof (t := g42) H1.1, gof (t := g44) H2.1, gof (t := g71) H3.1, gof (t := g72) H4.1, gof (t := g73) H5.1]) Tryz.func53 (by decide) (by kernel_rfl) (by decide) _ _ (by decide) (by decide) (by decide) v53_eq
    (fun _ h => by simpa using h.1) (fun _ _ => ⟨[.int 0, .sl [], .int 0, .int 0, .sl []], rfl, by simp [rGDraw, lsz, sumR]⟩) (fun c rest hc h => by
  have hx := h
  obtain ⟨l, rfl⟩ : ∃ n, rest = [n] := by match rest, h.1 with | [n], _ => exact ⟨n, rfl⟩
  have hl : l.asList.length ≤ 1000 := h.2
  have a1 := dAl H2 hc
  have a2 := dBelow H0 (n := .int 5) a1.2.2
  have a3 := dBelow H0 (n := .int 5) a2.2.2
  have a4 := dBelow H0 (n := .int 8) a3.2.2
  have a5 := a4.2.1.2 (by decide)
  have a6 := a4.2.1.1
  simp only [D.asInt_int] at a5
  have az := al_row (Ψ := Ψ) c
  have aw := a1.2.1
  have al : (cell (Ψ 44 0 [c]).row 0).asList.length ≤ 100 := by rw [smA] at aw; omega
  obtain ⟨k1, -, k2⟩ := H3.2 [.sl [[.sl (cell (Ψ 44 0 [c]).row 0).asList, cell (Ψ 44 0 [c]).row 1, cell (Ψ 44 0 [c]).row 2, cell (Ψ 44 0 [c]).row 3]], l] rfl ⟨by simp; omega, by simp; omega⟩
  simp [g71] at k1 k2
  simp [v53, g53, RSh.cells, a1, a2, a3, a4, k1]
  refine wp_loop' (fun v => ∃ (n N B T k x b j h : D), v = [n, N, B, T, k, x, b, j, h] ∧ 0 ≤ n.asInt ∧ k.asList.length ≤ 100 ∧ x.asList.length + n.asInt.toNat ≤ 10 ∧ sumR (szDs kAlarm) x.asList + 100 * n.asInt.toNat ≤ 1000 ∧ curR [b, j, h]) (fun v => (cell v 0).asInt.toNat)
    ⟨_, _, _, _, _, _, _, _, _, rfl, a6, by simp; omega, by simp [chunk]; omega, by simp [chunk, sumR, az]; omega, a4.2.2⟩ ?_
  simp only [allN_succ, allN_zero, kinds_cons, kinds_nil]
  rintro d1 d2 d3 d4 d5 d6 d7 d8 d9 - - - - - - - - - ⟨n, N, B, T, k, x, b, j, h, hv, h1, h2, h3, h4, h5⟩
  simp only [List.cons.injEq, and_true] at hv
  obtain ⟨rfl, rfl, rfl, rfl, rfl, rfl, rfl, rfl, rfl⟩ := hv
  have o1 := dAl H2 (c := .sl [[d7, d8, d9]]) h5
  have oz := al_row (Ψ := Ψ) (.sl [[d7, d8, d9]])
  have ow := o1.2.1
  have ol : (cell (Ψ 44 0 [.sl [[d7, d8, d9]]]).row 0).asList.length ≤ 100 := by rw [smA] at ow; omega
  obtain ⟨t1, -⟩ := H4.2 [.sl [[.sl (cell (Ψ 44 0 [c]).row 0).asList, cell (Ψ 44 0 [c]).row 1, cell (Ψ 44 0 [c]).row 2, cell (Ψ 44 0 [c]).row 3]], .sl [[.sl (cell (Ψ 44 0 [.sl [[d7, d8, d9]]]).row 0).asList, cell (Ψ 44 0 [.sl [[d7, d8, d9]]]).row 1, cell (Ψ 44 0 [.sl [[d7, d8, d9]]]).row 2, cell (Ψ 44 0 [.sl [[d7, d8, d9]]]).row 3]], l] rfl ⟨⟨by simp; omega, by simp; omega⟩, by simp; omega⟩
  obtain ⟨j1, -, j2, j3, j4⟩ := H5.2 [.sl [[d2, .sl d5.asList, d3, d4, .sl d6.asList]], .sl [[.sl (cell (Ψ 44 0 [.sl [[d7, d8, d9]]]).row 0).asList, cell (Ψ 44 0 [.sl [[d7, d8, d9]]]).row 1, cell (Ψ 44 0 [.sl [[d7, d8, d9]]]).row 2, cell (Ψ 44 0 [.sl [[d7, d8, d9]]]).row 3]]] rfl ⟨by simp; omega, ⟨by simp; omega, by simp; omega⟩, by simp only [cell_succ, cell_zero, D.row_sl]; rw [oz]; omega⟩
  simp [g73, oz] at j1 j2 j3 j4
  have p1 := dOnce H1 (c := .sl [[d7, d8, d9]]) (n := .int 2) h5
  have p2 := dBelow H0 (n := .int 9) p1.2
  simp [chunk, o1, t1, j1, p1, p2, rGDraw, lsz, dpost_5]
  refine ⟨fun hi => ⟨fun _ => ?_, fun _ => ?_⟩, fun hi => by omega⟩
  · rw [w64 (by omega) (by omega)]
    exact ⟨⟨_, _, _, _, _, _, _, _, _, ⟨rfl, rfl, rfl, rfl, rfl, rfl, rfl, rfl, rfl⟩, by simp only [D.asInt_int]; omega, by rw [j2]; omega, by simp only [D.asInt_int]; omega, by simp only [D.asInt_int]; omega, o1.2.2⟩, by omega⟩
  · rw [w64 (by omega) (by omega)]
    exact ⟨⟨_, _, _, _, _, _, _, _, _, ⟨rfl, rfl, rfl, rfl, rfl, rfl, rfl, rfl, rfl⟩, by simp only [D.asInt_int]; omega, h2, by simp only [D.asInt_int]; omega, by simp only [D.asInt_int]; omega, o1.2.2⟩, by omega⟩)

set_option maxRecDepth 100000 in
set_option maxHeartbeats 4000000 in
theorem sGAny (H0 : fGDraw.2 (Ψ 53)) (H1 : fBelow.2 (Ψ 26)) (H2 : fLabs.2 (Ψ 48)) (H3 : fRaw.2 (Ψ 54)) (H4 : fInt.2 (Ψ 45)) (H5 : fAnyA.2 (Ψ 47)) : ∃ φ, fGAny.2 φ := drawB tok mixed (Φ := Ψ) (l := [g26, g45, g47, g48, g53, g54]) (by simp [gof (t := g53) H0.1, gof (t := g26) H1.1, gof (t := g48) H2.1, gof (t := g54) H3.1, gof (t := g45) H4.1, gof (t := g47) H5.1]) Tryz.func24 (by decide) (by kernel_rfl) (by decide) _ _ (by decide) (by decide) (by decide) v24_eq
    (fun _ h => by simpa using h.1) (fun _ _ => ⟨[.int 0, .sl [], .int 0, .int 0, .sl []], rfl, by simp [rGAny, lsz, sumR]⟩) (fun c rest hc h => by
  have hx := h
  obtain ⟨l, rfl⟩ : ∃ n, rest = [n] := by match rest, h.1 with | [n], _ => exact ⟨n, rfl⟩
  have hl : l.asList.length ≤ 1000 := h.2
  obtain ⟨a1, ⟨a2, a3, a4⟩, a5⟩ := dGDraw H0 hc hl
  have b1 := dBelow H1 (n := .int 14) a5
  have b2 := dLabs H2 b1.2.2
  have b3 := dRaw H3 b1.2.2
  have b4 := dInt H4 (n := .sl [[.int (-2)], [.int 0], [.int 100000]]) b1.2.2 (by decide) (by decide)
  have b5 := dAnyA H5 b1.2.2
  have b6 := b5.2.1
  rw [smA] at b6
  simp [v24, g24, RSh.cells, dpost_5, rGAny, lsz, chunk, a1, b1, b2, b3, b4, b5, lenMax, sumR_append, sumR, smA]
  have b7 := b2.2.1
  omega)

set_option maxRecDepth 100000 in
set_option maxHeartbeats 4000000 in
theorem sSAny (H0 : fSDraw.2 (Ψ 56)) (H1 : fBelow.2 (Ψ 26)) (H2 : fAnyA.2 (Ψ 47)) : ∃ φ, fSAny.2 φ := drawB tok mixed (Φ := Ψ) (l := [g26, g47, g56]) (by simp [gof (t := g56) H0.1, gof (t := g26) H1.1, gof (t := g47) H2.1]) Tryz.func28 (by decide) (by kernel_rfl) (by decide) _ _ (by decide) (by decide) (by decide) v28_eq
    (fun _ h => by rw [h]; rfl) (fun _ _ => ⟨[.sl [], .bool false], rfl, by simp [rSAny]⟩) (fun c rest hc h => by
  subst h
  obtain ⟨a1, ⟨a2, a3⟩, a5⟩ := dSDraw H0 hc
  have b1 := dBelow H1 (n := .int 10) a5
  have b5 := dAnyA H2 b1.2.2
  simp [v28, g28, RSh.cells, rSAny, chunk, a1, b1, b5, lenMax]
  omega)

set_option maxRecDepth 100000 in
set_option maxHeartbeats 4000000 in
theorem sDAny (HB : fBelow.2 (Ψ 26)) (HO : fOnce.2 (Ψ 42)) (HA : fAl.2 (Ψ 44)) (HI : fInt.2 (Ψ 45)) (HL : fLab.2 (Ψ 46)) (HS : fList.2 (Ψ 27)) (HC : fCodes.2 (Ψ 43)) : ∃ φ, fDAny.2 φ :=
  drawB tok mixed (Φ := Ψ) (l := [g26, g27, g42, g43, g44, g45, g46]) (by simp [gof (t := g26) HB.1, gof (t := g42) HO.1, gof (t := g44) HA.1, gof (t := g45) HI.1, gof (t := g46) HL.1, gof (t := g27) HS.1, gof (t := g43) HC.1]) Tryz.func21 (by decide) (by kernel_rfl) (by decide) _ _ (by decide) (by decide) (by decide) v21_eq
    (fun _ h => by rw [h]; rfl) (fun _ _ => ⟨[.int 0, .int 0, .sl [], .int 0, .int 0, .str ⟨#[]⟩, .sl [], .int 0, .int 0, .int 0, .sl [], .int 0, .int 0, .int 0, .int 0], rfl, trivial⟩) (fun c rest hc h => by
  subst h
  have k26 : ∀ {c n : D}, curR c.row → (Ψ 26 1000 [c, n]).asBool = true := fun hc => (dBelow HB hc).1
  have c26 : ∀ {c n : D}, curR c.row → curR (Ψ 26 2000 [c, n]).row := fun hc => (dBelow HB hc).2.2
  have k42 : ∀ {c n : D}, curR c.row → (Ψ 42 1000 [c, n]).asBool = true := fun hc => (dOnce HO hc).1
  have c42 : ∀ {c n : D}, curR c.row → curR (Ψ 42 2000 [c, n]).row := fun hc => (dOnce HO hc).2
  have k44 : ∀ {c : D}, curR c.row → (Ψ 44 1000 [c]).asBool = true := fun hc => (dAl HA hc).1
  have c44 : ∀ {c : D}, curR c.row → curR (Ψ 44 2000 [c]).row := fun hc => (dAl HA hc).2.2
  have k45 : ∀ {c : D} {l : List (List D)}, curR c.row → 0 < l.length → l.length ≤ 1048576 → (Ψ 45 1000 [c, .sl l]).asBool = true := fun hc h1 h2 => (dInt HI (n := .sl _) hc h1 h2).1
  have c45 : ∀ {c : D} {l : List (List D)}, curR c.row → 0 < l.length → l.length ≤ 1048576 → curR (Ψ 45 2000 [c, .sl l]).row := fun hc h1 h2 => (dInt HI (n := .sl _) hc h1 h2).2.2
  have k46 : ∀ {c : D}, curR c.row → (Ψ 46 1000 [c]).asBool = true := fun hc => (dLab HL hc).1
  have c46 : ∀ {c : D}, curR c.row → curR (Ψ 46 2000 [c]).row := fun hc => (dLab HL hc).2.2
  have k27 : ∀ {c : D}, curR c.row → (Ψ 27 1000 [c]).asBool = true := fun hc => (dList HS hc).1
  have c27 : ∀ {c : D}, curR c.row → curR (Ψ 27 2000 [c]).row := fun hc => (dList HS hc).2.2
  have hC : ∀ {x : D}, (Ψ 43 1000 [x]).asBool = true ∧ 1 ≤ (Ψ 43 0 [x]).asList.length ∧ (Ψ 43 0 [x]).asList.length ≤ 10 := fun {x} => by
    obtain ⟨q1, -, q2, q3⟩ := HC.2 [x] rfl trivial
    exact ⟨q1, q2, q3⟩
  have hC2 : ∀ {x c : D}, curR c.row → 0 ≤ (Ψ 26 0 [c, .int (Ψ 43 0 [x]).asList.length]).asInt ∧ (Ψ 26 0 [c, .int (Ψ 43 0 [x]).asList.length]).asInt < (Ψ 43 0 [x]).asList.length ∧
      (Ψ 26 0 [c, .int (Ψ 43 0 [x]).asList.length]).asInt.toNat < (Ψ 43 0 [x]).asList.length := fun {x c} hc => by
    have h1 := (dBelow HB (n := .int (Ψ 43 0 [x]).asList.length) hc).2.1
    have h2 := hC (x := x)
    have h3 := h1.2 (by simp only [D.asInt_int]; omega)
    simp only [D.asInt_int] at h3
    exact ⟨h1.1, h3, by omega⟩
  have hc : curR c.row := hc
  unfold v21
  rw [wp_req']
  refine ⟨by simp (maxDischargeDepth := 60) [k26, c26, hc], ?_⟩
  refine wp_join' (dpost 15 fun _ => True) ?_ ?_
  · simp (maxDischargeDepth := 60) [-D.row_sl, row_sl', setB_eq, dpost_15, k26, c26, k42, c42, hC, hC2, hc]
  simp only [allN_succ, allN_zero, kinds_cons, kinds_nil]
  intro d1 d2 d3 d4 d5 d6 d7 d8 d9 d10 d11 d12 d13 d14 d15 d16 d17 d18
  iterate 18 intro _
  intro hI
  rw [dpost_15] at hI
  have h2 := hI.2
  refine wp_join' (dpost 15 fun _ => True) ?_ ?_
  · simp (maxDischargeDepth := 60) [-D.row_sl, row_sl', setB_eq, dpost_15, k26, c26, k42, c42, k44, c44, k45, c45, k46, c46, k27, c27, chunk, h2]
    try omega
  simp only [allN_succ, allN_zero, kinds_cons, kinds_nil]
  intro e1 e2 e3 e4 e5 e6 e7 e8 e9 e10 e11 e12 e13 e14 e15 e16 e17 e18
  iterate 18 intro _
  intro hI
  rw [dpost_15] at hI
  have h2 := hI.2
  refine wp_join' (dpost 15 fun _ => True) ?_ ?_
  · simp (maxDischargeDepth := 60) [-D.row_sl, row_sl', setB_eq, dpost_15, k26, c26, k42, c42, k44, c44, k45, c45, k46, c46, k27, c27, chunk, h2]
    try omega
  simp only [allN_succ, allN_zero, kinds_cons, kinds_nil]
  intro f1 f2 f3 f4 f5 f6 f7 f8 f9 f10 f11 f12 f13 f14 f15 f16 f17 f18
  iterate 18 intro _
  intro hI
  rw [dpost_15] at hI
  have h2 := hI.2
  refine wp_join' (dpost 15 fun _ => True) ?_ ?_
  · simp (maxDischargeDepth := 60) [-D.row_sl, row_sl', setB_eq, dpost_15, k26, c26, k42, c42, k44, c44, k45, c45, k46, c46, k27, c27, chunk, h2]
    try omega
  simp only [allN_succ, allN_zero, kinds_cons, kinds_nil]
  intro g1 g2 g3 g4 g5 g6 g7 g8 g9 g10 g11 g12 g13 g14 g15 g16 g17 g18
  iterate 18 intro _
  intro hI
  rw [dpost_15] at hI
  have h2 := hI.2
  simp [g21, RSh.cells, dpost_15, rDAny, h2])
end
end Go.Proofs.YthibophjhdoooaaGreatDoor


/-
  A task is drawn.
-/
import Derived.Test.YthibophjhdoooaaGreatDoorD8
set_option linter.unusedVariables false
set_option linter.unusedSimpArgs false
namespace Go.Proofs.YthibophjhdoooaaGreatDoor
open Go.Vx
section
variable {Ψ : Fns}

set_option maxRecDepth 100000 in
set_option maxHeartbeats 4000000 in
theorem sTAny (HB : fBelow.2 (Ψ 26)) (HO : fOnce.2 (Ψ 42)) (HA : fAl.2 (Ψ 44)) (HI : fInt.2 (Ψ 45)) (HL : fLab.2 (Ψ 46)) (HS : fList.2 (Ψ 27)) (HA' : fAnyA.2 (Ψ 47)) (HL' : fLabs.2 (Ψ 48)) : ∃ φ, fTAny.2 φ :=
  drawB tok mixed (Φ := Ψ) (l := [g26, g27, g42, g44, g45, g46, g47, g48]) (by simp [gof (t := g26) HB.1, gof (t := g42) HO.1, gof (t := g44) HA.1, gof (t := g45) HI.1, gof (t := g46) HL.1, gof (t := g27) HS.1, gof (t := g47) HA'.1, gof (t := g48) HL'.1]) Tryz.func22 (by decide) (by kernel_rfl) (by decide) _ _ (by decide) (by decide) (by decide) v22_eq
    (fun _ h => by rw [h]; rfl) (fun _ _ => ⟨[.int 0, .int 0, .sl [], .int 0, .int 0, .str ⟨#[]⟩, .sl [], .int 0, .sl [], .sl [], .int 0, .int 0], rfl, trivial⟩) (fun c rest hc h => by
  subst h
  have k26 : ∀ {c n : D}, curR c.row → (Ψ 26 1000 [c, n]).asBool = true := fun hc => (dBelow HB hc).1
  have c26 : ∀ {c n : D}, curR c.row → curR (Ψ 26 2000 [c, n]).row := fun hc => (dBelow HB hc).2.2
  have k42 : ∀ {c n : D}, curR c.row → (Ψ 42 1000 [c, n]).asBool = true := fun hc => (dOnce HO hc).1
  have c42 : ∀ {c n : D}, curR c.row → curR (Ψ 42 2000 [c, n]).row := fun hc => (dOnce HO hc).2
  have k44 : ∀ {c : D}, curR c.row → (Ψ 44 1000 [c]).asBool = true := fun hc => (dAl HA hc).1
  have c44 : ∀ {c : D}, curR c.row → curR (Ψ 44 2000 [c]).row := fun hc => (dAl HA hc).2.2
  have k45 : ∀ {c : D} {l : List (List D)}, curR c.row → 0 < l.length → l.length ≤ 1048576 → (Ψ 45 1000 [c, .sl l]).asBool = true := fun hc h1 h2 => (dInt HI (n := .sl _) hc h1 h2).1
  have c45 : ∀ {c : D} {l : List (List D)}, curR c.row → 0 < l.length → l.length ≤ 1048576 → curR (Ψ 45 2000 [c, .sl l]).row := fun hc h1 h2 => (dInt HI (n := .sl _) hc h1 h2).2.2
  have k46 : ∀ {c : D}, curR c.row → (Ψ 46 1000 [c]).asBool = true := fun hc => (dLab HL hc).1
  have c46 : ∀ {c : D}, curR c.row → curR (Ψ 46 2000 [c]).row := fun hc => (dLab HL hc).2.2
  have k27 : ∀ {c : D}, curR c.row → (Ψ 27 1000 [c]).asBool = true := fun hc => (dList HS hc).1
  have c27 : ∀ {c : D}, curR c.row → curR (Ψ 27 2000 [c]).row := fun hc => (dList HS hc).2.2
  have w27 : ∀ {c : D}, curR c.row → (Ψ 27 0 [c]).asList.length ≤ 5 := fun hc => (dList HS hc).2.1.1
  have k47 : ∀ {c : D}, curR c.row → (Ψ 47 1000 [c]).asBool = true := fun hc => (dAnyA HA' hc).1
  have c47 : ∀ {c : D}, curR c.row → curR (Ψ 47 2000 [c]).row := fun hc => (dAnyA HA' hc).2.2
  have k48 : ∀ {c : D}, curR c.row → (Ψ 48 1000 [c]).asBool = true := fun hc => (dLabs HL' hc).1
  have c48 : ∀ {c : D}, curR c.row → curR (Ψ 48 2000 [c]).row := fun hc => (dLabs HL' hc).2.2
  have b3 : ∀ {c : D}, curR c.row → (Ψ 26 0 [c, .int 3]).asInt < 3 := fun hc => by
    have h1 := (dBelow HB (n := .int 3) hc).2.1.2 (by decide)
    simpa only [D.asInt_int] using h1
  have hc : curR c.row := hc
  unfold v22
  rw [wp_req']
  refine ⟨by simp (maxDischargeDepth := 60) [k26, c26, hc], ?_⟩
  refine wp_join' (dpost 12 fun v => (cell v 8).asList.length ≤ 5 ∧ (cell v 9).asList.length ≤ 5) ?_ ?_
  · simp (maxDischargeDepth := 60) [-D.row_sl, row_sl', setB_eq, dpost_12, k26, c26, k44, c44, k46, c46, hc]
    intro _ _ _
    refine wp_loop' (dpost 12 fun v => (cell v 8).asList.length ≤ 3 ∧ (cell v 9).asList.length ≤ 5 ∧ (cell v 7).asInt < 3) (fun v => ((cell v 7).asInt - (cell v 8).asList.length).toNat) ?_ ?_
    · simp (maxDischargeDepth := 60) [-D.row_sl, row_sl', dpost_12, k26, c26, hc, b3]
    simp only [allN_succ, allN_zero, kinds_cons, kinds_nil]
    intro d1 d2 d3 d4 d5 d6 d7 d8 d9 d10 d11 d12 d13 d14 d15
    iterate 15 intro _
    intro hI
    rw [dpost_12] at hI
    obtain ⟨⟨i1, i2, i3⟩, h2⟩ := hI
    simp only [cell_succ, cell_zero] at i1 i2 i3
    refine wp_join' (fun v => dpost 0 (fun _ => True) v ∧ d9.asList.length < d8.asInt) ?_ ?_
    · by_cases hp : 0 < d8.asInt
      · simp (maxDischargeDepth := 60) [-D.row_sl, row_sl', setB_eq, setB_ne, dpost_12, dpost_0, k27, c27, w27, k42, c42, h2, hp, i1, i2, i3]
        omega
      · simp (maxDischargeDepth := 60) [-D.row_sl, row_sl', setB_eq, setB_ne, dpost_12, dpost_0, k27, c27, w27, k42, c42, h2, hp, i1, i2, i3]
        omega
    simp only [allN_succ, allN_zero, kinds_cons, kinds_nil]
    intro e1 e2 e3
    iterate 3 intro _
    rintro ⟨hI, hlt⟩
    rw [dpost_0] at hI
    have h2 := hI.2
    simp (maxDischargeDepth := 60) [-D.row_sl, row_sl', setB_eq, setB_ne, dpost_12, k26, c26, h2, i2, i3]
    simp only [lenMax]
    omega
  simp only [allN_succ, allN_zero, kinds_cons, kinds_nil]
  intro d1 d2 d3 d4 d5 d6 d7 d8 d9 d10 d11 d12 d13 d14 d15
  iterate 15 intro _
  intro hI
  rw [dpost_12] at hI
  obtain ⟨⟨i1, i2⟩, h2⟩ := hI
  simp only [cell_succ, cell_zero] at i1 i2
  refine wp_join' (dpost 12 fun v => (cell v 10).asList.length ≤ 5 ∧ (cell v 11).asList.length ≤ 5) ?_ ?_
  · simp (maxDischargeDepth := 60) [-D.row_sl, row_sl', setB_eq, dpost_12, k26, c26, h2, i1, i2]
  simp only [allN_succ, allN_zero, kinds_cons, kinds_nil]
  intro e1 e2 e3 e4 e5 e6 e7 e8 e9 e10 e11 e12 e13 e14 e15
  iterate 15 intro _
  intro hI
  rw [dpost_12] at hI
  obtain ⟨⟨i1, i2⟩, h2⟩ := hI
  simp only [cell_succ, cell_zero] at i1 i2
  refine wp_join' (dpost 12 fun _ => True) ?_ ?_
  · simp (maxDischargeDepth := 60) [-D.row_sl, row_sl', setB_eq, dpost_12, k26, c26, k45, c45, k47, c47, k48, c48, h2]
    simp only [lenMax]
    omega
  simp only [allN_succ, allN_zero, kinds_cons, kinds_nil]
  intro f1 f2 f3 f4 f5 f6 f7 f8 f9 f10 f11 f12 f13 f14 f15
  iterate 15 intro _
  intro hI
  rw [dpost_12] at hI
  have h2 := hI.2
  simp [g22, RSh.cells, dpost_12, rTAny, h2])
end
end Go.Proofs.YthibophjhdoooaaGreatDoor


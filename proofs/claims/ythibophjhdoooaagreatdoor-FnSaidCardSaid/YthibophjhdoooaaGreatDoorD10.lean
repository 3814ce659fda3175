/-
  What the law is called with; what is said of it.
-/
import Derived.Test.YthibophjhdoooaaGreatDoorD9
set_option linter.unusedVariables false
set_option linter.unusedSimpArgs false
namespace Go.Proofs.YthibophjhdoooaaGreatDoor
open Go.Vx

abbrev rAnyL (n : Nat) : List D → List D → Prop := fun _ r => r.length = n
noncomputable abbrev fWD : Fact := (5, fun φ => Good1 Tryz.prog (fun _ => φ) g5 ∧ PlainF g5 qCode (rAnyL 15) φ)
noncomputable abbrev fWT : Fact := (6, fun φ => Good1 Tryz.prog (fun _ => φ) g6 ∧ PlainF g6 qCode (rAnyL 12) φ)
abbrev rWB : List D → List D → Prop := fun _ r => r.length = 4 ∧ (cell r 3).asList.length ≤ 1000
noncomputable abbrev fWB : Fact := (7, fun φ => Good1 Tryz.prog (fun _ => φ) g7 ∧ PlainF g7 qCode rWB φ)
abbrev rWL : List D → List D → Prop := fun _ r => r.length = 1 ∧ (cell r 0).asList.length ≤ 5 ∧ ∀ x ∈ (cell r 0).asList, AlOk x
noncomputable abbrev fWL : Fact := (8, fun φ => Good1 Tryz.prog (fun _ => φ) g8 ∧ PlainF g8 qCode rWL φ)
abbrev rWS : List D → List D → Prop := fun _ r => r.length = 2 ∧ (cell r 0).asList.length ≤ 1000
noncomputable abbrev fWS : Fact := (9, fun φ => Good1 Tryz.prog (fun _ => φ) g9 ∧ PlainF g9 qCode rWS φ)

section
variable {Ψ : Fns}
theorem dDAny (h : fDAny.2 (Ψ 21)) {c : D} (hc : curOk c) : (Ψ 21 1000 [c]).asBool = true ∧ curOk (Ψ 21 2000 [c]) := ⟨(h.2 c [] hc rfl).1, (h.2 c [] hc rfl).2.2⟩
theorem dTAny (h : fTAny.2 (Ψ 22)) {c : D} (hc : curOk c) : (Ψ 22 1000 [c]).asBool = true ∧ curOk (Ψ 22 2000 [c]) := ⟨(h.2 c [] hc rfl).1, (h.2 c [] hc rfl).2.2⟩

set_option maxRecDepth 100000 in
theorem sWD (HN : fNew.2 (Ψ 20)) (HA : fDAny.2 (Ψ 21)) : ∃ φ, fWD.2 φ :=
  drawR tok mixed (Φ := Ψ) (l := [g20, g21]) (by simp [gof (t := g20) HN.1, gof (t := g21) HA.1]) Tryz.func5 (by decide) (by kernel_rfl) (by decide) qCode (rAnyL 15) (by decide) v5_eq (args1 fun a hw hp => by
  have n1 := dNew HN hw hp
  have a1 := dDAny HA n1.2
  simp [v5, n1, a1, rAnyL]) (fun _ _ _ => ⟨List.replicate 15 (.int 0), by simp [rAnyL]⟩) (fun _ _ h => h)

set_option maxRecDepth 100000 in
theorem sWT (HN : fNew.2 (Ψ 20)) (HA : fTAny.2 (Ψ 22)) : ∃ φ, fWT.2 φ :=
  drawR tok mixed (Φ := Ψ) (l := [g20, g22]) (by simp [gof (t := g20) HN.1, gof (t := g22) HA.1]) Tryz.func6 (by decide) (by kernel_rfl) (by decide) qCode (rAnyL 12) (by decide) v6_eq (args1 fun a hw hp => by
  have n1 := dNew HN hw hp
  have a1 := dTAny HA n1.2
  simp [v6, n1, a1, rAnyL]) (fun _ _ _ => ⟨List.replicate 12 (.int 0), by simp [rAnyL]⟩) (fun _ _ h => h)

set_option maxRecDepth 100000 in
theorem sWL (HN : fNew.2 (Ψ 20)) (HA : fList.2 (Ψ 27)) : ∃ φ, fWL.2 φ :=
  drawR tok mixed (Φ := Ψ) (l := [g20, g27]) (by simp [gof (t := g20) HN.1, gof (t := g27) HA.1]) Tryz.func8 (by decide) (by kernel_rfl) (by decide) qCode rWL (by decide) v8_eq (args1 fun a hw hp => by
  have n1 := dNew HN hw hp
  have a1 := dList HA n1.2
  have a2 := dListOk HA n1.2
  simp [v8, n1, a1, rWL]
  exact a2) (fun _ _ _ => ⟨[.sl []], rfl, by simp, by simp⟩) (fun _ _ h => h.1)

set_option maxRecDepth 100000 in
theorem sWS (HN : fNew.2 (Ψ 20)) (HA : fSAny.2 (Ψ 28)) : ∃ φ, fWS.2 φ :=
  drawR tok mixed (Φ := Ψ) (l := [g20, g28]) (by simp [gof (t := g20) HN.1, gof (t := g28) HA.1]) Tryz.func9 (by decide) (by kernel_rfl) (by decide) qCode rWS (by decide) v9_eq (args1 fun a hw hp => by
  have n1 := dNew HN hw hp
  have a1 := dSAny HA n1.2
  simp [v9, n1, a1, rWS]) (fun _ _ _ => ⟨[.sl [], .bool false], rfl, by simp⟩) (fun _ _ h => h.1)

set_option maxRecDepth 100000 in
theorem sWB (HN : fNew.2 (Ψ 20)) (HY : fBy.2 (Ψ 25)) (HG : fGAny.2 (Ψ 24)) (HB : fBelow.2 (Ψ 26)) (HF : fFlush.2 (Ψ 23)) : ∃ φ, fWB.2 φ :=
  drawR tok mixed (Φ := Ψ) (l := [g20, g23, g24, g25, g26]) (by simp [gof (t := g20) HN.1, gof (t := g25) HY.1, gof (t := g24) HG.1, gof (t := g26) HB.1, gof (t := g23) HF.1]) Tryz.func7 (by decide) (by kernel_rfl) (by decide) qCode rWB (by decide) v7_eq (args1 fun a hw hp => by
  have n1 := dNew HN hw hp
  have y1 := dBy HY n1.2
  obtain ⟨g1, ⟨g2, g3, g4⟩, g5⟩ := dGAny HG (l := .sl (Ψ 25 0 [Ψ 20 0 [a]]).asList) y1.2.2 (by simp only [D.asList_sl]; omega)
  have b1 := dBelow HB (n := .int 9) g5
  generalize hX : Ψ 24 0 [Ψ 25 2000 [Ψ 20 0 [a]], .sl (Ψ 25 0 [Ψ 20 0 [a]]).asList] = X at *
  generalize hN : Ψ 26 0 [Ψ 24 2000 [Ψ 25 2000 [Ψ 20 0 [a]], .sl (Ψ 25 0 [Ψ 20 0 [a]]).asList], .int 9] = N at *
  obtain ⟨t1, -, t2⟩ := HF.2 [.sl [[cell X.row 0, .sl (cell X.row 1).asList, cell X.row 2, cell X.row 3, .sl (cell X.row 4).asList]], N] rfl ⟨by simp; omega, by simp; omega, by simp; omega⟩
  simp [g23] at t1 t2
  simp [v7, n1, y1, g1, g5, b1, hX, hN, t1, t2, rWB]) (fun _ _ _ => ⟨[.int 0, .sl [], .int 0, .sl []], rfl, by simp⟩) (fun _ _ h => h.1)

theorem head_ne {r : List D} (h : 1 ≤ (cell r 0).asInt ∧ (cell r 0).asInt ≤ 9) : 0 < (headT r).size := by
  unfold headT
  generalize (cell r 0).asInt = n at h ⊢
  rcases op_cases n with h | h | h | h | h | h | h | h | h | ⟨h1, h2, h3, h4, h5, h6, h7, h8, h9⟩
  all_goals first
    | (subst h; simp [ttT, ttF, sz_mk]; done)
    | (subst h; simp [ttT, ttF, sz_mk]; omega)
    | omega
theorem deed_ne (r : List D) : deedT r = ⟨#[]⟩ ↔ ¬ (1 ≤ (cell r 0).asInt ∧ (cell r 0).asInt ≤ 9) := by
  unfold deedT
  constructor
  · intro h h'
    have h1 := head_ne h'
    rw [tt_true h', cond_true] at h
    have h2 := congrArg ByteArray.size h
    cases hx : tt ((cell r 13).asInt = -1) <;> rw [hx] at h2
    · cases hy : tt ((cell r 0).asInt = 4 ∨ (cell r 0).asInt = 5 ∨ (cell r 0).asInt = 8) <;> rw [hy] at h2 <;> simp [sz_mk] at h2 <;> omega
    · simp [sz_mk] at h2
  · intro h
    rw [tt_false h, cond_false]
theorem al_ne {r : List D} (h : AlOk r) : 0 < (alT r).size := by
  unfold alT
  rw [tt_true h, cond_true]
  unfold alB
  simp [sz_mk]
theorem join_pos : ∀ xs : List (List D), 0 < xs.length → (∀ x ∈ xs, AlOk x) → 0 < (joinB (xs.map alT) ⟨#[59, 32]⟩).size := by
  intro xs h0 h
  match xs, h0 with
  | [x], _ => rw [List.map_singleton, joinB_one]; exact al_ne (h x (by simp))
  | x :: y :: ys, _ =>
    have : (x :: y :: ys) = (x :: (y :: ys).dropLast) ++ [(y :: ys).getLast (by simp)] := by
      rw [List.cons_append, List.dropLast_concat_getLast]
    rw [this, List.map_append, List.map_singleton, List.map_cons, joinB_more]
    simp [sz_mk]
    omega
theorem als_ne {xs : List (List D)} (h : ∀ x ∈ xs, AlOk x) : ¬ alsT xs = ⟨#[]⟩ := by
  unfold alsT
  by_cases h0 : xs.length = 0
  · rw [tt_true h0, cond_true]
    decide
  · rw [tt_false h0, cond_false]
    intro e
    have := join_pos xs (by omega) h
    rw [e] at this
    exact absurd this (by decide)
end
end Go.Proofs.YthibophjhdoooaaGreatDoor


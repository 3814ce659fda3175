/-
  Draws: what each gives.
-/
import Derived.Test.YthibophjhdoooaaDoorS14
import Derived.Test.YthibophjhdoooaaDoorVxe
set_option linter.unusedVariables false
set_option linter.unusedSimpArgs false
namespace Go.Proofs.YthibophjhdoooaaDoor
open Go.Vx

theorem gof {Ψ : Fns} {t : Told1} (h : Good1 Tryd.prog (fun _ => Ψ t.f) t) : Good1 Tryd.prog Ψ t := h.tr rfl
theorem smA {r : List D} : szDs kAlarm r = (cell r 0).asList.length + sumR (szDs kLabel) (cell r 0).asList + (cell r 3).asStr.size := by
  simp only [szDs_cons, szDs_nil, szD, cell_tail, Nat.zero_add, Nat.reduceAdd]; omega
theorem smL {r : List D} : szDs kLabel r = (cell r 0).asStr.size + (cell r 1).asStr.size := by
  simp only [szDs_cons, szDs_nil, szD, cell_tail, Nat.zero_add, Nat.reduceAdd]; omega

abbrev qByte : List D → Prop := fun rest => rest = []
abbrev rByte : List D → List D → Prop := fun rest r => 0 ≤ (cell r 0).asInt ∧ (cell r 0).asInt < 256
noncomputable abbrev fByte : Fact := (52, fun φ => Good1 Tryd.prog (fun _ => φ) g52 ∧ DrawF g52.rets qByte rByte φ)
abbrev qBelow : List D → Prop := fun rest => rest.length = 1
abbrev rBelow : List D → List D → Prop := fun rest r => 0 ≤ (cell r 0).asInt ∧ (0 < (cell rest 0).asInt → (cell r 0).asInt < (cell rest 0).asInt)
noncomputable abbrev fBelow : Fact := (34, fun φ => Good1 Tryd.prog (fun _ => φ) g34 ∧ DrawF g34.rets qBelow rBelow φ)
abbrev qOnce : List D → Prop := fun rest => rest.length = 1
abbrev rOnce : List D → List D → Prop := fun rest r => True
noncomputable abbrev fOnce : Fact := (21, fun φ => Good1 Tryd.prog (fun _ => φ) g21 ∧ DrawF g21.rets qOnce rOnce φ)
abbrev qInt : List D → Prop := fun rest => rest.length = 1 ∧ 0 < (cell rest 0).asList.length ∧ (cell rest 0).asList.length ≤ 1048576
abbrev rInt : List D → List D → Prop := fun rest r => ∃ i, i < (cell rest 0).asList.length ∧ cell r 0 = cell (rowN (cell rest 0).asList i) 0
noncomputable abbrev fInt : Fact := (36, fun φ => Good1 Tryd.prog (fun _ => φ) g36 ∧ DrawF g36.rets qInt rInt φ)
abbrev qStr : List D → Prop := fun rest => rest.length = 1 ∧ 0 < (cell rest 0).asList.length ∧ (cell rest 0).asList.length ≤ 1048576
abbrev rStr : List D → List D → Prop := fun rest r => ∃ i, i < (cell rest 0).asList.length ∧ cell r 0 = cell (rowN (cell rest 0).asList i) 0
noncomputable abbrev fStr : Fact := (22, fun φ => Good1 Tryd.prog (fun _ => φ) g22 ∧ DrawF g22.rets qStr rStr φ)
abbrev qPlain : List D → Prop := fun rest => rest = []
abbrev rPlain : List D → List D → Prop := fun rest r => (cell r 0).asStr.size ≤ 16
noncomputable abbrev fPlain : Fact := (49, fun φ => Good1 Tryd.prog (fun _ => φ) g49 ∧ DrawF g49.rets qPlain rPlain φ)
abbrev qLab : List D → Prop := fun rest => rest = []
abbrev rLab : List D → List D → Prop := fun rest r => (1 ≤ (cell r 0).asList.length ∧ (rowN (cell r 0).asList 0).length = 2) ∧ (cell r 0).asList.length ≤ 4 ∧ sumR (szDs kLabel) (cell r 0).asList ≤ 64
noncomputable abbrev fLab : Fact := (48, fun φ => Good1 Tryd.prog (fun _ => φ) g48 ∧ DrawF g48.rets qLab rLab φ)
abbrev qAl : List D → Prop := fun rest => rest = []
abbrev rAl : List D → List D → Prop := fun rest r => szDs kAlarm r ≤ 100
noncomputable abbrev fAl : Fact := (25, fun φ => Good1 Tryd.prog (fun _ => φ) g25 ∧ DrawF g25.rets qAl rAl φ)
theorem row0_app {xs ys : List (List D)} (h : 1 ≤ xs.length) : rowN (xs ++ ys) 0 = rowN xs 0 := by
  cases xs with
  | nil => simp at h
  | cons x xs => rfl

section
variable {Ψ : Fns}
theorem dByte (h : fByte.2 (Ψ 52)) {c : D} (hc : curOk c) : (Ψ 52 1000 [c]).asBool = true ∧ (0 ≤ (Ψ 52 0 [c]).asInt ∧ (Ψ 52 0 [c]).asInt < 256) ∧ curOk (Ψ 52 2000 [c]) := h.2 c [] hc rfl
theorem dBelow (h : fBelow.2 (Ψ 34)) {c n : D} (hc : curOk c) : (Ψ 34 1000 [c, n]).asBool = true ∧ (0 ≤ (Ψ 34 0 [c, n]).asInt ∧ (0 < n.asInt → (Ψ 34 0 [c, n]).asInt < n.asInt)) ∧ curOk (Ψ 34 2000 [c, n]) := h.2 c [n] hc rfl
theorem dOnce (h : fOnce.2 (Ψ 21)) {c n : D} (hc : curOk c) : (Ψ 21 1000 [c, n]).asBool = true ∧ curOk (Ψ 21 2000 [c, n]) := ⟨(h.2 c [n] hc rfl).1, (h.2 c [n] hc rfl).2.2⟩
theorem dInt (h : fInt.2 (Ψ 36)) {c n : D} (hc : curOk c) (h0 : 0 < n.asList.length) (h1 : n.asList.length ≤ 1048576) : (Ψ 36 1000 [c, n]).asBool = true ∧ (∃ i, i < n.asList.length ∧ Ψ 36 0 [c, n] = cell (rowN n.asList i) 0) ∧ curOk (Ψ 36 2000 [c, n]) := h.2 c [n] hc ⟨rfl, h0, h1⟩
theorem dStr (h : fStr.2 (Ψ 22)) {c n : D} (hc : curOk c) (h0 : 0 < n.asList.length) (h1 : n.asList.length ≤ 1048576) : (Ψ 22 1000 [c, n]).asBool = true ∧ (∃ i, i < n.asList.length ∧ Ψ 22 0 [c, n] = cell (rowN n.asList i) 0) ∧ curOk (Ψ 22 2000 [c, n]) := h.2 c [n] hc ⟨rfl, h0, h1⟩
theorem dPlain (h : fPlain.2 (Ψ 49)) {c : D} (hc : curOk c) : (Ψ 49 1000 [c]).asBool = true ∧ (Ψ 49 0 [c]).asStr.size ≤ 16 ∧ curOk (Ψ 49 2000 [c]) := h.2 c [] hc rfl
theorem dLab (h : fLab.2 (Ψ 48)) {c : D} (hc : curOk c) : (Ψ 48 1000 [c]).asBool = true ∧ ((1 ≤ (Ψ 48 0 [c]).asList.length ∧ (rowN (Ψ 48 0 [c]).asList 0).length = 2) ∧ (Ψ 48 0 [c]).asList.length ≤ 4 ∧ sumR (szDs kLabel) (Ψ 48 0 [c]).asList ≤ 64) ∧ curOk (Ψ 48 2000 [c]) := h.2 c [] hc rfl
theorem dAl (h : fAl.2 (Ψ 25)) {c : D} (hc : curOk c) : (Ψ 25 1000 [c]).asBool = true ∧ szDs kAlarm (Ψ 25 0 [c]).row ≤ 100 ∧ curOk (Ψ 25 2000 [c]) := by
  obtain ⟨h1, h2, h3⟩ := h.2 c [] hc rfl
  refine ⟨h1, ?_, h3⟩
  simpa [g25, rAl, smA, RSh.ds, List.range, List.range.loop, cell] using h2
set_option maxRecDepth 100000 in
theorem sByte : ∃ φ, fByte.2 φ := drawB tok mixed (Φ := Φ) (l := []) (by simp) Tryd.func52 (by decide) (by kernel_rfl) (by decide) _ _ (by decide) (by decide) (by decide) v52_eq
    (fun _ h => by rw [h]; rfl) (fun _ _ => ⟨[.int 0], rfl, by simp [rByte, D.asInt]⟩) (fun c rest hc h => by
  subst h
  have h1 := hc.1
  have h2 := hc.2
  have key : ∀ x : Int, 0 ≤ (intV .and .i64 x 255).asInt ∧ (intV .and .i64 x 255).asInt < 256 := fun x => by
    obtain ⟨n, hn, e⟩ := and255 x
    rw [e]
    simp only [D.asInt_int]
    omega
  simp [v52, g52, RSh.cells, rByte, key]
  refine ⟨fun h => ⟨⟨h2, h⟩, h1, ?_⟩, fun _ => ⟨h1, h2⟩⟩
  simp
  rw [w64 (by omega) (by omega)]
  omega)
set_option maxRecDepth 100000 in
theorem sBelow (H1 : fByte.2 (Ψ 52)) : ∃ φ, fBelow.2 φ := drawB tok mixed (Φ := Ψ) (l := [g52]) (by simpa using gof (t := g52) H1.1) Tryd.func34 (by decide) (by kernel_rfl) (by decide) _ _ (by decide) (by decide) (by decide) v34_eq
    (fun _ h => h) (fun _ _ => ⟨[.int 0], rfl, by simp [rBelow, D.asInt]⟩) (fun c rest hc h => by
  obtain ⟨n, rfl⟩ : ∃ n, rest = [n] := by match rest, h with | [n], _ => exact ⟨n, rfl⟩
  have a1 := dByte H1 hc
  have a2 := dByte H1 a1.2.2
  have a3 := dByte H1 a2.2.2
  simp [v34, g34, RSh.cells, rBelow, a1, a2, a3, hc]
  refine fun h => ⟨fun h' => ⟨by omega, ?_⟩, fun h' => ⟨by omega, ?_⟩⟩
  · have := rem_range a1.2.1.1 (y := n.asInt) (by omega)
    exact ⟨this.1, fun _ => this.2⟩
  · have b1 := a1.2.1
    have b2 := a2.2.1
    have b3 := a3.2.1
    rw [w64 (n := _ * 65536) (by omega) (by omega), w64 (n := _ * 256) (by omega) (by omega), w64 (n := _ * 65536 + _ * 256) (by omega) (by omega), w64 (by omega) (by omega)]
    have := rem_range (x := (Ψ 52 0 [c]).asInt * 65536 + (Ψ 52 0 [Ψ 52 2000 [c]]).asInt * 256 + (Ψ 52 0 [Ψ 52 2000 [Ψ 52 2000 [c]]]).asInt) (y := n.asInt) (by omega) (by omega)
    exact ⟨this.1, fun _ => this.2⟩)
set_option maxRecDepth 100000 in
theorem sOnce (H1 : fBelow.2 (Ψ 34)) : ∃ φ, fOnce.2 φ := drawB tok mixed (Φ := Ψ) (l := [g34]) (by simpa using gof (t := g34) H1.1) Tryd.func21 (by decide) (by kernel_rfl) (by decide) _ _ (by decide) (by decide) (by decide) v21_eq
    (fun _ h => h) (fun _ _ => ⟨[.int 0], rfl, trivial⟩) (fun c rest hc h => by
  obtain ⟨n, rfl⟩ : ∃ n, rest = [n] := by match rest, h with | [n], _ => exact ⟨n, rfl⟩
  have a1 := dBelow H1 (n := n) hc
  simp [v21, g21, RSh.cells, rOnce, a1])
set_option maxRecDepth 100000 in
theorem sInt (H1 : fBelow.2 (Ψ 34)) : ∃ φ, fInt.2 φ := drawB tok mixed (Φ := Ψ) (l := [g34]) (by simpa using gof (t := g34) H1.1) Tryd.func36 (by decide) (by kernel_rfl) (by decide) _ _ (by decide) (by decide) (by decide) v36_eq
    (fun _ h => h.1) (fun rest h => ⟨[cell (rowN (cell rest 0).asList 0) 0], rfl, show rInt _ _ from ⟨0, h.2.1, rfl⟩⟩) (fun c rest hc h => by
  obtain ⟨n, rfl⟩ : ∃ n, rest = [n] := by match rest, h.1 with | [n], _ => exact ⟨n, rfl⟩
  have a1 := dBelow H1 (n := .int n.asList.length) hc
  have h2 := h.2
  simp only [cell_zero] at h2
  have h3 := a1.2.1.2 (by simp only [D.asInt_int]; omega)
  simp only [D.asInt_int] at h3
  simp [v36, g36, RSh.cells, rInt, a1, h3, Vx.rowAt]
  exact ⟨(Ψ 34 0 [c, .int n.asList.length]).asInt.toNat, by have := a1.2.1.1; omega, rfl⟩)
set_option maxRecDepth 100000 in
theorem sStr (H1 : fBelow.2 (Ψ 34)) : ∃ φ, fStr.2 φ := drawB tok mixed (Φ := Ψ) (l := [g34]) (by simpa using gof (t := g34) H1.1) Tryd.func22 (by decide) (by kernel_rfl) (by decide) _ _ (by decide) (by decide) (by decide) v22_eq
    (fun _ h => h.1) (fun rest h => ⟨[cell (rowN (cell rest 0).asList 0) 0], rfl, show rStr _ _ from ⟨0, h.2.1, rfl⟩⟩) (fun c rest hc h => by
  obtain ⟨n, rfl⟩ : ∃ n, rest = [n] := by match rest, h.1 with | [n], _ => exact ⟨n, rfl⟩
  have a1 := dBelow H1 (n := .int n.asList.length) hc
  have h2 := h.2
  simp only [cell_zero] at h2
  have h3 := a1.2.1.2 (by simp only [D.asInt_int]; omega)
  simp only [D.asInt_int] at h3
  simp [v22, g22, RSh.cells, rStr, a1, h3, Vx.rowAt]
  exact ⟨(Ψ 34 0 [c, .int n.asList.length]).asInt.toNat, by have := a1.2.1.1; omega, rfl⟩)
end
end Go.Proofs.YthibophjhdoooaaDoor


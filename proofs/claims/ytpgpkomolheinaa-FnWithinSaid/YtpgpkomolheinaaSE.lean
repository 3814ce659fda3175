/-
  Draws: what each gives.
-/
import Derived.Test.YtpgpkomolheinaaS10
import Derived.Test.YtpgpkomolheinaaVxe
set_option linter.unusedVariables false
set_option linter.unusedSimpArgs false
namespace Go.Proofs.Ytpgpkomolheinaa
open Go.Vx

theorem gof {Ψ : Fns} {t : Told1} (h : Good1 Try.prog (fun _ => Ψ t.f) t) : Good1 Try.prog Ψ t := h.tr rfl
theorem smA {r : List D} : szDs kAlarm r = (cell r 0).asList.length + sumR (szDs kLabel) (cell r 0).asList + (cell r 3).asStr.size := by
  simp only [szDs_cons, szDs_nil, szD, cell_tail, Nat.zero_add, Nat.reduceAdd]; omega
theorem smL {r : List D} : szDs kLabel r = (cell r 0).asStr.size + (cell r 1).asStr.size := by
  simp only [szDs_cons, szDs_nil, szD, cell_tail, Nat.zero_add, Nat.reduceAdd]; omega

abbrev qByte : List D → Prop := fun rest => rest = []
abbrev rByte : List D → List D → Prop := fun rest r => 0 ≤ (cell r 0).asInt ∧ (cell r 0).asInt < 256
noncomputable abbrev fByte : Fact := (100, fun φ => Good1 Try.prog (fun _ => φ) g100 ∧ DrawF g100.rets qByte rByte φ)
abbrev qBelow : List D → Prop := fun rest => rest.length = 1
abbrev rBelow : List D → List D → Prop := fun rest r => 0 ≤ (cell r 0).asInt ∧ (0 < (cell rest 0).asInt → (cell r 0).asInt < (cell rest 0).asInt)
noncomputable abbrev fBelow : Fact := (93, fun φ => Good1 Try.prog (fun _ => φ) g93 ∧ DrawF g93.rets qBelow rBelow φ)
abbrev qOnce : List D → Prop := fun rest => rest.length = 1
abbrev rOnce : List D → List D → Prop := fun rest r => True
noncomputable abbrev fOnce : Fact := (83, fun φ => Good1 Try.prog (fun _ => φ) g83 ∧ DrawF g83.rets qOnce rOnce φ)
abbrev qInt : List D → Prop := fun rest => rest.length = 1 ∧ 0 < (cell rest 0).asList.length ∧ (cell rest 0).asList.length ≤ 1048576
abbrev rInt : List D → List D → Prop := fun rest r => ∃ i, i < (cell rest 0).asList.length ∧ cell r 0 = cell (rowN (cell rest 0).asList i) 0
noncomputable abbrev fInt : Fact := (102, fun φ => Good1 Try.prog (fun _ => φ) g102 ∧ DrawF g102.rets qInt rInt φ)
abbrev qStr : List D → Prop := fun rest => rest.length = 1 ∧ 0 < (cell rest 0).asList.length ∧ (cell rest 0).asList.length ≤ 1048576
abbrev rStr : List D → List D → Prop := fun rest r => ∃ i, i < (cell rest 0).asList.length ∧ cell r 0 = cell (rowN (cell rest 0).asList i) 0
noncomputable abbrev fStr : Fact := (103, fun φ => Good1 Try.prog (fun _ => φ) g103 ∧ DrawF g103.rets qStr rStr φ)
abbrev qPlain : List D → Prop := fun rest => rest = []
abbrev rPlain : List D → List D → Prop := fun rest r => (cell r 0).asStr.size ≤ 16
noncomputable abbrev fPlain : Fact := (101, fun φ => Good1 Try.prog (fun _ => φ) g101 ∧ DrawF g101.rets qPlain rPlain φ)
abbrev qLab : List D → Prop := fun rest => rest = []
abbrev rLab : List D → List D → Prop := fun rest r => (cell r 0).asList.length ≤ 4 ∧ sumR (szDs kLabel) (cell r 0).asList ≤ 64
noncomputable abbrev fLab : Fact := (95, fun φ => Good1 Try.prog (fun _ => φ) g95 ∧ DrawF g95.rets qLab rLab φ)
abbrev qAl : List D → Prop := fun rest => rest = []
abbrev rAl : List D → List D → Prop := fun rest r => szDs kAlarm r ≤ 100
noncomputable abbrev fAl : Fact := (94, fun φ => Good1 Try.prog (fun _ => φ) g94 ∧ DrawF g94.rets qAl rAl φ)
abbrev qList : List D → Prop := fun rest => rest = []
abbrev rList : List D → List D → Prop := fun rest r => (cell r 0).asList.length ≤ 5 ∧ sumR (szDs kAlarm) (cell r 0).asList ≤ 500
noncomputable abbrev fList : Fact := (82, fun φ => Good1 Try.prog (fun _ => φ) g82 ∧ DrawF g82.rets qList rList φ)
abbrev qLbl : List D → Prop := fun rest => rest.length = 1 ∧ (cell rest 0).asList.length + sumR (szDs kAlarm) (cell rest 0).asList ≤ 1048576
abbrev rLbl : List D → List D → Prop := fun rest r => (cell r 0).asList.length ≤ 1048576
noncomputable abbrev fLbl : Fact := (84, fun φ => Good1 Try.prog (fun _ => φ) g84 ∧ DrawF g84.rets qLbl rLbl φ)

section
variable {Ψ : Fns}
theorem dByte (h : fByte.2 (Ψ 100)) {c : D} (hc : curOk c) : (Ψ 100 1000 [c]).asBool = true ∧ (0 ≤ (Ψ 100 0 [c]).asInt ∧ (Ψ 100 0 [c]).asInt < 256) ∧ curOk (Ψ 100 2000 [c]) := h.2 c [] hc rfl
theorem dBelow (h : fBelow.2 (Ψ 93)) {c n : D} (hc : curOk c) : (Ψ 93 1000 [c, n]).asBool = true ∧ (0 ≤ (Ψ 93 0 [c, n]).asInt ∧ (0 < n.asInt → (Ψ 93 0 [c, n]).asInt < n.asInt)) ∧ curOk (Ψ 93 2000 [c, n]) := h.2 c [n] hc rfl
theorem dOnce (h : fOnce.2 (Ψ 83)) {c n : D} (hc : curOk c) : (Ψ 83 1000 [c, n]).asBool = true ∧ curOk (Ψ 83 2000 [c, n]) := ⟨(h.2 c [n] hc rfl).1, (h.2 c [n] hc rfl).2.2⟩
theorem dInt (h : fInt.2 (Ψ 102)) {c n : D} (hc : curOk c) (h0 : 0 < n.asList.length) (h1 : n.asList.length ≤ 1048576) : (Ψ 102 1000 [c, n]).asBool = true ∧ (∃ i, i < n.asList.length ∧ Ψ 102 0 [c, n] = cell (rowN n.asList i) 0) ∧ curOk (Ψ 102 2000 [c, n]) := h.2 c [n] hc ⟨rfl, h0, h1⟩
theorem dStr (h : fStr.2 (Ψ 103)) {c n : D} (hc : curOk c) (h0 : 0 < n.asList.length) (h1 : n.asList.length ≤ 1048576) : (Ψ 103 1000 [c, n]).asBool = true ∧ (∃ i, i < n.asList.length ∧ Ψ 103 0 [c, n] = cell (rowN n.asList i) 0) ∧ curOk (Ψ 103 2000 [c, n]) := h.2 c [n] hc ⟨rfl, h0, h1⟩
theorem dPlain (h : fPlain.2 (Ψ 101)) {c : D} (hc : curOk c) : (Ψ 101 1000 [c]).asBool = true ∧ (Ψ 101 0 [c]).asStr.size ≤ 16 ∧ curOk (Ψ 101 2000 [c]) := h.2 c [] hc rfl
theorem dLab (h : fLab.2 (Ψ 95)) {c : D} (hc : curOk c) : (Ψ 95 1000 [c]).asBool = true ∧ ((Ψ 95 0 [c]).asList.length ≤ 4 ∧ sumR (szDs kLabel) (Ψ 95 0 [c]).asList ≤ 64) ∧ curOk (Ψ 95 2000 [c]) := h.2 c [] hc rfl
theorem dAl (h : fAl.2 (Ψ 94)) {c : D} (hc : curOk c) : (Ψ 94 1000 [c]).asBool = true ∧ szDs kAlarm (Ψ 94 0 [c]).row ≤ 100 ∧ curOk (Ψ 94 2000 [c]) := by
  obtain ⟨h1, h2, h3⟩ := h.2 c [] hc rfl
  refine ⟨h1, ?_, h3⟩
  simpa [g94, rAl, smA, RSh.ds, List.range, List.range.loop, cell] using h2
theorem dList (h : fList.2 (Ψ 82)) {c : D} (hc : curOk c) : (Ψ 82 1000 [c]).asBool = true ∧ ((Ψ 82 0 [c]).asList.length ≤ 5 ∧ sumR (szDs kAlarm) (Ψ 82 0 [c]).asList ≤ 500) ∧ curOk (Ψ 82 2000 [c]) := h.2 c [] hc rfl
theorem dLbl (h : fLbl.2 (Ψ 84)) {c l : D} (hc : curOk c) (hl : l.asList.length + sumR (szDs kAlarm) l.asList ≤ 1048576) : (Ψ 84 1000 [c, l]).asBool = true ∧ (Ψ 84 0 [c, l]).asList.length ≤ 1048576 ∧ curOk (Ψ 84 2000 [c, l]) := h.2 c [l] hc ⟨rfl, hl⟩

set_option maxRecDepth 100000 in
theorem sByte : ∃ φ, fByte.2 φ := drawB tok mixed (Φ := Φ) (l := []) (by simp) Try.func100 (by decide) (by kernel_rfl) (by decide) _ _ (by decide) (by decide) (by decide) v100_eq
    (fun _ h => by rw [h]; rfl) (fun _ _ => ⟨[.int 0], rfl, by simp [rByte, D.asInt]⟩) (fun c rest hc h => by
  subst h
  have h1 := hc.1
  have h2 := hc.2
  have key : ∀ x : Int, 0 ≤ (intV .and .i64 x 255).asInt ∧ (intV .and .i64 x 255).asInt < 256 := fun x => by
    obtain ⟨n, hn, e⟩ := and255 x
    rw [e]
    simp only [D.asInt_int]
    omega
  simp [v100, g100, RSh.cells, rByte, key]
  refine ⟨fun h => ⟨⟨h2, h⟩, h1, ?_⟩, fun _ => ⟨h1, h2⟩⟩
  simp
  rw [w64 (by omega) (by omega)]
  omega)
set_option maxRecDepth 100000 in
theorem sBelow (H1 : fByte.2 (Ψ 100)) : ∃ φ, fBelow.2 φ := drawB tok mixed (Φ := Ψ) (l := [g100]) (by simpa using gof (t := g100) H1.1) Try.func93 (by decide) (by kernel_rfl) (by decide) _ _ (by decide) (by decide) (by decide) v93_eq
    (fun _ h => h) (fun _ _ => ⟨[.int 0], rfl, by simp [rBelow, D.asInt]⟩) (fun c rest hc h => by
  obtain ⟨n, rfl⟩ : ∃ n, rest = [n] := by match rest, h with | [n], _ => exact ⟨n, rfl⟩
  have a1 := dByte H1 hc
  have a2 := dByte H1 a1.2.2
  have a3 := dByte H1 a2.2.2
  simp [v93, g93, RSh.cells, rBelow, a1, a2, a3, hc]
  refine fun h => ⟨fun h' => ⟨by omega, ?_⟩, fun h' => ⟨by omega, ?_⟩⟩
  · have := rem_range a1.2.1.1 (y := n.asInt) (by omega)
    exact ⟨this.1, fun _ => this.2⟩
  · have b1 := a1.2.1
    have b2 := a2.2.1
    have b3 := a3.2.1
    rw [w64 (n := _ * 65536) (by omega) (by omega), w64 (n := _ * 256) (by omega) (by omega), w64 (n := _ * 65536 + _ * 256) (by omega) (by omega), w64 (by omega) (by omega)]
    have := rem_range (x := (Ψ 100 0 [c]).asInt * 65536 + (Ψ 100 0 [Ψ 100 2000 [c]]).asInt * 256 + (Ψ 100 0 [Ψ 100 2000 [Ψ 100 2000 [c]]]).asInt) (y := n.asInt) (by omega) (by omega)
    exact ⟨this.1, fun _ => this.2⟩)
set_option maxRecDepth 100000 in
theorem sOnce (H1 : fBelow.2 (Ψ 93)) : ∃ φ, fOnce.2 φ := drawB tok mixed (Φ := Ψ) (l := [g93]) (by simpa using gof (t := g93) H1.1) Try.func83 (by decide) (by kernel_rfl) (by decide) _ _ (by decide) (by decide) (by decide) v83_eq
    (fun _ h => h) (fun _ _ => ⟨[.int 0], rfl, trivial⟩) (fun c rest hc h => by
  obtain ⟨n, rfl⟩ : ∃ n, rest = [n] := by match rest, h with | [n], _ => exact ⟨n, rfl⟩
  have a1 := dBelow H1 (n := n) hc
  simp [v83, g83, RSh.cells, rOnce, a1])
set_option maxRecDepth 100000 in
theorem sInt (H1 : fBelow.2 (Ψ 93)) : ∃ φ, fInt.2 φ := drawB tok mixed (Φ := Ψ) (l := [g93]) (by simpa using gof (t := g93) H1.1) Try.func102 (by decide) (by kernel_rfl) (by decide) _ _ (by decide) (by decide) (by decide) v102_eq
    (fun _ h => h.1) (fun rest h => ⟨[cell (rowN (cell rest 0).asList 0) 0], rfl, show rInt _ _ from ⟨0, h.2.1, rfl⟩⟩) (fun c rest hc h => by
  obtain ⟨n, rfl⟩ : ∃ n, rest = [n] := by match rest, h.1 with | [n], _ => exact ⟨n, rfl⟩
  have a1 := dBelow H1 (n := .int n.asList.length) hc
  have h2 := h.2
  simp only [cell_zero] at h2
  have h3 := a1.2.1.2 (by simp only [D.asInt_int]; omega)
  simp only [D.asInt_int] at h3
  simp [v102, g102, RSh.cells, rInt, a1, h3, Vx.rowAt]
  exact ⟨(Ψ 93 0 [c, .int n.asList.length]).asInt.toNat, by have := a1.2.1.1; omega, rfl⟩)
set_option maxRecDepth 100000 in
theorem sStr (H1 : fBelow.2 (Ψ 93)) : ∃ φ, fStr.2 φ := drawB tok mixed (Φ := Ψ) (l := [g93]) (by simpa using gof (t := g93) H1.1) Try.func103 (by decide) (by kernel_rfl) (by decide) _ _ (by decide) (by decide) (by decide) v103_eq
    (fun _ h => h.1) (fun rest h => ⟨[cell (rowN (cell rest 0).asList 0) 0], rfl, show rStr _ _ from ⟨0, h.2.1, rfl⟩⟩) (fun c rest hc h => by
  obtain ⟨n, rfl⟩ : ∃ n, rest = [n] := by match rest, h.1 with | [n], _ => exact ⟨n, rfl⟩
  have a1 := dBelow H1 (n := .int n.asList.length) hc
  have h2 := h.2
  simp only [cell_zero] at h2
  have h3 := a1.2.1.2 (by simp only [D.asInt_int]; omega)
  simp only [D.asInt_int] at h3
  simp [v103, g103, RSh.cells, rStr, a1, h3, Vx.rowAt]
  exact ⟨(Ψ 93 0 [c, .int n.asList.length]).asInt.toNat, by have := a1.2.1.1; omega, rfl⟩)
end
end Go.Proofs.Ytpgpkomolheinaa


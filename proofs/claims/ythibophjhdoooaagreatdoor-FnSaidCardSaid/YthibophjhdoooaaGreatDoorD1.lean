/-
  Draws: what each gives.
-/
import Derived.Test.YthibophjhdoooaaGreatDoorS6
import Derived.Test.YthibophjhdoooaaGreatDoorVxe
set_option linter.unusedVariables false
set_option linter.unusedSimpArgs false
namespace Go.Proofs.YthibophjhdoooaaGreatDoor
open Go.Vx

theorem gof {Ψ : Fns} {t : Told1} (h : Good1 Tryz.prog (fun _ => Ψ t.f) t) : Good1 Tryz.prog Ψ t := h.tr rfl
theorem smA {r : List D} : szDs kAlarm r = (cell r 0).asList.length + sumR (szDs kLabel) (cell r 0).asList + (cell r 3).asStr.size := by
  simp only [szDs_cons, szDs_nil, szD, cell_tail, Nat.zero_add, Nat.reduceAdd]; omega
theorem smL {r : List D} : szDs kLabel r = (cell r 0).asStr.size + (cell r 1).asStr.size := by
  simp only [szDs_cons, szDs_nil, szD, cell_tail, Nat.zero_add, Nat.reduceAdd]; omega

abbrev qByte : List D → Prop := fun rest => rest = []
abbrev rByte : List D → List D → Prop := fun rest r => 0 ≤ (cell r 0).asInt ∧ (cell r 0).asInt < 256
noncomputable abbrev fByte : Fact := (55, fun φ => Good1 Tryz.prog (fun _ => φ) g55 ∧ DrawF g55.rets qByte rByte φ)
abbrev qBelow : List D → Prop := fun rest => rest.length = 1
abbrev rBelow : List D → List D → Prop := fun rest r => 0 ≤ (cell r 0).asInt ∧ (0 < (cell rest 0).asInt → (cell r 0).asInt < (cell rest 0).asInt)
noncomputable abbrev fBelow : Fact := (26, fun φ => Good1 Tryz.prog (fun _ => φ) g26 ∧ DrawF g26.rets qBelow rBelow φ)
abbrev qOnce : List D → Prop := fun rest => rest.length = 1
abbrev rOnce : List D → List D → Prop := fun rest r => True
noncomputable abbrev fOnce : Fact := (42, fun φ => Good1 Tryz.prog (fun _ => φ) g42 ∧ DrawF g42.rets qOnce rOnce φ)
abbrev qInt : List D → Prop := fun rest => rest.length = 1 ∧ 0 < (cell rest 0).asList.length ∧ (cell rest 0).asList.length ≤ 1048576
abbrev rInt : List D → List D → Prop := fun rest r => ∃ i, i < (cell rest 0).asList.length ∧ cell r 0 = cell (rowN (cell rest 0).asList i) 0
noncomputable abbrev fInt : Fact := (45, fun φ => Good1 Tryz.prog (fun _ => φ) g45 ∧ DrawF g45.rets qInt rInt φ)
abbrev qStr : List D → Prop := fun rest => rest.length = 1 ∧ 0 < (cell rest 0).asList.length ∧ (cell rest 0).asList.length ≤ 1048576
abbrev rStr : List D → List D → Prop := fun rest r => ∃ i, i < (cell rest 0).asList.length ∧ cell r 0 = cell (rowN (cell rest 0).asList i) 0
noncomputable abbrev fStr : Fact := (67, fun φ => Good1 Tryz.prog (fun _ => φ) g67 ∧ DrawF g67.rets qStr rStr φ)
abbrev qPlain : List D → Prop := fun rest => rest = []
abbrev rPlain : List D → List D → Prop := fun rest r => (cell r 0).asStr.size ≤ 16 ∧ PlainOk (cell r 0).asStr
noncomputable abbrev fPlain : Fact := (66, fun φ => Good1 Tryz.prog (fun _ => φ) g66 ∧ DrawF g66.rets qPlain rPlain φ)
abbrev qLab : List D → Prop := fun rest => rest = []
abbrev rLab : List D → List D → Prop := fun rest r => (1 ≤ (cell r 0).asList.length ∧ (rowN (cell r 0).asList 0).length = 2) ∧ (cell r 0).asList.length ≤ 4 ∧ sumR (szDs kLabel) (cell r 0).asList ≤ 64 ∧ SetOk (cell r 0).asList
noncomputable abbrev fLab : Fact := (46, fun φ => Good1 Tryz.prog (fun _ => φ) g46 ∧ DrawF g46.rets qLab rLab φ)
abbrev qAl : List D → Prop := fun rest => rest = []
abbrev rAl : List D → List D → Prop := fun rest r => szDs kAlarm r ≤ 100 ∧ AlOk r
noncomputable abbrev fAl : Fact := (44, fun φ => Good1 Tryz.prog (fun _ => φ) g44 ∧ DrawF g44.rets qAl rAl φ)
abbrev qList : List D → Prop := fun rest => rest = []
abbrev rList : List D → List D → Prop := fun rest r => (cell r 0).asList.length ≤ 5 ∧ sumR (szDs kAlarm) (cell r 0).asList ≤ 500 ∧ ∀ x ∈ (cell r 0).asList, AlOk x
theorem row0_app {xs ys : List (List D)} (h : 1 ≤ xs.length) : rowN (xs ++ ys) 0 = rowN xs 0 := by
  cases xs with
  | nil => simp at h
  | cons x xs => rfl

theorem row_app {xs : List (List D)} (r : List D) {i : Nat} (h : i < xs.length) : rowN (xs ++ [r]) i = rowN xs i := by
  unfold rowN
  simp [List.getD, List.getElem?_append_left h]
theorem row_end {xs : List (List D)} (r : List D) : rowN (xs ++ [r]) xs.length = r := by simp [rowN]
theorem setOk_one {r : List D} (h : LabOk r) : SetOk [r] := ⟨by simp, fun i hi => by
  obtain rfl : i = 0 := by simpa using hi
  exact ⟨h, fun h => absurd h (by omega)⟩⟩
theorem setOk_app {xs : List (List D)} {r : List D} (h : SetOk xs) (hl : xs.length < 4) (hr : LabOk r) (hb : 0 < xs.length → Op.bytesLess (cell (rowN xs (xs.length - 1)) 0).asStr.toList (cell r 0).asStr.toList = true) : SetOk (xs ++ [r]) := by
  refine ⟨by simp; omega, fun i hi => ?_⟩
  simp at hi
  by_cases h1 : i < xs.length
  · unfold SetAt
    rw [row_app r h1, row_app r (show i - 1 < xs.length by omega)]
    exact h.2 i h1
  · obtain rfl : i = xs.length := by omega
    unfold SetAt
    rw [row_end]
    refine ⟨hr, fun h0 => ?_⟩
    rw [row_app r (show xs.length - 1 < xs.length by omega)]
    exact hb h0
def nmB : Nat → ByteArray | 0 => ⟨#[97, 112, 112]⟩ | 1 => ⟨#[104, 111, 115, 116]⟩ | 2 => ⟨#[115, 101, 118]⟩ | _ => ⟨#[122, 111, 110, 101]⟩
theorem nm_less : ∀ j i : Nat, j ≤ i → i < 3 → Op.bytesLess (nmB j).toList (nmB (i + 1)).toList = true
  | 0, 0, _, _ => by decide +kernel
  | 0, 1, _, _ => by decide +kernel
  | 0, 2, _, _ => by decide +kernel
  | 1, 1, _, _ => by decide +kernel
  | 1, 2, _, _ => by decide +kernel
  | 2, 2, _, _ => by decide +kernel
  | _, i + 3, _, h => absurd h (by omega)
  | j + 1, 0, h, _ => absurd h (by omega)
  | j + 2, 1, h, _ => absurd h (by omega)
  | j + 3, 2, h, _ => absurd h (by omega)
theorem nm_ok : ∀ j : Nat, NameOk (nmB j)
  | 0 => by unfold NameOk NameB; decide +kernel
  | 1 => by unfold NameOk NameB; decide +kernel
  | 2 => by unfold NameOk NameB; decide +kernel
  | _ + 3 => (show NameOk ⟨#[122, 111, 110, 101]⟩ by unfold NameOk NameB; decide +kernel)

section
variable {Ψ : Fns}
theorem dByte (h : fByte.2 (Ψ 55)) {c : D} (hc : curOk c) : (Ψ 55 1000 [c]).asBool = true ∧ (0 ≤ (Ψ 55 0 [c]).asInt ∧ (Ψ 55 0 [c]).asInt < 256) ∧ curOk (Ψ 55 2000 [c]) := h.2 c [] hc rfl
theorem dBelow (h : fBelow.2 (Ψ 26)) {c n : D} (hc : curOk c) : (Ψ 26 1000 [c, n]).asBool = true ∧ (0 ≤ (Ψ 26 0 [c, n]).asInt ∧ (0 < n.asInt → (Ψ 26 0 [c, n]).asInt < n.asInt)) ∧ curOk (Ψ 26 2000 [c, n]) := h.2 c [n] hc rfl
theorem dOnce (h : fOnce.2 (Ψ 42)) {c n : D} (hc : curOk c) : (Ψ 42 1000 [c, n]).asBool = true ∧ curOk (Ψ 42 2000 [c, n]) := ⟨(h.2 c [n] hc rfl).1, (h.2 c [n] hc rfl).2.2⟩
theorem dInt (h : fInt.2 (Ψ 45)) {c n : D} (hc : curOk c) (h0 : 0 < n.asList.length) (h1 : n.asList.length ≤ 1048576) : (Ψ 45 1000 [c, n]).asBool = true ∧ (∃ i, i < n.asList.length ∧ Ψ 45 0 [c, n] = cell (rowN n.asList i) 0) ∧ curOk (Ψ 45 2000 [c, n]) := h.2 c [n] hc ⟨rfl, h0, h1⟩
theorem dStr (h : fStr.2 (Ψ 67)) {c n : D} (hc : curOk c) (h0 : 0 < n.asList.length) (h1 : n.asList.length ≤ 1048576) : (Ψ 67 1000 [c, n]).asBool = true ∧ (∃ i, i < n.asList.length ∧ Ψ 67 0 [c, n] = cell (rowN n.asList i) 0) ∧ curOk (Ψ 67 2000 [c, n]) := h.2 c [n] hc ⟨rfl, h0, h1⟩
theorem dPlain (h : fPlain.2 (Ψ 66)) {c : D} (hc : curOk c) : (Ψ 66 1000 [c]).asBool = true ∧ (Ψ 66 0 [c]).asStr.size ≤ 16 ∧ curOk (Ψ 66 2000 [c]) := ⟨(h.2 c [] hc rfl).1, (h.2 c [] hc rfl).2.1.1, (h.2 c [] hc rfl).2.2⟩
theorem dPlainOk (h : fPlain.2 (Ψ 66)) {c : D} (hc : curOk c) : PlainOk (Ψ 66 0 [c]).asStr := (h.2 c [] hc rfl).2.1.2
theorem dLab (h : fLab.2 (Ψ 46)) {c : D} (hc : curOk c) : (Ψ 46 1000 [c]).asBool = true ∧ ((1 ≤ (Ψ 46 0 [c]).asList.length ∧ (rowN (Ψ 46 0 [c]).asList 0).length = 2) ∧ (Ψ 46 0 [c]).asList.length ≤ 4 ∧ sumR (szDs kLabel) (Ψ 46 0 [c]).asList ≤ 64) ∧ curOk (Ψ 46 2000 [c]) := ⟨(h.2 c [] hc rfl).1, ⟨(h.2 c [] hc rfl).2.1.1, (h.2 c [] hc rfl).2.1.2.1, (h.2 c [] hc rfl).2.1.2.2.1⟩, (h.2 c [] hc rfl).2.2⟩
theorem dLabOk (h : fLab.2 (Ψ 46)) {c : D} (hc : curOk c) : SetOk (Ψ 46 0 [c]).asList := (h.2 c [] hc rfl).2.1.2.2.2
theorem dAl (h : fAl.2 (Ψ 44)) {c : D} (hc : curOk c) : (Ψ 44 1000 [c]).asBool = true ∧ szDs kAlarm (Ψ 44 0 [c]).row ≤ 100 ∧ curOk (Ψ 44 2000 [c]) := by
  obtain ⟨h1, ⟨h2, -⟩, h3⟩ := h.2 c [] hc rfl
  refine ⟨h1, ?_, h3⟩
  simpa [g44, smA, RSh.ds, List.range, List.range.loop, cell] using h2
theorem dAlOk (h : fAl.2 (Ψ 44)) {c : D} (hc : curOk c) : AlOk (Ψ 44 0 [c]).row := by
  obtain ⟨h1, ⟨-, h2⟩, h3⟩ := h.2 c [] hc rfl
  simpa [g44, AlOk, RSh.ds, List.range, List.range.loop, cell] using h2
set_option maxRecDepth 100000 in
theorem sByte : ∃ φ, fByte.2 φ := drawB tok mixed (Φ := Φ) (l := []) (by simp) Tryz.func55 (by decide) (by kernel_rfl) (by decide) _ _ (by decide) (by decide) (by decide) v55_eq
    (fun _ h => by rw [h]; rfl) (fun _ _ => ⟨[.int 0], rfl, by simp [rByte, D.asInt]⟩) (fun c rest hc h => by
  subst h
  have h1 := hc.1
  have h2 := hc.2
  have key : ∀ x : Int, 0 ≤ (intV .and .i64 x 255).asInt ∧ (intV .and .i64 x 255).asInt < 256 := fun x => by
    obtain ⟨n, hn, e⟩ := and255 x
    rw [e]
    simp only [D.asInt_int]
    omega
  simp [v55, g55, RSh.cells, rByte, key]
  refine ⟨fun h => ⟨⟨h2, h⟩, h1, ?_⟩, fun _ => ⟨h1, h2⟩⟩
  simp
  rw [w64 (by omega) (by omega)]
  omega)
set_option maxRecDepth 100000 in
theorem sBelow (H1 : fByte.2 (Ψ 55)) : ∃ φ, fBelow.2 φ := drawB tok mixed (Φ := Ψ) (l := [g55]) (by simpa using gof (t := g55) H1.1) Tryz.func26 (by decide) (by kernel_rfl) (by decide) _ _ (by decide) (by decide) (by decide) v26_eq
    (fun _ h => h) (fun _ _ => ⟨[.int 0], rfl, by simp [rBelow, D.asInt]⟩) (fun c rest hc h => by
  obtain ⟨n, rfl⟩ : ∃ n, rest = [n] := by match rest, h with | [n], _ => exact ⟨n, rfl⟩
  have a1 := dByte H1 hc
  have a2 := dByte H1 a1.2.2
  have a3 := dByte H1 a2.2.2
  simp [v26, g26, RSh.cells, rBelow, a1, a2, a3, hc]
  refine fun h => ⟨fun h' => ⟨by omega, ?_⟩, fun h' => ⟨by omega, ?_⟩⟩
  · have := rem_range a1.2.1.1 (y := n.asInt) (by omega)
    exact ⟨this.1, fun _ => this.2⟩
  · have b1 := a1.2.1
    have b2 := a2.2.1
    have b3 := a3.2.1
    rw [w64 (n := _ * 65536) (by omega) (by omega), w64 (n := _ * 256) (by omega) (by omega), w64 (n := _ * 65536 + _ * 256) (by omega) (by omega), w64 (by omega) (by omega)]
    have := rem_range (x := (Ψ 55 0 [c]).asInt * 65536 + (Ψ 55 0 [Ψ 55 2000 [c]]).asInt * 256 + (Ψ 55 0 [Ψ 55 2000 [Ψ 55 2000 [c]]]).asInt) (y := n.asInt) (by omega) (by omega)
    exact ⟨this.1, fun _ => this.2⟩)
set_option maxRecDepth 100000 in
theorem sOnce (H1 : fBelow.2 (Ψ 26)) : ∃ φ, fOnce.2 φ := drawB tok mixed (Φ := Ψ) (l := [g26]) (by simpa using gof (t := g26) H1.1) Tryz.func42 (by decide) (by kernel_rfl) (by decide) _ _ (by decide) (by decide) (by decide) v42_eq
    (fun _ h => h) (fun _ _ => ⟨[.int 0], rfl, trivial⟩) (fun c rest hc h => by
  obtain ⟨n, rfl⟩ : ∃ n, rest = [n] := by match rest, h with | [n], _ => exact ⟨n, rfl⟩
  have a1 := dBelow H1 (n := n) hc
  simp [v42, g42, RSh.cells, rOnce, a1])
set_option maxRecDepth 100000 in
theorem sInt (H1 : fBelow.2 (Ψ 26)) : ∃ φ, fInt.2 φ := drawB tok mixed (Φ := Ψ) (l := [g26]) (by simpa using gof (t := g26) H1.1) Tryz.func45 (by decide) (by kernel_rfl) (by decide) _ _ (by decide) (by decide) (by decide) v45_eq
    (fun _ h => h.1) (fun rest h => ⟨[cell (rowN (cell rest 0).asList 0) 0], rfl, show rInt _ _ from ⟨0, h.2.1, rfl⟩⟩) (fun c rest hc h => by
  obtain ⟨n, rfl⟩ : ∃ n, rest = [n] := by match rest, h.1 with | [n], _ => exact ⟨n, rfl⟩
  have a1 := dBelow H1 (n := .int n.asList.length) hc
  have h2 := h.2
  simp only [cell_zero] at h2
  have h3 := a1.2.1.2 (by simp only [D.asInt_int]; omega)
  simp only [D.asInt_int] at h3
  simp [v45, g45, RSh.cells, rInt, a1, h3, Vx.rowAt]
  exact ⟨(Ψ 26 0 [c, .int n.asList.length]).asInt.toNat, by have := a1.2.1.1; omega, rfl⟩)
set_option maxRecDepth 100000 in
theorem sStr (H1 : fBelow.2 (Ψ 26)) : ∃ φ, fStr.2 φ := drawB tok mixed (Φ := Ψ) (l := [g26]) (by simpa using gof (t := g26) H1.1) Tryz.func67 (by decide) (by kernel_rfl) (by decide) _ _ (by decide) (by decide) (by decide) v67_eq
    (fun _ h => h.1) (fun rest h => ⟨[cell (rowN (cell rest 0).asList 0) 0], rfl, show rStr _ _ from ⟨0, h.2.1, rfl⟩⟩) (fun c rest hc h => by
  obtain ⟨n, rfl⟩ : ∃ n, rest = [n] := by match rest, h.1 with | [n], _ => exact ⟨n, rfl⟩
  have a1 := dBelow H1 (n := .int n.asList.length) hc
  have h2 := h.2
  simp only [cell_zero] at h2
  have h3 := a1.2.1.2 (by simp only [D.asInt_int]; omega)
  simp only [D.asInt_int] at h3
  simp [v67, g67, RSh.cells, rStr, a1, h3, Vx.rowAt]
  exact ⟨(Ψ 26 0 [c, .int n.asList.length]).asInt.toNat, by have := a1.2.1.1; omega, rfl⟩)
end
end Go.Proofs.YthibophjhdoooaaGreatDoor


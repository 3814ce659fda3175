/-
  Plain functions, by how large what they give is.
-/
import Derived.Test.YthibophjhdoooaaGreatDoorD5
set_option linter.unusedVariables false
set_option linter.unusedSimpArgs false
namespace Go.Proofs.YthibophjhdoooaaGreatDoor
open Go.Vx

theorem sz_cp (r : List D) : szDs kAlarm (cpAl r) = szDs kAlarm r := by rw [smA, smA]; simp [cpAl]
theorem sum_cp : ∀ xs : List (List D), sumR (szDs kAlarm) (xs.flatMap fun r => [cpAl r]) = sumR (szDs kAlarm) xs
  | [] => rfl
  | x :: xs => by rw [List.flatMap_cons, sumR_append, sum_cp xs]; simp [sumR, sz_cp]
theorem sum_set {p : List D → Nat} (x : List D) : ∀ (xs : List (List D)) (i : Nat), sumR p (xs.set i x) ≤ sumR p xs + p x
  | [], _ => by simp [sumR]
  | y :: xs, 0 => by simp [sumR]; omega
  | y :: xs, i + 1 => by have := sum_set (p := p) x xs i; simp [sumR]; omega
abbrev lsz (n m : Nat) (d : D) : Prop := d.asList.length ≤ n ∧ sumR (szDs kAlarm) d.asList ≤ m
abbrev qHas : List D → Prop := fun ds => (cell ds 0).asList.length ≤ 1048576
abbrev rHas : List D → List D → Prop := fun ds r => r.length = 1 ∧ True
noncomputable abbrev fHas : Fact := (101, fun φ => Good1 Tryz.prog (fun _ => φ) g101 ∧ PlainP g101 qHas rHas φ)
abbrev qProj : List D → Prop := fun ds => (cell ds 0).asList.length ≤ 1048576 ∧ (cell ds 1).asList.length ≤ 1048576
abbrev rProj : List D → List D → Prop := fun ds r => r.length = 1 ∧ (cell r 0).asList.length ≤ (cell ds 0).asList.length
noncomputable abbrev fProj : Fact := (88, fun φ => Good1 Tryz.prog (fun _ => φ) g88 ∧ PlainP g88 qProj rProj φ)
abbrev qKey : List D → Prop := fun ds => (cell (cell ds 0).row 0).asList.length ≤ 1048576 ∧ (cell ds 1).asList.length ≤ 1048576
abbrev rKey : List D → List D → Prop := fun ds r => r.length = 1 ∧ (cell r 0).asList.length ≤ (cell (cell ds 0).row 0).asList.length
noncomputable abbrev fKey : Fact := (71, fun φ => Good1 Tryz.prog (fun _ => φ) g71 ∧ PlainP g71 qKey rKey φ)
abbrev qTog : List D → Prop := fun ds => ((cell (cell ds 0).row 0).asList.length ≤ 1048576 ∧ (cell (cell ds 1).row 0).asList.length ≤ 1048576) ∧ (cell ds 2).asList.length ≤ 1048576
abbrev rTog : List D → List D → Prop := fun ds r => r.length = 1 ∧ True
noncomputable abbrev fTog : Fact := (72, fun φ => Good1 Tryz.prog (fun _ => φ) g72 ∧ PlainP g72 qTog rTog φ)
abbrev qSLess : List D → Prop := fun ds => (cell ds 0).asList.length ≤ 1048576 ∧ (cell ds 1).asList.length ≤ 1048576
abbrev rSLess : List D → List D → Prop := fun ds r => r.length = 1 ∧ True
noncomputable abbrev fSLess : Fact := (90, fun φ => Good1 Tryz.prog (fun _ => φ) g90 ∧ PlainP g90 qSLess rSLess φ)
abbrev qOver : List D → Prop := fun ds => True
abbrev rOver : List D → List D → Prop := fun ds r => r.length = 1 ∧ True
noncomputable abbrev fOver : Fact := (50, fun φ => Good1 Tryz.prog (fun _ => φ) g50 ∧ PlainP g50 qOver rOver φ)
abbrev qGCopy : List D → Prop := fun ds => (cell (cell ds 0).row 1).asList.length ≤ 1048576 ∧ (cell (cell ds 0).row 4).asList.length + sumR (szDs kAlarm) (cell (cell ds 0).row 4).asList ≤ 1048576
abbrev rGCopy : List D → List D → Prop := fun ds r => r.length = 5 ∧ (cell r 1).asList.length = (cell (cell ds 0).row 1).asList.length ∧ (cell r 4).asList = (cell (cell ds 0).row 4).asList.flatMap fun r => [cpAl r]
noncomputable abbrev fGCopy : Fact := (49, fun φ => Good1 Tryz.prog (fun _ => φ) g49 ∧ PlainP g49 qGCopy rGCopy φ)
abbrev qJoin : List D → Prop := fun ds => (cell (cell ds 0).row 1).asList.length ≤ 1000 ∧ lsz 1000 100000 (cell (cell ds 0).row 4) ∧ szDs kAlarm (cell ds 1).row ≤ 1000
abbrev rJoin : List D → List D → Prop := fun ds r => r.length = 5 ∧ (cell r 1).asList.length = (cell (cell ds 0).row 1).asList.length ∧ (cell r 4).asList.length ≤ (cell (cell ds 0).row 4).asList.length + 1 ∧ sumR (szDs kAlarm) (cell r 4).asList ≤ sumR (szDs kAlarm) (cell (cell ds 0).row 4).asList + szDs kAlarm (cell ds 1).row
noncomputable abbrev fJoin : Fact := (73, fun φ => Good1 Tryz.prog (fun _ => φ) g73 ∧ PlainP g73 qJoin rJoin φ)
abbrev qSCopy : List D → Prop := fun ds => (cell (cell ds 0).row 0).asList.length + sumR (szDs kAlarm) (cell (cell ds 0).row 0).asList ≤ 1048576
abbrev rSCopy : List D → List D → Prop := fun ds r => r.length = 2 ∧ (cell r 0).asList = (cell (cell ds 0).row 0).asList.flatMap fun r => [cpAl r]
noncomputable abbrev fSCopy : Fact := (91, fun φ => Good1 Tryz.prog (fun _ => φ) g91 ∧ PlainP g91 qSCopy rSCopy φ)
abbrev qTell : List D → Prop := fun ds => lsz 1000 100000 (cell (cell ds 0).row 0) ∧ szDs kAlarm (cell ds 1).row ≤ 1000
abbrev rTell : List D → List D → Prop := fun ds r => r.length = 2 ∧ (cell r 0).asList.length ≤ (cell (cell ds 0).row 0).asList.length + 1 ∧ sumR (szDs kAlarm) (cell r 0).asList ≤ sumR (szDs kAlarm) (cell (cell ds 0).row 0).asList + szDs kAlarm (cell ds 1).row
noncomputable abbrev fTell : Fact := (75, fun φ => Good1 Tryz.prog (fun _ => φ) g75 ∧ PlainP g75 qTell rTell φ)
abbrev qBCopy : List D → Prop := fun ds => (cell (cell ds 0).row 1).asList.length ≤ 1048576 ∧ (cell (cell ds 0).row 3).asList.length + sumR (szDs kAlarm) (cell (cell ds 0).row 3).asList ≤ 1048576
abbrev rBCopy : List D → List D → Prop := fun ds r => r.length = 4 ∧ (cell r 3).asList.length = (cell (cell ds 0).row 3).asList.length
noncomputable abbrev fBCopy : Fact := (52, fun φ => Good1 Tryz.prog (fun _ => φ) g52 ∧ PlainP g52 qBCopy rBCopy φ)
abbrev qFlush : List D → Prop := fun ds => (cell (cell ds 0).row 1).asList.length ≤ 1000 ∧ lsz 1000 100000 (cell (cell ds 0).row 4)
abbrev rFlush : List D → List D → Prop := fun ds r => r.length = 9 ∧ (cell r 8).asList.length ≤ 1000
noncomputable abbrev fFlush : Fact := (23, fun φ => Good1 Tryz.prog (fun _ => φ) g23 ∧ PlainP g23 qFlush rFlush φ)
abbrev qCodes : List D → Prop := fun ds => True
abbrev rCodes : List D → List D → Prop := fun ds r => r.length = 1 ∧ 1 ≤ (cell r 0).asList.length ∧ (cell r 0).asList.length ≤ 10
noncomputable abbrev fCodes : Fact := (43, fun φ => Good1 Tryz.prog (fun _ => φ) g43 ∧ PlainP g43 qCodes rCodes φ)

section
variable {Ψ : Fns}

set_option maxRecDepth 100000 in
theorem sHas   : ∃ φ, fHas.2 φ := drawP tok mixed (Φ := Φ) (l := []) (by simp) Tryz.func101 (by decide) (by kernel_rfl) (by decide) qHas rHas (by decide) v101_eq
    (args2 fun a b hp => by
  have hp : a.asList.length ≤ 1048576 := hp
  refine wp_loop' (fun v => ∃ i : Nat, v = [.int i] ∧ i ≤ a.asList.length) (fun v => a.asList.length - (cell v 0).asInt.toNat) ⟨0, rfl, by omega⟩ ?_
  simp only [allN_succ, allN_zero, kinds_cons, kinds_nil]
  rintro d1 - ⟨i, hv, hi⟩
  simp only [List.cons.injEq, and_true] at hv
  subst hv
  simp [rHas]
  intro h1
  refine ⟨h1, fun _ => ?_⟩
  rw [w64 (n := (i : Int) + 1) (by omega) (by omega)]
  exact ⟨⟨i + 1, by simp, by omega⟩, by omega⟩) (fun ds _ _ => ⟨[.bool false], rfl, trivial⟩) (fun _ _ h => by simpa [g101, RSh.cells] using h.1)

set_option maxRecDepth 100000 in
theorem sProj (H0 : fHas.2 (Ψ 101))  : ∃ φ, fProj.2 φ := drawP tok mixed (Φ := Ψ) (l := [g101]) (by simp [gof (t := g101) H0.1]) Tryz.func88 (by decide) (by kernel_rfl) (by decide) qProj rProj (by decide) v88_eq
    (args2 fun a b hp => by
  obtain ⟨h1, h2⟩ : a.asList.length ≤ 1048576 ∧ b.asList.length ≤ 1048576 := hp
  have hh : ∀ x, (Ψ 101 1000 [b, x]).asBool = true := fun x => (H0.2 [b, x] rfl h2).1
  refine wp_loop' (fun v => ∃ (i : Nat) (x : D), v = [.int i, x] ∧ i ≤ a.asList.length ∧ x.asList.length ≤ i) (fun v => a.asList.length - (cell v 0).asInt.toNat) ⟨0, _, rfl, by omega, by simp [chunk]⟩ ?_
  simp only [allN_succ, allN_zero, kinds_cons, kinds_nil]
  rintro d1 d2 - - ⟨i, x, hv, hi, hx⟩
  simp only [List.cons.injEq, and_true] at hv
  obtain ⟨rfl, rfl⟩ := hv
  simp [hh, rProj, chunk, lenMax]
  refine ⟨fun h3 => ⟨h3, fun _ => ⟨by omega, ?_⟩, fun _ => ?_⟩, fun h3 => by omega⟩
  · rw [w64 (n := (i : Int) + 1) (by omega) (by omega)]
    exact ⟨⟨i + 1, _, ⟨by simp, rfl⟩, by omega, by simp; omega⟩, by omega⟩
  · rw [w64 (n := (i : Int) + 1) (by omega) (by omega)]
    exact ⟨⟨i + 1, _, ⟨by simp, rfl⟩, by omega, by omega⟩, by omega⟩) (fun ds _ _ => ⟨[.sl []], rfl, by simp⟩) (fun _ _ h => by simpa [g88, RSh.cells] using h.1)

set_option maxRecDepth 100000 in
theorem sKey (H0 : fProj.2 (Ψ 88))  : ∃ φ, fKey.2 φ := drawP tok mixed (Φ := Ψ) (l := [g88]) (by simp [gof (t := g88) H0.1]) Tryz.func71 (by decide) (by kernel_rfl) (by decide) qKey rKey (by decide) v71_eq
    (args2 fun a b hp => by
  obtain ⟨h1, h2⟩ : (cell a.row 0).asList.length ≤ 1048576 ∧ b.asList.length ≤ 1048576 := hp
  obtain ⟨q1, -, q2⟩ := H0.2 [cell a.row 0, b] rfl ⟨h1, h2⟩
  simp [g88] at q2
  simp [v71, rKey, q1, q2]) (fun ds _ _ => ⟨[.sl []], rfl, by simp⟩) (fun _ _ h => by simpa [g71, RSh.cells] using h.1)

set_option maxRecDepth 100000 in
theorem sTog (H0 : fKey.2 (Ψ 71)) (B0 : Ψ 89 = Φ 89) : ∃ φ, fTog.2 φ := drawP tok mixed (Φ := Ψ) (l := [g71, g89]) (by simp [gof (t := g71) H0.1, ok89.tr B0]) Tryz.func72 (by decide) (by kernel_rfl) (by decide) qTog rTog (by decide) v72_eq
    (args3 fun a b c hp => by
  obtain ⟨⟨h1, h2⟩, h3⟩ : ((cell a.row 0).asList.length ≤ 1048576 ∧ (cell b.row 0).asList.length ≤ 1048576) ∧ c.asList.length ≤ 1048576 := hp
  obtain ⟨q1, -⟩ := H0.2 [a, c] rfl ⟨h1, h3⟩
  obtain ⟨q2, -⟩ := H0.2 [b, c] rfl ⟨h2, h3⟩
  have B0' : Ψ 89 = mEqL kLabel := B0
  simp [v72, rTog, q1, q2, B0', mEqL]) (fun ds _ _ => ⟨[.bool false], rfl, trivial⟩) (fun _ _ h => by simpa [g72, RSh.cells] using h.1)

set_option maxRecDepth 100000 in
theorem sSLess  (B0 : Ψ 83 = Φ 83) : ∃ φ, fSLess.2 φ := drawP tok mixed (Φ := Ψ) (l := [g83]) (by simp [ok83.tr B0]) Tryz.func90 (by decide) (by kernel_rfl) (by decide) qSLess rSLess (by decide) v90_eq
    (args2 fun a b hp => by
  obtain ⟨h1, h2⟩ : a.asList.length ≤ 1048576 ∧ b.asList.length ≤ 1048576 := hp
  have B0' : Ψ 83 = mB fun ds => Op.bytesLess (cell ds 0).asStr.toList (cell ds 1).asStr.toList = true := B0
  refine wp_loop' (fun v => ∃ i : Nat, v = [.int i] ∧ i ≤ a.asList.length) (fun v => a.asList.length - (cell v 0).asInt.toNat) ⟨0, rfl, by omega⟩ ?_
  simp only [allN_succ, allN_zero, kinds_cons, kinds_nil]
  rintro d1 - ⟨i, hv, hi⟩
  simp only [List.cons.injEq, and_true] at hv
  subst hv
  simp [rSLess, B0', mB]
  intro h3 h4
  refine ⟨⟨h3, h4⟩, fun _ => ⟨h3, h4⟩, fun _ => ⟨⟨h3, h4⟩, fun _ => ⟨h3, h4⟩, fun _ => ?_⟩⟩
  rw [w64 (n := (i : Int) + 1) (by omega) (by omega)]
  exact ⟨⟨i + 1, by simp, by omega⟩, by omega⟩) (fun ds _ _ => ⟨[.bool false], rfl, trivial⟩) (fun _ _ h => by simpa [g90, RSh.cells] using h.1)

set_option maxRecDepth 100000 in
theorem sOver   : ∃ φ, fOver.2 φ := drawP tok mixed (Φ := Φ) (l := []) (by simp) Tryz.func50 (by decide) (by kernel_rfl) (by decide) qOver rOver (by decide) v50_eq
    (args2 fun a b hp => by
  simp [v50, rOver]) (fun ds _ _ => ⟨[.bool false], rfl, trivial⟩) (fun _ _ h => by simpa [g50, RSh.cells] using h.1)

set_option maxRecDepth 100000 in
theorem sGCopy  (B0 : Ψ 70 = Φ 70) : ∃ φ, fGCopy.2 φ := drawP tok mixed (Φ := Ψ) (l := [g70]) (by simp [ok70.tr B0]) Tryz.func49 (by decide) (by kernel_rfl) (by decide) qGCopy rGCopy (by decide) v49_eq
    (args1 fun a hp => by
  obtain ⟨h1, h2⟩ : (cell a.row 1).asList.length ≤ 1048576 ∧ (cell a.row 4).asList.length + sumR (szDs kAlarm) (cell a.row 4).asList ≤ 1048576 := hp
  have B0' : Ψ 70 = mCpAls := B0
  simp [v49, rGCopy, B0', mCpAls, h2, chunk, lenMax]
  omega) (fun ds _ _ => ⟨[.int 0, .sl (cell (cell ds 0).row 1).asList, .int 0, .int 0, .sl ((cell (cell ds 0).row 4).asList.flatMap fun r => [cpAl r])], rfl, by simp, by simp⟩) (fun _ _ h => by simpa [g49, RSh.cells] using h.1)

set_option maxRecDepth 100000 in
theorem sSCopy  (B0 : Ψ 70 = Φ 70) : ∃ φ, fSCopy.2 φ := drawP tok mixed (Φ := Ψ) (l := [g70]) (by simp [ok70.tr B0]) Tryz.func91 (by decide) (by kernel_rfl) (by decide) qSCopy rSCopy (by decide) v91_eq
    (args1 fun a hp => by
  have h2 : (cell a.row 0).asList.length + sumR (szDs kAlarm) (cell a.row 0).asList ≤ 1048576 := hp
  have B0' : Ψ 70 = mCpAls := B0
  simp [v91, rSCopy, B0', mCpAls, h2]) (fun ds _ _ => ⟨[.sl ((cell (cell ds 0).row 0).asList.flatMap fun r => [cpAl r]), .bool false], rfl, by simp⟩) (fun _ _ h => by simpa [g91, RSh.cells] using h.1)

set_option maxRecDepth 100000 in
theorem sTell (H0 : fSCopy.2 (Ψ 91)) (B0 : Ψ 51 = Φ 51) : ∃ φ, fTell.2 φ := drawP tok mixed (Φ := Ψ) (l := [g51, g91]) (by simp [gof (t := g91) H0.1, ok51.tr B0]) Tryz.func75 (by decide) (by kernel_rfl) (by decide) qTell rTell (by decide) v75_eq
    (args2 fun a b hp => by
  obtain ⟨⟨h1, h2⟩, h3⟩ : lsz 1000 100000 (cell a.row 0) ∧ szDs kAlarm b.row ≤ 1000 := hp
  have B0' : Ψ 51 = mCpAl := B0
  obtain ⟨q1, -, q2⟩ := H0.2 [a] rfl (show (cell a.row 0).asList.length + sumR (szDs kAlarm) (cell a.row 0).asList ≤ 1048576 by omega)
  simp [g91] at q2
  have q3 : (cell (Ψ 91 0 [a]).row 0).asList.length = (cell a.row 0).asList.length := by rw [q2, one_len]
  have q4 : sumR (szDs kAlarm) (cell (Ψ 91 0 [a]).row 0).asList = sumR (szDs kAlarm) (cell a.row 0).asList := by rw [q2, sum_cp]
  have h4 := h3
  rw [smA] at h4
  simp [v75, rTell, B0', mCpAl, cpAl, q1, chunk, lenMax, sumR_append, sumR, smA, q3, q4]
  omega) (fun ds _ _ => ⟨[.sl [], .bool false], rfl, by simp, by simp [sumR]⟩) (fun _ _ h => by simpa [g75, RSh.cells] using h.1)

set_option maxRecDepth 100000 in
theorem sCodes   : ∃ φ, fCodes.2 φ := drawP tok mixed (Φ := Φ) (l := []) (by simp) Tryz.func43 (by decide) (by kernel_rfl) (by decide) qCodes rCodes (by decide) v43_eq
    (args1 fun a hp => by
  simp [v43, rCodes, chunk]) (fun ds _ _ => ⟨[.sl [[.int 0]]], rfl, by simp, by simp⟩) (fun _ _ h => by simpa [g43, RSh.cells] using h.1)

set_option maxRecDepth 100000 in
theorem sBCopy (B0 : Ψ 70 = Φ 70) : ∃ φ, fBCopy.2 φ := drawP tok mixed (Φ := Ψ) (l := [g70]) (by simp [ok70.tr B0]) Tryz.func52 (by decide) (by kernel_rfl) (by decide) qBCopy rBCopy (by decide) v52_eq
    (args1 fun a hp => by
  obtain ⟨h1, h2⟩ : (cell a.row 1).asList.length ≤ 1048576 ∧ (cell a.row 3).asList.length + sumR (szDs kAlarm) (cell a.row 3).asList ≤ 1048576 := hp
  have B0' : Ψ 70 = mCpAls := B0
  have h3 := one_len cpAl (cell a.row 3).asList
  simp [v52, rBCopy, B0', mCpAls, h2, chunk, lenMax, h3, -List.length_flatMap]
  omega) (fun ds _ _ => ⟨[.int 0, .sl [], .int 0, .sl ((cell (cell ds 0).row 3).asList.flatMap fun r => [cpAl r])], rfl, one_len cpAl _⟩) (fun _ _ h => by simpa [g52, RSh.cells] using h.1)

set_option maxRecDepth 100000 in
theorem sFlush (H0 : fGCopy.2 (Ψ 49)) (H1 : fOver.2 (Ψ 50)) (H2 : fBCopy.2 (Ψ 52)) (B0 : Ψ 51 = Φ 51) : ∃ φ, fFlush.2 φ := drawP tok mixed (Φ := Ψ) (l := [g49, g50, g51, g52]) (by simp [gof (t := g49) H0.1, gof (t := g50) H1.1, ok51.tr B0, gof (t := g52) H2.1]) Tryz.func23 (by decide) (by kernel_rfl) (by decide) qFlush rFlush (by decide) v23_eq
    (args2 fun a b hp => by
  obtain ⟨h1, h2, h3⟩ : (cell a.row 1).asList.length ≤ 1000 ∧ lsz 1000 100000 (cell a.row 4) := hp
  have B0' : Ψ 51 = mCpAl := B0
  have hq : qGCopy [a] := ⟨show (cell a.row 1).asList.length ≤ 1048576 by omega, show (cell a.row 4).asList.length + sumR (szDs kAlarm) (cell a.row 4).asList ≤ 1048576 by omega⟩
  obtain ⟨k1, -, k2⟩ := H2.2 [.sl [[cell a.row 0, cell a.row 1, b, cell a.row 4]]] rfl ⟨show (cell a.row 1).asList.length ≤ 1048576 by omega, show (cell a.row 4).asList.length + sumR (szDs kAlarm) (cell a.row 4).asList ≤ 1048576 by omega⟩
  simp [g52] at k2
  have ho : ∀ x y, (Ψ 50 1000 [x, y]).asBool = true := fun x y => (H1.2 [x, y] rfl trivial).1
  obtain ⟨q1, -, q2⟩ := H0.2 [a] rfl hq
  unfold v23
  rw [wp_req']
  refine ⟨by simp [q1], ?_⟩
  refine wp_loop' (fun v => ∃ (i : Nat) (x : D), v = [.int i, x] ∧ i ≤ (cell a.row 4).asList.length ∧ x.asList.length ≤ i) (fun v => (cell a.row 4).asList.length - (cell v 0).asInt.toNat) ⟨0, _, rfl, by omega, by simp [chunk]⟩ ?_
  simp only [allN_succ, allN_zero, kinds_cons, kinds_nil]
  rintro d1 d2 - - ⟨i, x, hv, hi, hx⟩
  simp only [List.cons.injEq, and_true] at hv
  obtain ⟨rfl, rfl⟩ := hv
  have hrow : ∀ h : i < (cell a.row 4).asList.length, (cell (rowN (cell a.row 4).asList i) 0).asList.length ≤ 100000 := fun h => by
    have := row_sum (p := szDs kAlarm) h
    rw [smA] at this
    omega
  simp [rFlush, ho, B0', mCpAl, cpAl, chunk, lenMax, rowAt_nat, k1, k2]
  refine ⟨fun h4 => ⟨h4, fun _ => ⟨⟨h4, by have := hrow h4; omega⟩, by omega, ?_⟩, fun _ => ?_⟩, fun _ => h2⟩
  · rw [w64 (n := (i : Int) + 1) (by omega) (by omega)]
    exact ⟨⟨i + 1, _, ⟨by simp, rfl⟩, by omega, by simp; omega⟩, by omega⟩
  · rw [w64 (n := (i : Int) + 1) (by omega) (by omega)]
    exact ⟨⟨i + 1, _, ⟨by simp, rfl⟩, by omega, by omega⟩, by omega⟩) (fun ds _ _ => ⟨[.int 0, .sl [], .int 0, .int 0, .sl [], .int 0, .sl [], .int 0, .sl []], rfl, by simp⟩) (fun _ _ h => by simpa [g23, RSh.cells] using h.1)
set_option maxRecDepth 100000 in
theorem sJoin (H0 : fGCopy.2 (Ψ 49)) (H1 : fSLess.2 (Ψ 90)) (B0 : Ψ 51 = Φ 51) (B1 : Ψ 70 = Φ 70) (B2 : Ψ 89 = Φ 89) : ∃ φ, fJoin.2 φ :=
  drawP tok mixed (Φ := Ψ) (l := [g49, g51, g70, g89, g90]) (by simp [gof (t := g49) H0.1, gof (t := g90) H1.1, ok51.tr B0, ok70.tr B1, ok89.tr B2]) Tryz.func73 (by decide) (by kernel_rfl) (by decide) qJoin rJoin (by decide) v73_eq
    (args2 fun a b hp => by
  obtain ⟨h1, ⟨h2, h3⟩, h4⟩ : (cell a.row 1).asList.length ≤ 1000 ∧ lsz 1000 100000 (cell a.row 4) ∧ szDs kAlarm b.row ≤ 1000 := hp
  have B0' : Ψ 51 = mCpAl := B0
  have B1' : Ψ 70 = mCpAls := B1
  have B2' : Ψ 89 = mEqL kLabel := B2
  have hq : qGCopy [a] := ⟨show (cell a.row 1).asList.length ≤ 1048576 by omega, show (cell a.row 4).asList.length + sumR (szDs kAlarm) (cell a.row 4).asList ≤ 1048576 by omega⟩
  obtain ⟨q1, -, q2, q3⟩ := H0.2 [a] rfl hq
  simp [g49] at q2 q3
  have q4 : (cell (Ψ 49 0 [a]).row 4).asList.length = (cell a.row 4).asList.length := by rw [q3, one_len]
  have q5 : sumR (szDs kAlarm) (cell (Ψ 49 0 [a]).row 4).asList = sumR (szDs kAlarm) (cell a.row 4).asList := by rw [q3, sum_cp]
  have hl : (cell b.row 0).asList.length ≤ 1000 := by rw [smA] at h4; omega
  have hrow : ∀ i, i < (cell a.row 4).asList.length → (cell (rowN (cell a.row 4).asList i) 0).asList.length ≤ 100000 := fun i h => by
    have := row_sum (p := szDs kAlarm) h
    rw [smA] at this
    omega
  have hrl : ∀ i, i < (cell a.row 4).asList.length → (rowN (cell (Ψ 49 0 [a]).row 4).asList i).length = 4 := fun i h => by
    have := rowN_mem (xs := (cell (Ψ 49 0 [a]).row 4).asList) (i := i) (by omega)
    rw [q3] at this
    obtain ⟨r, _, hr⟩ := List.mem_flatMap.1 this
    rw [q3, List.mem_singleton.1 hr]
    rfl
  unfold v73
  rw [wp_req', wp_req']
  refine ⟨by simp [q1], by simp [B0', mCpAl]; omega, ?_⟩
  refine wp_loop' (fun v => ∃ i : Nat, v = [.int i] ∧ i ≤ (cell a.row 4).asList.length) (fun v => (cell a.row 4).asList.length - (cell v 0).asInt.toNat) ⟨0, rfl, by omega⟩ ?_
  simp only [allN_succ, allN_zero, kinds_cons, kinds_nil]
  rintro d1 - ⟨i, hv, hi⟩
  simp only [List.cons.injEq, and_true] at hv
  subst hv
  rw [wp_ite']
  refine ⟨fun hlt => ?_, fun hge => ?_⟩
  · have hlt : i < (cell a.row 4).asList.length := by simpa using hlt
    have hset := fun x => sum_set (p := szDs kAlarm) x (cell (Ψ 49 0 [a]).row 4).asList i
    have hw := w64 (n := (i : Int) + 1) (by omega) (by omega)
    have hs1 := hset [.sl (cell b.row 0).asList, cell b.row 1, cell b.row 2, cell b.row 3]
    have hz : szDs kAlarm [.sl (cell b.row 0).asList, cell b.row 1, cell b.row 2, cell b.row 3] = szDs kAlarm b.row := by rw [smA, smA]; simp
    rw [hz, q5] at hs1
    have hd4 : (rowN (cell (Ψ 49 0 [a]).row 4).asList i).drop 4 = [] := List.drop_eq_nil_of_le (by rw [hrl i hlt]; omega)
    simp [rJoin, B0', B2', mCpAl, cpAl, mEqL, hlt, rowAt_nat, q2, q4, hrl i hlt, hd4, hw, hs1]
    exact fun _ => ⟨⟨i + 1, by simp, by omega⟩, by omega⟩
  · refine wp_loop' (fun v => ∃ k : Nat, v = [.int k] ∧ k ≤ (cell a.row 4).asList.length) (fun v => (cell a.row 4).asList.length - (cell v 0).asInt.toNat) ⟨0, rfl, by omega⟩ ?_
    simp only [allN_succ, allN_zero, kinds_cons, kinds_nil]
    rintro d2 - ⟨k, hv, hk⟩
    simp only [List.cons.injEq, and_true] at hv
    subst hv
    have hsl : ∀ i, i < (cell a.row 4).asList.length → (Ψ 90 1000 [cell b.row 0, cell (rowN (cell a.row 4).asList i) 0]).asBool = true := fun i h =>
      (H1.2 [cell b.row 0, cell (rowN (cell a.row 4).asList i) 0] rfl ⟨show (cell b.row 0).asList.length ≤ 1048576 by omega, show (cell (rowN (cell a.row 4).asList i) 0).asList.length ≤ 1048576 by have := hrow i h; omega⟩).1
    have hw := w64 (n := (k : Int) + 1) (by omega) (by omega)
    have e1 : sumR (szDs kAlarm) ((cell a.row 4).asList.take k) + sumR (szDs kAlarm) ((cell a.row 4).asList.drop k) = sumR (szDs kAlarm) (cell a.row 4).asList := by rw [← sumR_append, List.take_append_drop]
    have e2 : ((cell a.row 4).asList.take k).length + ((cell a.row 4).asList.drop k).length = (cell a.row 4).asList.length := by rw [← List.length_append, List.take_append_drop]
    have e3 : ((cell a.row 4).asList.drop k).take ((cell a.row 4).asList.length - k) = (cell a.row 4).asList.drop k := List.take_of_length_le (by simp)
    have e4 : (((cell a.row 4).asList.take k).flatMap fun r : List D => [[D.sl (cell r 0).asList, cell r 1, cell r 2, cell r 3]]).length = ((cell a.row 4).asList.take k).length := one_len cpAl _
    have e5 : (((cell a.row 4).asList.drop k).flatMap fun r : List D => [[D.sl (cell r 0).asList, cell r 1, cell r 2, cell r 3]]).length = ((cell a.row 4).asList.drop k).length := one_len cpAl _
    have s4 : sumR (szDs kAlarm) (((cell a.row 4).asList.take k).flatMap fun r : List D => [[D.sl (cell r 0).asList, cell r 1, cell r 2, cell r 3]]) = sumR (szDs kAlarm) ((cell a.row 4).asList.take k) := sum_cp _
    have s5 : sumR (szDs kAlarm) (((cell a.row 4).asList.drop k).flatMap fun r : List D => [[D.sl (cell r 0).asList, cell r 1, cell r 2, cell r 3]]) = sumR (szDs kAlarm) ((cell a.row 4).asList.drop k) := sum_cp _
    have e6 : (k : Int).toNat = k := by omega
    have hz : szDs kAlarm [.sl (cell b.row 0).asList, cell b.row 1, cell b.row 2, cell b.row 3] = szDs kAlarm b.row := by rw [smA, smA]; simp
    have p1 : ((cell a.row 4).asList.take k).length + sumR (szDs kAlarm) ((cell a.row 4).asList.take k) ≤ 1048576 := by omega
    have p2 : ((cell a.row 4).asList.drop k).length + sumR (szDs kAlarm) ((cell a.row 4).asList.drop k) ≤ 1048576 := by omega
    by_cases hlt : k < (cell a.row 4).asList.length
    · simp [rJoin, B0', B1', mCpAl, mCpAls, cpAl, hlt, rowAt_nat, hw, hsl k hlt, hk, q2, e3, e4, e5, s4, s5, sumR_append, sumR, hz, chunk, lenMax, -List.length_flatMap, -List.length_take, -List.length_drop]
      exact ⟨fun _ => ⟨⟨k + 1, by simp, by omega⟩, by omega⟩, fun _ => by omega⟩
    · simp [rJoin, B0', B1', mCpAl, mCpAls, cpAl, hlt, rowAt_nat, hw, hk, q2, e3, e4, e5, s4, s5, sumR_append, sumR, hz, chunk, lenMax, -List.length_flatMap, -List.length_take, -List.length_drop]
      omega) (fun ds _ _ => ⟨[.int 0, .sl (cell (cell ds 0).row 1).asList, .int 0, .int 0, .sl []], rfl, rfl, by simp, by simp [sumR]⟩) (fun _ _ h => by simpa [g73, RSh.cells] using h.1)
end
end Go.Proofs.YthibophjhdoooaaGreatDoor


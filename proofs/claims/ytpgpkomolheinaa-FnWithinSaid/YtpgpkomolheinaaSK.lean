/-
  What the law on some of others is called with.
-/
import Derived.Test.YtpgpkomolheinaaSH
import Derived.Test.YtpgpkomolheinaaSI
import Derived.Test.YtpgpkomolheinaaSJ
set_option linter.unusedVariables false
set_option linter.unusedSimpArgs false
namespace Go.Proofs.Ytpgpkomolheinaa
open Go.Vx

abbrev lsOk (n m : Nat) (d : D) : Prop := d.asList.length ≤ n ∧ sumR (szDs kAlarm) d.asList ≤ m
abbrev rDW : List D → List D → Prop := fun _ r => r.length = 2 ∧ lsOk 5 2500 (cell r 0) ∧ lsOk 5 2500 (cell r 1)
noncomputable abbrev fDW : Fact := (46, fun φ => Good1 Try.prog (fun _ => φ) g46 ∧ PlainF g46 qCode rDW φ)
abbrev rDO : List D → List D → Prop := fun _ r => r.length = 2 ∧ lsOk 10 5000 (cell r 0) ∧ (cell r 1).asList.length ≤ 1048576
noncomputable abbrev fDO : Fact := (47, fun φ => Good1 Try.prog (fun _ => φ) g47 ∧ PlainF g47 qCode rDO φ)
abbrev rDL : List D → List D → Prop := fun _ r => r.length = 1 ∧ lsOk 15 7500 (cell r 0)
noncomputable abbrev fDL : Fact := (48, fun φ => Good1 Try.prog (fun _ => φ) g48 ∧ PlainF g48 qCode rDL φ)

section
variable {Ψ : Fns}
set_option maxRecDepth 100000 in
theorem sDW (HN : fNew.2 (Ψ 81)) (HL : fList.2 (Ψ 82)) (HO : fOnce.2 (Ψ 83)) (hC : Ψ 64 = Φ 64) : ∃ φ, fDW.2 φ :=
  drawR tok mixed (Φ := Ψ) (l := [g64, g81, g82, g83]) (by simpa using ⟨ok64.tr hC, gof (t := g81) HN.1, gof (t := g82) HL.1, gof (t := g83) HO.1⟩) Try.func46 (by decide) (by kernel_rfl) (by decide) qCode rDW (by decide) v46_eq (args1 fun a hw hp => by
  have n1 := dNew HN hw hp
  have l1 := dList HL n1.2
  have o1 := dOnce HO (n := .int 4) l1.2.2
  have l2 := dList HL o1.2
  have hC' : Ψ 64 = mCpAl := hC
  simp [v46, n1, l1, o1, l2, rDW, lsOk]
  refine ⟨fun _ => by omega, fun _ => ?_⟩
  refine wp_loop' (fun v => ∃ (i : Nat) (b j h x : D), v = [.int i, b, j, h, x] ∧ i ≤ (Ψ 82 0 [Ψ 81 0 [a]]).asList.length ∧ x.asList.length ≤ i ∧ sumR (szDs kAlarm) x.asList ≤ 500 * i ∧ curR [b, j, h])
    (fun v => (Ψ 82 0 [Ψ 81 0 [a]]).asList.length - (cell v 0).asInt.toNat)
    ⟨0, _, _, _, _, rfl, by omega, by simp [chunk], by simp [chunk, sumR], o1.2⟩ ?_
  simp only [allN_succ, allN_zero, kinds_cons, kinds_nil]
  rintro d1 d2 d3 d4 d5 - - - - - ⟨i, b, j, h, x, hv, h1, h2, h3, h4⟩
  simp only [List.cons.injEq, and_true] at hv
  obtain ⟨rfl, rfl, rfl, rfl, rfl⟩ := hv
  have o2 := dOnce HO (c := .sl [[d2, d3, d4]]) (n := .int 2) h4
  simp [chunk, o2, hC', mCpAl, cpAl, rowAt_nat, rDW, lsOk, l1]
  refine ⟨fun hi => ⟨fun _ => ?_, fun _ => ?_⟩, fun hi => by omega⟩
  · have hr := row_sum (p := szDs kAlarm) hi
    have hr2 := hr
    rw [smA] at hr2
    refine ⟨⟨hi, by omega, by simp only [lenMax]; omega⟩, ?_⟩
    rw [w64 (n := (i : Int) + 1) (by omega) (by omega)]
    refine ⟨⟨i + 1, _, _, _, _, ⟨by simp, rfl, rfl, rfl, rfl⟩, by omega, by simp; omega, ?_, o2.2⟩, by omega⟩
    simp [sumR_append, sumR, smA]
    omega
  · rw [w64 (n := (i : Int) + 1) (by omega) (by omega)]
    exact ⟨⟨i + 1, _, _, _, _, ⟨by simp, rfl, rfl, rfl, rfl⟩, by omega, by omega, by omega, o2.2⟩, by omega⟩) (fun _ _ _ => ⟨[.sl [], .sl []], rfl, by simp [lsOk, sumR]⟩) (fun _ _ h => h.1)

set_option maxRecDepth 100000 in
theorem sDO (HN : fNew.2 (Ψ 81)) (HL : fList.2 (Ψ 82)) (HB : fLbl.2 (Ψ 84)) : ∃ φ, fDO.2 φ :=
  drawR tok mixed (Φ := Ψ) (l := [g81, g82, g84]) (by simpa using ⟨gof (t := g81) HN.1, gof (t := g82) HL.1, gof (t := g84) HB.1⟩) Try.func47 (by decide) (by kernel_rfl) (by decide) qCode rDO (by decide) v47_eq (args1 fun a hw hp => by
  have n1 := dNew HN hw hp
  have l1 := dList HL n1.2
  have l2 := dList HL l1.2.2
  have hs : lsOk 10 5000 (.sl ((Ψ 82 0 [Ψ 81 0 [a]]).asList ++ (Ψ 82 0 [Ψ 82 2000 [Ψ 81 0 [a]]]).asList)) := by
    simp [lsOk, sumR_append]
    omega
  have b1 := dLbl HB (l := .sl ((Ψ 82 0 [Ψ 81 0 [a]]).asList ++ (Ψ 82 0 [Ψ 82 2000 [Ψ 81 0 [a]]]).asList)) l2.2.2 (by have := hs.1; have := hs.2; omega)
  simp [lsOk] at hs
  simp [v47, n1, l1, l2, b1, rDO, lsOk, hs, lenMax, sumR_append]
  omega) (fun _ _ _ => ⟨[.sl [], .sl []], rfl, by simp [lsOk, sumR]⟩) (fun _ _ h => h.1)

set_option maxRecDepth 100000 in
theorem sDL (HN : fNew.2 (Ψ 81)) (HL : fList.2 (Ψ 82)) : ∃ φ, fDL.2 φ :=
  drawR tok mixed (Φ := Ψ) (l := [g81, g82]) (by simpa using ⟨gof (t := g81) HN.1, gof (t := g82) HL.1⟩) Try.func48 (by decide) (by kernel_rfl) (by decide) qCode rDL (by decide) v48_eq (args1 fun a hw hp => by
  have n1 := dNew HN hw hp
  have l1 := dList HL n1.2
  have l2 := dList HL l1.2.2
  have l3 := dList HL l2.2.2
  simp [v48, n1, l1, l2, l3, rDL, lsOk, sumR_append, lenMax]
  omega) (fun _ _ _ => ⟨[.sl []], rfl, by simp [lsOk, sumR]⟩) (fun _ _ h => h.1)
end
end Go.Proofs.Ytpgpkomolheinaa


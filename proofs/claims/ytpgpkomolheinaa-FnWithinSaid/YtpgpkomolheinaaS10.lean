/-
  Some of others, and alike: the helpers of the laws on draws.
-/
import Derived.Test.YtpgpkomolheinaaSD
import Derived.Test.YtpgpkomolheinaaS2
set_option linter.unusedVariables false
set_option linter.unusedSimpArgs false
namespace Go.Proofs.Ytpgpkomolheinaa
open Go.Vx

theorem ok60 : Good1 Try.prog Φ g60 := good1 tok mixed (l := [g63]) (by simpa using ok63) Try.func60 (by decide) (by decide) v60_eq (args2 fun a b hw hp => by
  simp [v60, show Φ 60 = mEqA kAlarm from rfl, show Φ 63 = mEqL kLabel from rfl, mEqA, mEqL, g60, eqDs_cons, eqDs_nil, eqD_str, eqD_int, eqD_sl]
  rw [Bool.eq_iff_iff]
  simp [and_assoc])
theorem ok53 : Good1 Try.prog Φ g53 := good1 tok mixed (l := [g66]) (by simpa using ok66) Try.func53 (by decide) (by decide) v53_eq (args2 fun a b hw hp => by
  simp [v53, show Φ 53 = mEqA kAlarm from rfl, show Φ 66 = mEqL kLabel from rfl, mEqA, mEqL, g53, eqDs_cons, eqDs_nil, eqD_str, eqD_int, eqD_sl]
  rw [Bool.eq_iff_iff]
  simp [and_assoc])
theorem within_nil (p : List D → List D → Bool) (xs : List (List D)) : within p xs [] = tt (xs = []) := by
  cases xs <;> simp [within]
theorem within_hit {p : List D → List D → Bool} {xs ys : List (List D)} {i k : Nat} (hi : i < xs.length) (hk : k < ys.length) (h : p (rowN xs i) (rowN ys k) = true) :
    within p (xs.drop i) (ys.drop k) = within p (xs.drop (i + 1)) (ys.drop (k + 1)) := by
  rw [List.drop_eq_getElem_cons hi, List.drop_eq_getElem_cons hk]
  rw [rowN_lt hi, rowN_lt hk] at h
  simp [within, h]
theorem within_miss {p : List D → List D → Bool} {xs ys : List (List D)} {i k : Nat} (hi : i < xs.length) (hk : k < ys.length) (h : p (rowN xs i) (rowN ys k) = false) :
    within p (xs.drop i) (ys.drop k) = within p (xs.drop i) (ys.drop (k + 1)) := by
  rw [List.drop_eq_getElem_cons hi, List.drop_eq_getElem_cons hk]
  rw [rowN_lt hi, rowN_lt hk] at h
  simp [within, h]

theorem ok14 : Good1 Try.prog Φ g14 := good1 tok mixed (l := [g60]) (by simpa using ok60) Try.func14 (by decide) (by decide) v14_eq (args2 fun a b hw hp => by
  simp [g14] at hw
  have ha : (a.asList.length : Int) ≤ 140737488355328 := by have := hw.1.1; simp only [lenMax] at this; omega
  have hb : (b.asList.length : Int) ≤ 140737488355328 := by have := hw.2.1; simp only [lenMax] at this; omega
  show v14.wp Φ (fun l => l = [.bool (within (eqDs kAlarm) a.asList b.asList)]) [a, b] _
  refine wp_loop' (fun v => ∃ i k : Nat, v = [.int i, .int k] ∧ i ≤ a.asList.length ∧ k ≤ b.asList.length ∧ within (eqDs kAlarm) (a.asList.drop i) (b.asList.drop k) = within (eqDs kAlarm) a.asList b.asList)
    (fun v => b.asList.length - (cell v 1).asInt.toNat) ⟨0, 0, by simp, by omega, by omega, by simp⟩ ?_
  simp [-tt_and]
  intro d e _ _ i k hd he hi hk hI
  subst hd he
  simp [show Φ 60 = mEqA kAlarm from rfl, mEqA, rowAt_nat]
  refine ⟨fun h1 h2 => ⟨⟨h2, h1⟩, fun h3 => ?_, fun h3 => ?_⟩, fun h1 => ?_⟩
  · rw [w64 (by omega) (by omega), w64 (by omega) (by omega)]
    exact ⟨⟨i + 1, k + 1, by simp, by omega, by omega, by rw [← hI, within_hit h2 h1 h3]⟩, by omega⟩
  · rw [w64 (by omega) (by omega)]
    exact ⟨⟨i, k + 1, by simp, by omega, by omega, by rw [← hI, within_miss h2 h1 h3]⟩, by omega⟩
  · rw [← hI]
    by_cases h2 : i = a.asList.length
    · subst h2; simp [within]
    · have h3 : k = b.asList.length := by omega
      subst h3
      rw [List.drop_length, within_nil, tt_inj]
      simp
      omega)
theorem ok16 : Good1 Try.prog Φ g16 := good1 tok mixed (l := [g53]) (by simpa using ok53) Try.func16 (by decide) (by decide) v16_eq (args2 fun a b hw hp => by
  simp [g16] at hw
  have ha : (a.asList.length : Int) ≤ 140737488355328 := by have := hw.1.1; simp only [lenMax] at this; omega
  have hb : (b.asList.length : Int) ≤ 140737488355328 := by have := hw.2.1; simp only [lenMax] at this; omega
  show v16.wp Φ (fun l => l = [.bool (within (eqDs kAlarm) a.asList b.asList)]) [a, b] _
  refine wp_loop' (fun v => ∃ i k : Nat, v = [.int i, .int k] ∧ i ≤ a.asList.length ∧ k ≤ b.asList.length ∧ within (eqDs kAlarm) (a.asList.drop i) (b.asList.drop k) = within (eqDs kAlarm) a.asList b.asList)
    (fun v => b.asList.length - (cell v 1).asInt.toNat) ⟨0, 0, by simp, by omega, by omega, by simp⟩ ?_
  simp [-tt_and]
  intro d e _ _ i k hd he hi hk hI
  subst hd he
  simp [show Φ 53 = mEqA kAlarm from rfl, mEqA, rowAt_nat]
  refine ⟨fun h1 => ⟨h1, fun h2 h3 => ?_, fun h3 => ?_⟩, fun h1 => ?_⟩
  · rw [w64 (by omega) (by omega), w64 (by omega) (by omega)]
    exact ⟨⟨i + 1, k + 1, by simp, by omega, by omega, by rw [← hI, within_hit h2 h1 h3]⟩, by omega⟩
  · rw [w64 (by omega) (by omega)]
    refine ⟨⟨i, k + 1, by simp, by omega, by omega, ?_⟩, by omega⟩
    rw [← hI]
    by_cases h2 : i < a.asList.length
    · rw [within_miss h2 h1 (h3 h2)]
    · have h4 : i = a.asList.length := by omega
      subst h4
      simp [within]
  · rw [← hI]
    have h3 : k = b.asList.length := by omega
    subst h3
    rw [List.drop_length, within_nil, tt_inj]
    simp
    omega)


theorem ok45 : Good1 Try.prog Φ g45 := good1 tok mixed (l := []) (by simp) Try.func45 (by decide) (by decide) v45_eq (args1 fun a hw hp => by
  simp [v45, g45, show Φ 45 = mBig from rfl, mBig])
theorem ok52 : Good1 Try.prog Φ g52 := good1 tok mixed (l := []) (by simp) Try.func52 (by decide) (by decide) v52_eq (args2 fun a b hw hp => by
  simp [g52, show Φ 52 = mAt from rfl, mAt] at hp
  simp [v52, g52, show Φ 52 = mAt from rfl, mAt, hp, rowAt]
  exact ⟨fun h => ⟨h, by simp [Vx.rowAt, h]⟩, fun h h' => by omega⟩)
theorem ok50 : Good1 Try.prog Φ g50 := good1 tok mixed (l := [g53]) (by simpa using ok53) Try.func50 (by decide) (by decide) v50_eq (args2 fun a b hw hp => by
  simp [g50] at hw
  refine eqV_wp (Φ := Φ) (a := a) (b := b) (p := eqDs kAlarm) (tests := [.op (.fn 53 1000) [.op .row [.var 0, .var 2], .op .row [.var 1, .var 2]]]) (t := .op (.fn 53 0) [.op .row [.var 0, .var 2], .op .row [.var 1, .var 2]]) hw.1.1
    (fun i h1 h2 => by simp [rowAt_nat, show Φ 53 = mEqA kAlarm from rfl, mEqA]) _)
end Go.Proofs.Ytpgpkomolheinaa


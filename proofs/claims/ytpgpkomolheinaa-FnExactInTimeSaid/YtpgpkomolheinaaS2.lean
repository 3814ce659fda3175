/-
  Functions of the program and of the reference: alike, some of, ahead, in time.
-/
import Derived.Test.YtpgpkomolheinaaSF
namespace Go.Proofs.Ytpgpkomolheinaa
open Go.Vx

theorem ok63 : Good1 Try.prog Φ g63 := good1 tok mixed (l := []) (by simp) Try.func63 (by decide) (by decide) v63_eq (args2 fun a b hw hp => by
  simp [g63] at hw
  exact eqV_wp (Φ := Φ) (a := a) (b := b) (p := eqDs kLabel) (tests := []) (t := .op .and [.op (.sbin .eql) [.op (.fld 0) [.op .row [.var 0, .var 2]], .op (.fld 0) [.op .row [.var 1, .var 2]]], .op (.sbin .eql) [.op (.fld 1) [.op .row [.var 0, .var 2]], .op (.fld 1) [.op .row [.var 1, .var 2]]]]) hw.1.1
    (fun i h1 h2 => by simp [rowAt_nat, eqDs_cons, eqDs_nil, eqD_str]) _)
theorem ok60 : Good1 Try.prog Φ g60 := good1 tok mixed (l := [g63]) (by simpa using ok63) Try.func60 (by decide) (by decide) v60_eq (args2 fun a b hw hp => by
  simp [v60, show Φ 60 = mEqA kAlarm from rfl, show Φ 63 = mEqL kLabel from rfl, mEqA, mEqL, g60, eqDs_cons, eqDs_nil, eqD_str, eqD_int, eqD_sl]
  rw [Bool.eq_iff_iff]
  simp [and_assoc])
theorem ok72 : Good1 Try.prog Φ g72 := good1 tok mixed (l := []) (by simp) Try.func72 (by decide) (by decide) v72_eq (args2 fun a b hw hp => by
  simp [v72, show Φ 72 = mAhead from rfl, mAhead, ahead, g72, decide_tt])
theorem ok66 : Good1 Try.prog Φ g66 := good1 tok mixed (l := []) (by simp) Try.func66 (by decide) (by decide) v66_eq (args2 fun a b hw hp => by
  simp [g66] at hw
  exact eqV_wp (Φ := Φ) (a := a) (b := b) (p := eqDs kLabel) (tests := []) (t := .op .and [.op (.sbin .eql) [.op (.fld 0) [.op .row [.var 0, .var 2]], .op (.fld 0) [.op .row [.var 1, .var 2]]], .op (.sbin .eql) [.op (.fld 1) [.op .row [.var 0, .var 2]], .op (.fld 1) [.op .row [.var 1, .var 2]]]]) hw.1.1
    (fun i h1 h2 => by simp [rowAt_nat, eqDs_cons, eqDs_nil, eqD_str]) _)
theorem ok53 : Good1 Try.prog Φ g53 := good1 tok mixed (l := [g66]) (by simpa using ok66) Try.func53 (by decide) (by decide) v53_eq (args2 fun a b hw hp => by
  simp [v53, show Φ 53 = mEqA kAlarm from rfl, show Φ 66 = mEqL kLabel from rfl, mEqA, mEqL, g53, eqDs_cons, eqDs_nil, eqD_str, eqD_int, eqD_sl]
  rw [Bool.eq_iff_iff]
  simp [and_assoc])
theorem ok74 : Good1 Try.prog Φ g74 := good1 tok mixed (l := []) (by simp) Try.func74 (by decide) (by decide) v74_eq (args2 fun a b hw hp => by
  simp [v74, show Φ 74 = mAhead from rfl, mAhead, ahead, g74, decide_tt])
theorem within_nil (p : List D → List D → Bool) (xs : List (List D)) : within p xs [] = tt (xs = []) := by
  cases xs <;> simp [within]
theorem within_hit {p : List D → List D → Bool} {xs ys : List (List D)} {i k : Nat} (hi : i < xs.length) (hk : k < ys.length) (h : p (rowN xs i) (rowN ys k) = true) :
    within p (xs.drop i) (ys.drop k) = within p (xs.drop (i + 1)) (ys.drop (k + 1)) := by
  rw [List.drop_eq_getElem_cons hi, List.drop_eq_getElem_cons hk]
  rw [rowN_lt hi, rowN_lt hk] at h
  simp [within, h]
theorem within_miss {p : List D → List D → Bool} {xs ys : List (List D)} {i k : Nat} (hi : i < xs.length) (hk : k < ys.length) (h : p (rowN xs i) (rowN ys k) = false) :
    within p (xs.drop i) (ys.drop k) = within p (xs.drop i) (ys.drop (k + 1)) := by
  rw [List.drop_eq_getElem_cons hi, List.drop_eq_getElem_cons hk]
  rw [rowN_lt hi, rowN_lt hk] at h
  simp [within, h]

theorem ok14 : Good1 Try.prog Φ g14 := good1 tok mixed (l := [g60]) (by simpa using ok60) Try.func14 (by decide) (by decide) v14_eq (args2 fun a b hw hp => by
  simp [g14] at hw
  have ha : (a.asList.length : Int) ≤ 140737488355328 := by have := hw.1.1; simp only [lenMax] at this; omega
  have hb : (b.asList.length : Int) ≤ 140737488355328 := by have := hw.2.1; simp only [lenMax] at this; omega
  show v14.wp Φ (fun l => l = [.bool (within (eqDs kAlarm) a.asList b.asList)]) [a, b] _
  refine wp_loop' (fun v => ∃ i k : Nat, v = [.int i, .int k] ∧ i ≤ a.asList.length ∧ k ≤ b.asList.length ∧ within (eqDs kAlarm) (a.asList.drop i) (b.asList.drop k) = within (eqDs kAlarm) a.asList b.asList)
    (fun v => b.asList.length - (cell v 1).asInt.toNat) ⟨0, 0, by simp, by omega, by omega, by simp⟩ ?_
  simp [-tt_and]
  intro d e _ _ i k hd he hi hk hI
  subst hd he
  simp [show Φ 60 = mEqA kAlarm from rfl, mEqA, rowAt_nat]
  refine ⟨fun h1 h2 => ⟨⟨h2, h1⟩, fun h3 => ?_, fun h3 => ?_⟩, fun h1 => ?_⟩
  · rw [w64 (by omega) (by omega), w64 (by omega) (by omega)]
    exact ⟨⟨i + 1, k + 1, by simp, by omega, by omega, by rw [← hI, within_hit h2 h1 h3]⟩, by omega⟩
  · rw [w64 (by omega) (by omega)]
    exact ⟨⟨i, k + 1, by simp, by omega, by omega, by rw [← hI, within_miss h2 h1 h3]⟩, by omega⟩
  · rw [← hI]
    by_cases h2 : i = a.asList.length
    · subst h2; simp [within]
    · have h3 : k = b.asList.length := by omega
      subst h3
      rw [List.drop_length, within_nil, tt_inj]
      simp
      omega)
theorem ok16 : Good1 Try.prog Φ g16 := good1 tok mixed (l := [g53]) (by simpa using ok53) Try.func16 (by decide) (by decide) v16_eq (args2 fun a b hw hp => by
  simp [g16] at hw
  have ha : (a.asList.length : Int) ≤ 140737488355328 := by have := hw.1.1; simp only [lenMax] at this; omega
  have hb : (b.asList.length : Int) ≤ 140737488355328 := by have := hw.2.1; simp only [lenMax] at this; omega
  show v16.wp Φ (fun l => l = [.bool (within (eqDs kAlarm) a.asList b.asList)]) [a, b] _
  refine wp_loop' (fun v => ∃ i k : Nat, v = [.int i, .int k] ∧ i ≤ a.asList.length ∧ k ≤ b.asList.length ∧ within (eqDs kAlarm) (a.asList.drop i) (b.asList.drop k) = within (eqDs kAlarm) a.asList b.asList)
    (fun v => b.asList.length - (cell v 1).asInt.toNat) ⟨0, 0, by simp, by omega, by omega, by simp⟩ ?_
  simp [-tt_and]
  intro d e _ _ i k hd he hi hk hI
  subst hd he
  simp [show Φ 53 = mEqA kAlarm from rfl, mEqA, rowAt_nat]
  refine ⟨fun h1 => ⟨h1, fun h2 h3 => ?_, fun h3 => ?_⟩, fun h1 => ?_⟩
  · rw [w64 (by omega) (by omega), w64 (by omega) (by omega)]
    exact ⟨⟨i + 1, k + 1, by simp, by omega, by omega, by rw [← hI, within_hit h2 h1 h3]⟩, by omega⟩
  · rw [w64 (by omega) (by omega)]
    refine ⟨⟨i, k + 1, by simp, by omega, by omega, ?_⟩, by omega⟩
    rw [← hI]
    by_cases h2 : i < a.asList.length
    · rw [within_miss h2 h1 (h3 h2)]
    · have h4 : i = a.asList.length := by omega
      subst h4
      simp [within]
  · rw [← hI]
    have h3 : k = b.asList.length := by omega
    subst h3
    rw [List.drop_length, within_nil, tt_inj]
    simp
    omega)

theorem allR_take {p : List D → Bool} : ∀ {xs : List (List D)} {i : Nat}, i < xs.length → allR p (xs.take (i + 1)) = (allR p (xs.take i) && p (rowN xs i))
  | x :: xs, 0, _ => by simp [allR]
  | x :: xs, i + 1, h => by
    have := allR_take (p := p) (xs := xs) (i := i) (by simpa using h)
    simp only [List.take_succ_cons, allR] at this ⊢
    rw [this, Bool.and_assoc]
    simp
theorem allR_false {p : List D → Bool} : ∀ {xs : List (List D)} {i : Nat}, i < xs.length → p (rowN xs i) = false → allR p xs = false
  | x :: xs, 0, _, h => by simp at h; simp [allR, h]
  | x :: xs, i + 1, h, hp => by simp [allR, allR_false (p := p) (xs := xs) (i := i) (by simpa using h) (by simpa using hp)]

theorem ok27 : Good1 Try.prog Φ g27 := good1 tok mixed (l := [g72]) (by simpa using ok72) Try.func27 (by decide) (by decide) v27_eq (args1 fun a hw hp => by
  simp [g27] at hw
  have ha : (a.asList.length : Int) ≤ 140737488355328 := by have := hw.1; simp only [lenMax] at this; omega
  show v27.wp Φ (fun l => l = [.bool (inTime a.asList)]) [a] _
  refine wp_loop' (fun v => ∃ i : Nat, v = [.int i] ∧ i ≤ a.asList.length ∧ allR (fun x => allR (fun y => !untimely x y) a.asList) (a.asList.take i) = true) (fun v => a.asList.length - (cell v 0).asInt.toNat) ⟨0, by simp, by omega, rfl⟩ ?_
  simp [-tt_and]
  intro d _ i hd hi hI
  subst hd
  simp only [D.asInt_int]
  refine ⟨fun h1 => ?_, fun h1 => ?_⟩
  · have h1' : i < a.asList.length := by omega
    try refine ⟨by omega, ?_⟩
    refine wp_loop' (fun v => ∃ k : Nat, v = [.int k] ∧ k ≤ a.asList.length ∧ allR (fun y => !untimely (rowN a.asList i) y) (a.asList.take k) = true) (fun v => a.asList.length - (cell v 0).asInt.toNat) ⟨0, by simp, by omega, rfl⟩ ?_
    simp [-tt_and]
    intro e _ k he hk hK
    subst he
    simp [show Φ 72 = mAhead from rfl, mAhead, rowAt_nat]
    refine ⟨fun h2 => ⟨by first | exact ⟨h1', h2⟩ | exact h2, fun c1 c2 c3 c4 => ?_, fun c => ?_⟩, fun h2 => ?_⟩
    · exact allR_false h1' (allR_false h2 (by simp [untimely, c1, c2, c3, c4]))
    · have hu : untimely (rowN a.asList i) (rowN a.asList k) = false := by
        simp [untimely]
        exact c
      rw [w64 (by omega) (by omega)]
      exact ⟨⟨k + 1, by simp, by omega, by rw [allR_take h2, hK, hu]; rfl⟩, by omega⟩
    · have hk' : k = a.asList.length := by omega
      subst hk'
      rw [List.take_length] at hK
      simp [setB]
      rw [w64 (by omega) (by omega)]
      exact ⟨⟨i + 1, by simp, by omega, by rw [allR_take h1', hI, hK]; rfl⟩, by omega⟩
  · have : i = a.asList.length := by omega
    subst this
    simp [inTime] at hI ⊢
    exact hI)
theorem ok29 : Good1 Try.prog Φ g29 := good1 tok mixed (l := [g74]) (by simpa using ok74) Try.func29 (by decide) (by decide) v29_eq (args1 fun a hw hp => by
  simp [g29] at hw
  have ha : (a.asList.length : Int) ≤ 140737488355328 := by have := hw.1; simp only [lenMax] at this; omega
  show v29.wp Φ (fun l => l = [.bool (inTime a.asList)]) [a] _
  refine wp_loop' (fun v => ∃ i : Nat, v = [.int i] ∧ i ≤ a.asList.length ∧ allR (fun x => allR (fun y => !untimely x y) a.asList) (a.asList.take i) = true) (fun v => a.asList.length - (cell v 0).asInt.toNat) ⟨0, by simp, by omega, rfl⟩ ?_
  simp [-tt_and]
  intro d _ i hd hi hI
  subst hd
  simp only [D.asInt_int]
  refine ⟨fun h1 => ?_, fun h1 => ?_⟩
  · have h1' : i < a.asList.length := by omega
    try refine ⟨by omega, ?_⟩
    refine wp_loop' (fun v => ∃ k : Nat, v = [.int k] ∧ k ≤ a.asList.length ∧ allR (fun y => !untimely (rowN a.asList i) y) (a.asList.take k) = true) (fun v => a.asList.length - (cell v 0).asInt.toNat) ⟨0, by simp, by omega, rfl⟩ ?_
    simp [-tt_and]
    intro e _ k he hk hK
    subst he
    simp [show Φ 74 = mAhead from rfl, mAhead, rowAt_nat]
    refine ⟨fun h2 => ⟨by first | exact ⟨h1', h2⟩ | exact h2, fun c1 c2 c3 c4 => ?_, fun c => ?_⟩, fun h2 => ?_⟩
    · exact allR_false h1' (allR_false h2 (by simp [untimely, c1, c2, c3, c4]))
    · have hu : untimely (rowN a.asList i) (rowN a.asList k) = false := by
        simp [untimely]
        exact c
      rw [w64 (by omega) (by omega)]
      exact ⟨⟨k + 1, by simp, by omega, by rw [allR_take h2, hK, hu]; rfl⟩, by omega⟩
    · have hk' : k = a.asList.length := by omega
      subst hk'
      rw [List.take_length] at hK
      simp [setB]
      rw [w64 (by omega) (by omega)]
      exact ⟨⟨i + 1, by simp, by omega, by rw [allR_take h1', hI, hK]; rfl⟩, by omega⟩
  · have : i = a.asList.length := by omega
    subst this
    simp [inTime] at hI ⊢
    exact hI)

end Go.Proofs.Ytpgpkomolheinaa

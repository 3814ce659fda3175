/-
  Contracts: InOwn and what it calls.
-/
import Derived.Test.YtllhihloidkghaaS2
namespace Go.Proofs.Ytllhihloidkghaa
open Go.Vx

theorem len64 {n : Nat} (h : n ≤ lenMax) : (n : Int) ≤ 140737488355328 := by simp only [lenMax] at h; omega

theorem ok65 : Good1 Try.prog Φ g65 := good1 tok mixed (l := []) (by simp) Try.func65 (by decide) (by decide) v65_eq (args2 fun a b hw hp => by
  simp [g65] at hw
  exact eqV_wp (Φ := Φ) (a := a) (b := b) (p := eqDs kLabel) (tests := []) (t := .op .and [.op (.sbin .eql) [.op (.fld 0) [.op .row [.var 0, .var 2]], .op (.fld 0) [.op .row [.var 1, .var 2]]], .op (.sbin .eql) [.op (.fld 1) [.op .row [.var 0, .var 2]], .op (.fld 1) [.op .row [.var 1, .var 2]]]]) hw.1.1
    (fun i h1 h2 => by simp [rowAt_nat, eqDs_cons, eqDs_nil, eqD_str]) _)
theorem ok68 : Good1 Try.prog Φ g68 := good1 tok mixed (l := []) (by simp) Try.func68 (by decide) (by decide) v68_eq (args2 fun a b hw hp => by
  simp [g68] at hw
  exact eqV_wp (Φ := Φ) (a := a) (b := b) (p := eqDs kLabel) (tests := []) (t := .op .and [.op (.sbin .eql) [.op (.fld 0) [.op .row [.var 0, .var 2]], .op (.fld 0) [.op .row [.var 1, .var 2]]], .op (.sbin .eql) [.op (.fld 1) [.op .row [.var 0, .var 2]], .op (.fld 1) [.op .row [.var 1, .var 2]]]]) hw.1.1
    (fun i h1 h2 => by simp [rowAt_nat, eqDs_cons, eqDs_nil, eqD_str]) _)
theorem ok122 : Good1 Try.prog Φ g122 := good1 tok mixed (l := []) (by simp) Try.func122 (by decide) (by decide) v122_eq (args2 fun a b hw hp => by
  simp [g122] at hw
  show v122.wp Φ (fun l => l = [.bool (hasB a.asList b.asStr)]) [a, b] _
  refine loop1_wp (N := a.asList.length) rfl (fun d => by simp) (len64 hw.1.1) (fun i => ∀ j, j < i → ¬ (cell (rowN a.asList j) 0).asStr = b.asStr) (fun j hj => by omega) (fun i hi hI => ?_) (fun hI p => ?_)
  · simp [rowAt_nat]
    refine ⟨hi, fun h => ?_, fun h j hj => ?_⟩
    · have : hasB a.asList b.asStr = true := by simp only [hasB, tt_ok]; exact ⟨i, hi, h⟩
      simp [this]
    · rcases Nat.lt_or_ge j i with hji | hji
      · exact hI j hji
      · have : j = i := by omega
        subst this; exact h
  · have : hasB a.asList b.asStr = false := by simp only [hasB, tt_no]; exact fun ⟨j, hj, h⟩ => hI j hj h
    simp [this])
theorem ok123 : Good1 Try.prog Φ g123 := good1 tok mixed (l := []) (by simp) Try.func123 (by decide) (by decide) v123_eq (args2 fun a b hw hp => by
  simp [g123] at hw
  show v123.wp Φ (fun l => l = [.bool (hasB a.asList b.asStr)]) [a, b] _
  refine loop1_wp (N := a.asList.length) rfl (fun d => by simp) (len64 hw.1.1) (fun i => ∀ j, j < i → ¬ (cell (rowN a.asList j) 0).asStr = b.asStr) (fun j hj => by omega) (fun i hi hI => ?_) (fun hI p => ?_)
  · simp [rowAt_nat]
    refine ⟨hi, fun h => ?_, fun h j hj => ?_⟩
    · have : hasB a.asList b.asStr = true := by simp only [hasB, tt_ok]; exact ⟨i, hi, h⟩
      simp [this]
    · rcases Nat.lt_or_ge j i with hji | hji
      · exact hI j hji
      · have : j = i := by omega
        subst this; exact h
  · have : hasB a.asList b.asStr = false := by simp only [hasB, tt_no]; exact fun ⟨j, hj, h⟩ => hI j hj h
    simp [this])
theorem projL_take {xs names : List (List D)} {i : Nat} (h : i < xs.length) : projL (xs.take (i + 1)) names = projL (xs.take i) names ++ if hasB names (cell (rowN xs i) 0).asStr = true then [[cell (rowN xs i) 0, cell (rowN xs i) 1]] else [] := by
  rw [List.take_add_one, List.getElem?_eq_getElem h, projL, List.filter_append, List.map_append, ← projL, Option.toList_some, rowN_lt h]
  congr 1
  by_cases hc : hasB names (cell xs[i] 0).asStr = true <;> simp [hc]
theorem projL_len (xs names : List (List D)) : (projL xs names).length ≤ xs.length := by simp [projL]; exact List.length_filter_le _ _

theorem ok105 : Good1 Try.prog Φ g105 := good1 tok mixed (l := [g122]) (by simpa using ok122) Try.func105 (by decide) (by decide) v105_eq (args2 fun a b hw hp => by
  simp [g105, show Φ 105 = mProject from rfl, mProject] at hw hp
  show v105.wp Φ (fun l => l = [.sl (projL a.asList b.asList)]) [a, b] _
  refine loop2_wp (N := a.asList.length) rfl (fun d d' => by simp) (len64 hw.1.1) (fun i x => x.asList = projL (a.asList.take i) b.asList ∧ ∃ l, x = .sl l) ⟨by simp [projL, chunk], _, rfl⟩ (fun i x hi hk hI => ?_) (fun x hk hI p => ?_)
  · obtain ⟨hI, l, rfl⟩ := hI
    simp at hI
    subst hI
    have h1 := projL_len (a.asList.take i) b.asList
    have h2 : (a.asList.take i).length = i := by simp; omega
    have h3 := projL_take (names := b.asList) hi
    simp [show Φ 122 = mHas from rfl, mHas, rowAt_nat, lenMax, chunk, h3] at hk ⊢
    exact ⟨hi, fun hc => ⟨by omega, hc⟩⟩
  · obtain ⟨hI, l, rfl⟩ := hI
    simp at hI ⊢
    exact hI)
theorem ok106 : Good1 Try.prog Φ g106 := good1 tok mixed (l := [g123]) (by simpa using ok123) Try.func106 (by decide) (by decide) v106_eq (args2 fun a b hw hp => by
  simp [g106, show Φ 106 = mProject from rfl, mProject] at hw hp
  show v106.wp Φ (fun l => l = [.sl (projL a.asList b.asList)]) [a, b] _
  refine loop2'_wp (N := a.asList.length) rfl (fun d d' => by simp) (len64 hw.1.1) (fun i x => x.asList = projL (a.asList.take i) b.asList ∧ ∃ l, x = .sl l) ⟨by simp [projL, chunk], _, rfl⟩ (fun i x hi hk hI => ?_) (fun x hk hI p => ?_)
  · obtain ⟨hI, l, rfl⟩ := hI
    simp at hI
    subst hI
    have h1 := projL_len (a.asList.take i) b.asList
    have h2 : (a.asList.take i).length = i := by simp; omega
    have h3 := projL_take (names := b.asList) hi
    simp [show Φ 123 = mHas from rfl, mHas, rowAt_nat, lenMax, chunk, h3] at hk ⊢
    exact ⟨hi, fun hc => ⟨by omega, hc⟩⟩
  · obtain ⟨hI, l, rfl⟩ := hI
    simp at hI ⊢
    exact hI)
theorem ok66 : Good1 Try.prog Φ g66 := good1 tok mixed (l := [g105]) (by simpa using ok105) Try.func66 (by decide) (by decide) v66_eq (args2 fun a b hw hp => by
  simp [g66, show Φ 66 = mKeyOf from rfl, mKeyOf] at hw hp
  simp [v66, g66, show Φ 66 = mKeyOf from rfl, mKeyOf, show Φ 105 = mProject from rfl, mProject, hp])
theorem ok69 : Good1 Try.prog Φ g69 := good1 tok mixed (l := [g106]) (by simpa using ok106) Try.func69 (by decide) (by decide) v69_eq (args2 fun a b hw hp => by
  simp [g69, show Φ 69 = mKeyOf from rfl, mKeyOf] at hw hp
  simp [v69, g69, show Φ 69 = mKeyOf from rfl, mKeyOf, show Φ 106 = mProject from rfl, mProject, hp])
theorem ok67 : Good1 Try.prog Φ g67 := good1 tok mixed (l := [g65]) (by simpa using ok65) Try.func67 (by decide) (by decide) v67_eq (args2 fun a b hw hp => by
  simp [g67] at hw
  show v67.wp Φ (fun l => l = [.int (findR (fun r => eqR (eqDs kLabel) (cell r 0).asList b.asList = true) a.asList 0)]) [a, b] _
  refine loop1_wp (N := a.asList.length) rfl (fun d => by simp) (len64 hw.1.1) (fun i => ∀ j, j < i → ¬ eqR (eqDs kLabel) (cell (rowN a.asList j) 0).asList b.asList = true) (fun j hj => by omega) (fun i hi hI => ?_) (fun hI p => ?_)
  · simp [show Φ 65 = mEqL kLabel from rfl, mEqL, rowAt_nat]
    refine ⟨hi, fun h => ?_, fun h j hj => ?_⟩
    · rw [findR_at hi hI h]; simp
    · rcases Nat.lt_or_ge j i with hji | hji
      · simpa using hI j hji
      · have : j = i := by omega
        subst this; exact h
  · simp
    rw [findR_no hI])
theorem ok107 : Good1 Try.prog Φ g107 := good1 tok mixed (l := [g68]) (by simpa using ok68) Try.func107 (by decide) (by decide) v107_eq (args2 fun a b hw hp => by
  simp [g107] at hw
  show v107.wp Φ (fun l => l = [.int (findR (fun r => eqR (eqDs kLabel) (cell r 0).asList b.asList = true) a.asList 0)]) [a, b] _
  refine loop1_wp (N := a.asList.length) rfl (fun d => by simp) (len64 hw.1.1) (fun i => ∀ j, j < i → ¬ eqR (eqDs kLabel) (cell (rowN a.asList j) 0).asList b.asList = true) (fun j hj => by omega) (fun i hi hI => ?_) (fun hI p => ?_)
  · simp [show Φ 68 = mEqL kLabel from rfl, mEqL, rowAt_nat]
    refine ⟨hi, fun h => ?_, fun h j hj => ?_⟩
    · rw [findR_at hi hI h]; simp
    · rcases Nat.lt_or_ge j i with hji | hji
      · simpa using hI j hji
      · have : j = i := by omega
        subst this; exact h
  · simp
    rw [findR_no hI])
theorem apart_find {l : List (List D)} {k : Nat} (hk : k < l.length) : 0 ≤ findR (fun r => eqR (eqDs kLabel) (cell r 0).asList (cell (rowN l k) 0).asList = true) (l.take k) 0 ↔ ¬ ∀ m, m < k → eqR (eqDs kLabel) (cell (rowN l m) 0).asList (cell (rowN l k) 0).asList = false := by
  have hlen : (l.take k).length = k := by simp; omega
  rcases findR_cases (fun r => eqR (eqDs kLabel) (cell r 0).asList (cell (rowN l k) 0).asList = true) (l.take k) with ⟨h1, h2⟩ | ⟨i, hi, h1, h2, _⟩
  · rw [h1]
    refine ⟨fun h => by omega, fun h => absurd (fun m hm => ?_) h⟩
    have := h2 m (by omega)
    rw [rowN_take hm] at this
    simpa using this
  · rw [h1]
    refine ⟨fun _ h => ?_, fun _ => by omega⟩
    rw [rowN_take (by omega), h i (by omega)] at h2
    cases h2
theorem ok70 : Good1 Try.prog Φ g70 := good1 tok mixed (l := [g107]) (by simpa using ok107) Try.func70 (by decide) (by decide) v70_eq (args1 fun a hw hp => by
  simp [g70] at hw
  show v70.wp Φ (fun l => l = [.bool (tt (apart a.asList))]) [a] _
  refine loop1_wp (N := a.asList.length) rfl (fun d => by simp) (len64 hw.1) (fun i => ∀ k, k < i → ∀ m, m < k → eqR (eqDs kLabel) (cell (rowN a.asList m) 0).asList (cell (rowN a.asList k) 0).asList = false) (fun j hj => by omega) (fun i hi hI => ?_) (fun hI p => ?_)
  · simp [show Φ 107 = mStands from rfl, mStands, rowAt_nat]
    refine ⟨hi, by omega, fun h => ?_, fun h k hk => ?_⟩
    · rw [apart_find hi] at h
      exact fun ha => h (ha i hi)
    · rcases Nat.lt_or_ge k i with hki | hki
      · exact hI k hki
      · have : k = i := by omega
        subst this
        have h' : ¬ 0 ≤ findR (fun r => eqR (eqDs kLabel) (cell r 0).asList (cell (rowN a.asList k) 0).asList = true) (a.asList.take k) 0 := by omega
        rw [apart_find hi] at h'
        exact Classical.not_not.1 h'
  · have : tt (apart a.asList) = true := by simp only [tt_ok]; exact hI
    simp [this])
end Go.Proofs.Ytllhihloidkghaa

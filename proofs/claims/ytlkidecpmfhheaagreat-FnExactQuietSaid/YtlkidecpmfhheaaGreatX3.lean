import Derived.Test.YtlkidecpmfhheaaGreatS6
set_option linter.all false
namespace Go.Proofs.YtlkidecpmfhheaaGreat
open Go.Vx
theorem len64 {n : Nat} (h : n ≤ lenMax) : (n : Int) ≤ 140737488355328 := by simp only [lenMax] at h; omega
theorem ok330 : Good1 Tryz.prog Φ g330 := good1 tok mixed (l := []) (by simp) Tryz.func330 (by decide) (by decide) v330_eq (args2 fun a b hw hp => by
 simp [g330] at hw
 show v330.wp Φ (fun l => l = [.bool (hasB a.asList b.asStr)]) [a, b] _
 refine loop1_wp (N := a.asList.length) rfl (fun d => by simp) (len64 hw.1.1) (fun i => ∀ j, j < i → ¬ (cell (rowN a.asList j) 0).asStr = b.asStr) (fun j hj => by omega) (fun i hi hI => ?_) (fun hI p => ?_)
 · simp [rowAt_nat]
   refine ⟨hi, fun h => ?_, fun h j hj => ?_⟩
   · have : hasB a.asList b.asStr = true := by simp only [hasB, tt_ok]; exact ⟨i, hi, h⟩
     simp [this]
   · rcases Nat.lt_or_ge j i with hji | hji
     · exact hI j hji
     · have : j = i := by omega
       subst this; exact h
 · have : hasB a.asList b.asStr = false := by simp only [hasB, tt_no]; exact fun ⟨j, hj, h⟩ => hI j hj h
   simp [this])
theorem ok340 : Good1 Tryz.prog Φ g340 := good1 tok mixed (l := []) (by simp) Tryz.func340 (by decide) (by decide) v340_eq (args2 fun a b hw hp => by
 simp [g340] at hw
 show v340.wp Φ (fun l => l = [.bool (hasB a.asList b.asStr)]) [a, b] _
 refine loop1_wp (N := a.asList.length) rfl (fun d => by simp) (len64 hw.1.1) (fun i => ∀ j, j < i → ¬ (cell (rowN a.asList j) 0).asStr = b.asStr) (fun j hj => by omega) (fun i hi hI => ?_) (fun hI p => ?_)
 · simp [rowAt_nat]
   refine ⟨hi, fun h => ?_, fun h j hj => ?_⟩
   · have : hasB a.asList b.asStr = true := by simp only [hasB, tt_ok]; exact ⟨i, hi, h⟩
     simp [this]
   · rcases Nat.lt_or_ge j i with hji | hji
     · exact hI j hji
     · have : j = i := by omega
       subst this; exact h
 · have : hasB a.asList b.asStr = false := by simp only [hasB, tt_no]; exact fun ⟨j, hj, h⟩ => hI j hj h
   simp [this])
theorem projL_take {xs names : List (List D)} {i : Nat} (h : i < xs.length) : projL (xs.take (i + 1)) names = projL (xs.take i) names ++ if hasB names (cell (rowN xs i) 0).asStr = true then [[cell (rowN xs i) 0, cell (rowN xs i) 1]] else [] := by
 rw [List.take_add_one, List.getElem?_eq_getElem h, projL, List.filter_append, List.map_append, ← projL, Option.toList_some, rowN_lt h]
 congr 1
 by_cases hc : hasB names (cell xs[i] 0).asStr = true <;> simp [hc]
theorem projL_len (xs names : List (List D)) : (projL xs names).length ≤ xs.length := by simp [projL]; exact List.length_filter_le _ _
theorem ok311 : Good1 Tryz.prog Φ g311 := good1 tok mixed (l := [g330]) (by simpa using ok330) Tryz.func311 (by decide) (by decide) v311_eq (args2 fun a b hw hp => by
 simp [g311, Φ311, mProject] at hw hp
 show v311.wp Φ (fun l => l = [.sl (projL a.asList b.asList)]) [a, b] _
 refine loop2_wp (N := a.asList.length) rfl (fun d d' => by simp) (len64 hw.1.1) (fun i x => x.asList = projL (a.asList.take i) b.asList ∧ ∃ l, x = .sl l) ⟨by simp [projL, chunk], _, rfl⟩ (fun i x hi hk hI => ?_) (fun x hk hI p => ?_)
 · obtain ⟨hI, l, rfl⟩ := hI
   simp at hI
   subst hI
   have h1 := projL_len (a.asList.take i) b.asList
   have h2 : (a.asList.take i).length = i := by simp; omega
   have h3 := projL_take (names := b.asList) hi
   simp [show Φ 330 = mHas from rfl, mHas, rowAt_nat, lenMax, chunk, h3] at hk ⊢
   exact ⟨hi, fun hc => ⟨by omega, hc⟩⟩
 · obtain ⟨hI, l, rfl⟩ := hI
   simp at hI ⊢
   exact hI)
theorem ok335 : Good1 Tryz.prog Φ g335 := good1 tok mixed (l := [g340]) (by simpa using ok340) Tryz.func335 (by decide) (by decide) v335_eq (args2 fun a b hw hp => by
 simp [g335, Φ335, mProject] at hw hp
 show v335.wp Φ (fun l => l = [.sl (projL a.asList b.asList)]) [a, b] _
 refine loop2'_wp (N := a.asList.length) rfl (fun d d' => by simp) (len64 hw.1.1) (fun i x => x.asList = projL (a.asList.take i) b.asList ∧ ∃ l, x = .sl l) ⟨by simp [projL, chunk], _, rfl⟩ (fun i x hi hk hI => ?_) (fun x hk hI p => ?_)
 · obtain ⟨hI, l, rfl⟩ := hI
   simp at hI
   subst hI
   have h1 := projL_len (a.asList.take i) b.asList
   have h2 : (a.asList.take i).length = i := by simp; omega
   have h3 := projL_take (names := b.asList) hi
   simp [show Φ 340 = mHas from rfl, mHas, rowAt_nat, lenMax, chunk, h3] at hk ⊢
   exact ⟨hi, fun hc => ⟨by omega, hc⟩⟩
 · obtain ⟨hI, l, rfl⟩ := hI
   simp at hI ⊢
   exact hI)
theorem ok264 : Good1 Tryz.prog Φ g264 := good1 tok mixed (l := [g311]) (by simpa using ok311) Tryz.func264 (by decide) (by decide) v264_eq (args2 fun a b hw hp => by
 simp [g264, Φ264, mKeyOf] at hw hp
 simp [v264, g264, Φ264, mKeyOf, Φ311, mProject, hp])
theorem ok319 : Good1 Tryz.prog Φ g319 := good1 tok mixed (l := [g335]) (by simpa using ok335) Tryz.func319 (by decide) (by decide) v319_eq (args2 fun a b hw hp => by
 simp [g319, Φ319, mKeyOf] at hw hp
 simp [v319, g319, Φ319, mKeyOf, Φ335, mProject, hp])
theorem ok332 : Good1 Tryz.prog Φ g332 := good1 tok mixed (l := [g248]) (by simpa using ok248) Tryz.func332 (by decide) (by decide) v332_eq (args2 fun a b hw hp => by
 simp [g332] at hw
 show v332.wp Φ (fun l => l = [.int (findR (fun r => eqR (eqDs kLabel) (cell r 0).asList b.asList = true) a.asList 0)]) [a, b] _
 refine loop1_wp (N := a.asList.length) rfl (fun d => by simp) (len64 hw.1.1) (fun i => ∀ j, j < i → ¬ eqR (eqDs kLabel) (cell (rowN a.asList j) 0).asList b.asList = true) (fun j hj => by omega) (fun i hi hI => ?_) (fun hI p => ?_)
 · simp [Φ248, mEqL, rowAt_nat]
   refine ⟨hi, fun h => ?_, fun h j hj => ?_⟩
   · rw [findR_at hi hI h]; simp
   · rcases Nat.lt_or_ge j i with hji | hji
     · simpa using hI j hji
     · have : j = i := by omega
       subst this; exact h
 · simp
   rw [findR_no hI])
theorem apart_find {l : List (List D)} {k : Nat} (hk : k < l.length) : 0 ≤ findR (fun r => eqR (eqDs kLabel) (cell r 0).asList (cell (rowN l k) 0).asList = true) (l.take k) 0 ↔ ¬ ∀ m, m < k → eqR (eqDs kLabel) (cell (rowN l m) 0).asList (cell (rowN l k) 0).asList = false := by
 have hlen : (l.take k).length = k := by simp; omega
 rcases findR_cases (fun r => eqR (eqDs kLabel) (cell r 0).asList (cell (rowN l k) 0).asList = true) (l.take k) with ⟨h1, h2⟩ | ⟨i, hi, h1, h2, _⟩
 · rw [h1]
   refine ⟨fun h => by omega, fun h => absurd (fun m hm => ?_) h⟩
   have := h2 m (by omega)
   rw [rowN_take hm] at this
   simpa using this
 · rw [h1]
   refine ⟨fun _ h => ?_, fun _ => by omega⟩
   rw [rowN_take (by omega), h i (by omega)] at h2
   cases h2
theorem ok325 : Good1 Tryz.prog Φ g325 := good1 tok mixed (l := [g332]) (by simpa using ok332) Tryz.func325 (by decide) (by decide) v325_eq (args1 fun a hw hp => by
 simp [g325] at hw
 show v325.wp Φ (fun l => l = [.bool (tt (apart a.asList))]) [a] _
 refine loop1_wp (N := a.asList.length) rfl (fun d => by simp) (len64 hw.1) (fun i => ∀ k, k < i → ∀ m, m < k → eqR (eqDs kLabel) (cell (rowN a.asList m) 0).asList (cell (rowN a.asList k) 0).asList = false) (fun j hj => by omega) (fun i hi hI => ?_) (fun hI p => ?_)
 · simp [Φ332, mStands, rowAt_nat]
   refine ⟨hi, by omega, fun h => ?_, fun h k hk => ?_⟩
   · rw [apart_find hi] at h
     exact fun ha => h (ha i hi)
   · rcases Nat.lt_or_ge k i with hki | hki
     · exact hI k hki
     · have : k = i := by omega
       subst this
       have h' : ¬ 0 ≤ findR (fun r => eqR (eqDs kLabel) (cell r 0).asList (cell (rowN a.asList k) 0).asList = true) (a.asList.take k) 0 := by omega
       rw [apart_find hi] at h'
       exact Classical.not_not.1 h'
 · have : tt (apart a.asList) = true := by simp only [tt_ok]; exact hI
   simp [this])
end Go.Proofs.YtlkidecpmfhheaaGreat

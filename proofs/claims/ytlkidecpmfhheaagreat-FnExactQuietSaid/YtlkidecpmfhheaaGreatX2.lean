import Derived.Test.YtlkidecpmfhheaaGreatS4
set_option linter.all false
namespace Go.Proofs.YtlkidecpmfhheaaGreat
open Go.Vx
theorem ok86 : Good1 Tryz.prog Φ g86 := good1 tok mixed (l := []) (by simp) Tryz.func86 (by decide) (by decide) v86_eq (args3 fun a b c hw hp => by
 simp [v86, g86, Φ86, mB]
 done)
theorem ok104 : Good1 Tryz.prog Φ g104 := good1 tok mixed (l := []) (by simp) Tryz.func104 (by decide) (by decide) v104_eq (args3 fun a b c hw hp => by
 simp [v104, g104, Φ104, mB]
 done)
theorem tt_true {p : Prop} (h : p) : tt p = true := by simpa using h
theorem tt_false {p : Prop} (h : ¬ p) : tt p = false := by simpa using h
theorem all_next {p : Nat → Prop} {i : Nat} (h : ∀ j, j < i → p j) (hi : p i) : ∀ j, j < i + 1 → p j := fun j hj => by
 by_cases e : j = i
 · exact e ▸ hi
 · exact h j (by omega)
theorem ok223 : Good1 Tryz.prog Φ g223 := good1 tok mixed (l := [g86]) (by simp [ok86]) Tryz.func223 (by decide) (by decide) v223_eq (args1 fun a hw hp => by
 simp [g223, lenMax] at hw
 refine loop1_wp (Φ := Φ) (N := a.asStr.size) rfl (fun _ => by simp) (by omega) (fun i => ∀ j, j < i → NameB a.asStr j) (by omega) (fun i hi hI => ?_) (fun hI p => ?_)
 · simp [g223, Φ223, mB, hi]
   refine ⟨fun h => ?_, fun h1 h2 => all_next hI ⟨by unfold byte; omega, by unfold byte; omega⟩⟩
   rintro ⟨-, h3⟩
   have := h3 i hi
   simp only [NameB, byte] at this
   omega
 · simp [g223, Φ223, Φ86, mB, NameOk, -tt_ok]
   congr 1
   exact ⟨fun h => ⟨by omega, hI⟩, fun h => by omega⟩)
theorem ok239 : Good1 Tryz.prog Φ g239 := good1 tok mixed (l := [g104]) (by simp [ok104]) Tryz.func239 (by decide) (by decide) v239_eq (args1 fun a hw hp => by
 simp [g239, lenMax] at hw
 unfold v239
 rw [wp_req', wp_ite']
 refine ⟨by simp [Φ104, mB], fun h => ?_, fun h => ?_⟩
 · simp [g239, Φ239, Φ104, mB, NameOk] at h ⊢
   intro h1 h2; omega
 simp [Φ104, mB] at h
 refine loop1_wp (Φ := Φ) (N := a.asStr.size) rfl (fun _ => by simp) (by omega) (fun i => ∀ j, j < i → NameB a.asStr j) (by omega) (fun i hi hI => ?_) (fun hI p => ?_)
 · simp [g239, Φ239, mB, hi]
   refine ⟨fun h => ?_, fun h1 h2 => all_next hI ⟨by unfold byte; omega, by unfold byte; omega⟩⟩
   rintro ⟨-, h3⟩
   have := h3 i hi
   simp only [NameB, byte] at this
   omega
 · simp [g239, Φ239, mB, NameOk]
   exact ⟨by omega, hI⟩)
theorem ok227 : Good1 Tryz.prog Φ g227 := good1 tok mixed (l := []) (by simp) Tryz.func227 (by decide) (by decide) v227_eq (args1 fun a hw hp => by
 simp [g227, lenMax] at hw
 refine loop1_wp (Φ := Φ) (N := a.asStr.size) rfl (fun _ => by simp) (by omega) (fun i => ∀ j, j < i → PlainB a.asStr j) (by omega) (fun i hi hI => ?_) (fun hI p => ?_)
 · simp [g227, Φ227, mB, hi]
   refine ⟨fun h => ?_, fun h1 h2 h3 h4 => all_next hI ⟨by unfold byte; omega, by unfold byte; omega, by unfold byte; omega, by unfold byte; omega⟩⟩
   rintro ⟨-, h3⟩
   have := h3 i hi
   simp only [PlainB, byte] at this
   omega
 · simp [g227, Φ227, mB, PlainOk, -tt_ok]
   congr 1
   exact ⟨fun h => ⟨by omega, hI⟩, fun h => by omega⟩)
theorem ok243 : Good1 Tryz.prog Φ g243 := good1 tok mixed (l := []) (by simp) Tryz.func243 (by decide) (by decide) v243_eq (args1 fun a hw hp => by
 simp [g243, lenMax] at hw
 unfold v243
 rw [wp_ite']
 refine ⟨fun h => ?_, fun h => ?_⟩
 · simp [g243, Φ243, mB, PlainOk] at h ⊢
   intro h1; omega
 simp at h
 refine loop1_wp (Φ := Φ) (N := a.asStr.size) rfl (fun _ => by simp) (by omega) (fun i => ∀ j, j < i → PlainB a.asStr j) (by omega) (fun i hi hI => ?_) (fun hI p => ?_)
 · simp [g243, Φ243, mB, hi]
   refine ⟨fun h => ?_, fun h1 h2 h3 h4 => all_next hI ⟨by unfold byte; omega, by unfold byte; omega, by unfold byte; omega, by unfold byte; omega⟩⟩
   rintro ⟨-, h3⟩
   have := h3 i hi
   simp only [PlainB, byte] at this
   omega
 · simp [g243, Φ243, mB, PlainOk]
   exact ⟨by omega, hI⟩)
theorem ok295 : Good1 Tryz.prog Φ g295 := good1 tok mixed (l := [g223, g227]) (by simp [ok223, ok227]) Tryz.func295 (by decide) (by decide) v295_eq (args1 fun a hw hp => by
 simp [v295, g295, show Φ 295 = mB _ from rfl, Φ223, Φ227, mB, LabOk])
theorem ok302 : Good1 Tryz.prog Φ g302 := good1 tok mixed (l := [g239, g243]) (by simp [ok239, ok243]) Tryz.func302 (by decide) (by decide) v302_eq (args1 fun a hw hp => by
 simp [v302, g302, show Φ 302 = mB _ from rfl, Φ239, Φ243, mB, LabOk])
theorem setAt_iff (xs : List (List D)) (i : Nat) (h : i ≤ 140737488355328) : SetAt xs i ↔ LabOk (rowN xs i) ∧ (0 < i → Op.bytesLess (cell (Go.Vx.rowAt xs (IntKind.i64.wrap ((i : Int) - 1))) 0).asStr.toList (cell (rowN xs i) 0).asStr.toList = true) := by
 unfold SetAt
 by_cases e : 0 < i
 · rw [w64 (by omega) (by omega), show ((i : Int) - 1) = ((i - 1 : Nat) : Int) by omega, Go.Vx.rowAt_nat]
 · simp [e]
theorem wrap_pred (i : Nat) (h : i ≤ 140737488355328) : i = 0 ∨ IntKind.i64.wrap ((i : Int) - 1) = (i : Int) - 1 := by
 by_cases e : i = 0
 · exact .inl e
 · exact .inr (w64 (by omega) (by omega))
theorem ok226 : Good1 Tryz.prog Φ g226 := good1 tok mixed (l := [g293, g295]) (by simp [ok295, ok293]) Tryz.func226 (by decide) (by decide) v226_eq (args1 fun a hw hp => by
 simp [g226, lenMax] at hw
 refine loop1_wp (Φ := Φ) (N := a.asList.length) rfl (fun _ => by simp) (by omega) (fun i => ∀ j, j < i → SetAt a.asList j) (by omega) (fun i hi hI => ?_) (fun hI p => ?_)
 · have hs := setAt_iff a.asList i (by omega)
   have hw' := wrap_pred i (by omega)
   have hno : ¬ SetAt a.asList i → ¬ SetOk a.asList := fun h h' => h (h'.2 i hi)
   simp [rowAt_nat, g226, Φ226, show Φ 295 = mB _ from rfl, Φ293, mLess, mB, hi]
   generalize IntKind.i64.wrap ((i : Int) - 1) = W at hs hw' ⊢
   generalize Op.bytesLess (cell (Go.Vx.rowAt a.asList W) 0).asStr.toList (cell (rowN a.asList i) 0).asStr.toList = b at hs ⊢
   generalize LabOk (rowN a.asList i) = L at hs ⊢
   refine ⟨⟨by omega, by omega⟩, fun h => hno fun h' => ?_, fun h1 h2 => all_next hI (hs.2 ⟨h1, h2⟩)⟩
   · obtain ⟨h1, h2⟩ := hs.1 h'
     rcases h with h | ⟨h3, h4⟩
     · exact h h1
     · rw [h2 h3] at h4; cases h4
 · simp [g226, Φ226, mB, SetOk, -tt_ok]
   congr 1
   exact ⟨fun h => ⟨by omega, hI⟩, fun h => by omega⟩)
theorem ok242 : Good1 Tryz.prog Φ g242 := good1 tok mixed (l := [g302]) (by simp [ok302]) Tryz.func242 (by decide) (by decide) v242_eq (args1 fun a hw hp => by
 simp [g242, lenMax] at hw
 refine loop1_wp (Φ := Φ) (N := a.asList.length) rfl (fun _ => by simp) (by omega) (fun i => i ≤ 4 ∧ ∀ j, j < i → SetAt a.asList j) ⟨by omega, by omega⟩ (fun i hi ⟨hi4, hI⟩ => ?_) (fun ⟨hi4, hI⟩ p => ?_)
 · have hs := setAt_iff a.asList i (by omega)
   have hw' := wrap_pred i (by omega)
   have hno : ¬ SetAt a.asList i → ¬ SetOk a.asList := fun h h' => h (h'.2 i hi)
   have hno4 : ¬ i < 4 → ¬ SetOk a.asList := fun h h' => by have := h'.1; omega
   simp [rowAt_nat, g242, Φ242, show Φ 302 = mB _ from rfl, mB, hi]
   generalize IntKind.i64.wrap ((i : Int) - 1) = W at hs hw' ⊢
   generalize Op.bytesLess (cell (Go.Vx.rowAt a.asList W) 0).asStr.toList (cell (rowN a.asList i) 0).asStr.toList = b at hs ⊢
   generalize LabOk (rowN a.asList i) = L at hs ⊢
   by_cases hi' : i < 4
   · have e1 : ((i : Int) < 4) = True := by simp; omega
     have e2 : ((4 : Int) ≤ i) = False := by simp; omega
     simp only [e1, e2]
     by_cases hL : L
     · have e0 : L = True := by simp [hL]
       subst e0
       simp at hs ⊢
       refine ⟨by omega, fun h3 h4 => hno fun h' => ?_, fun h2 => ⟨by omega, all_next hI (hs.2 h2)⟩⟩
       rw [hs.1 h' h3] at h4; cases h4
     · have e0 : L = False := by simp [hL]
       subst e0
       simp at hs ⊢
       exact hno hs
   · have e1 : ((i : Int) < 4) = False := by simp; omega
     have e2 : ((4 : Int) ≤ i) = True := by simp; omega
     simp only [e1, e2]
     simp
     exact hno4 hi'
 · simp [g242, Φ242, mB, SetOk]
   exact ⟨by omega, hI⟩)
theorem ok156 : Good1 Tryz.prog Φ g156 := good1 tok mixed (l := [g86, g226, g227]) (by simp [ok226, ok86, ok227]) Tryz.func156 (by decide) (by decide) v156_eq (args1 fun a hw hp => by
 simp [v156, g156, Φ156, Φ226, Φ86, Φ227, mB, AlOk, -tt_ok]
 simp only [and_assoc])
theorem ok178 : Good1 Tryz.prog Φ g178 := good1 tok mixed (l := [g104, g242, g243]) (by simp [ok242, ok104, ok243]) Tryz.func178 (by decide) (by decide) v178_eq (args1 fun a hw hp => by
 simp [v178, g178, Φ178, Φ242, Φ104, Φ243, mB, AlOk, -tt_ok]
 exact ⟨fun ⟨⟨⟨⟨h1, h2⟩, h3⟩, h4⟩, h5⟩ => ⟨⟨h2, h1⟩, h3, h4, h5⟩, fun ⟨⟨h2, h1⟩, h3, h4, h5⟩ => ⟨⟨⟨⟨h1, h2⟩, h3⟩, h4⟩, h5⟩⟩)
end Go.Proofs.YtlkidecpmfhheaaGreat

import Derived.Test.YtlkidecpmfhheaaGreatY3
set_option linter.all false
namespace Go.Proofs.YtlkidecpmfhheaaGreat
open Go.Vx
theorem fing_eq {h : Nat} (hh : h < 4294967296) : intV .rem .i64 (intV .xor .i64 (h : Int) ((h : Int).fdiv (2 ^ min 16 IntKind.i64.bits))).asInt 32 = .int (fingN h : Nat) := by
 have e : (h : Int).fdiv (2 ^ min 16 IntKind.i64.bits) = ((h / 65536 : Nat) : Int) := by
   rw [show min 16 IntKind.i64.bits = 16 from rfl, show ((2 : Int) ^ 16) = ((65536 : Nat) : Int) from rfl]
   exact (Int.ofNat_fdiv h 65536).symm
 have h2 : h / 65536 < 4294967296 := Nat.lt_of_le_of_lt (Nat.div_le_self _ _) hh
 rw [e, xor64 hh h2, D.asInt_int]
 show D.int (((h ^^^ h / 65536 : Nat) : Int).tmod 32) = _
 unfold fingN
 rw [show (32 : Int) = ((32 : Nat) : Int) from rfl, ← Int.ofNat_tmod]
theorem ok233 : Good1 Tryz.prog Φ g233 := good1 tok mixed (l := [g298, g299]) (by simp [ok298, ok299]) Tryz.func233 (by decide) (by decide) v233_eq (args1 fun a hw hp => by
 have h := hashN_lt (lby (setT a.asList))
 have e := fing_eq h
 simp [v233, g233, Φ233, show Φ 298 = mSum from rfl, Φ299, mFing, mSum, mSetT, fing] at e ⊢
 exact e)
theorem ok306 : Good1 Tryz.prog Φ g306 := good1 tok mixed (l := [g328, g329]) (by simp [ok328, ok329]) Tryz.func306 (by decide) (by decide) v306_eq (args1 fun a hw hp => by
 have h := hashN_lt (lby (setT a.asList))
 have e := fing_eq h
 simp [v306, g306, Φ306, show Φ 328 = mSum from rfl, Φ329, mFing, mSum, mSetT, fing] at e ⊢
 exact e)
theorem ok231 : Good1 Tryz.prog Φ g231 := good1 tok mixed (l := [g232, g233]) (by simp [ok232, ok233]) Tryz.func231 (by decide) (by decide) v231_eq (args2 fun a b hw hp => by
 simp [v231, g231, Φ231, Φ232, Φ233, mHome, mPartOf, mFing])
theorem ok305 : Good1 Tryz.prog Φ g305 := good1 tok mixed (l := [g301, g306]) (by simp [ok301, ok306]) Tryz.func305 (by decide) (by decide) v305_eq (args2 fun a b hw hp => by
 simp [v305, g305, Φ305, Φ301, Φ306, mHome, mPartOf, mFing])
theorem partOf_lt {f n : Int} (h : 0 < n) : partOf f n < n := by
 unfold partOf
 by_cases hc : n < 1 ∨ f < 0
 · rw [tt_ok _ |>.mpr hc]; exact h
 · rw [tt_no _ |>.mpr hc]
   exact Int.tmod_lt_of_pos _ h
theorem partOf_nn (f n : Int) : 0 ≤ partOf f n := by
 unfold partOf
 by_cases hc : n < 1 ∨ f < 0
 · rw [tt_ok _ |>.mpr hc]; simp
 · rw [tt_no _ |>.mpr hc]
   exact Int.tmod_nonneg _ (by omega)
theorem ok165 : Good1 Tryz.prog Φ g165 := good1e tok mixed (l := [g232, g233]) (by simp [ok232, ok233]) Tryz.func165 (by decide) (by decide) v165_eq (args2 fun a b hw hp => by
 simp [v165, g165, Φ165, Φ232, Φ233, mHolds, mPartOf, mFing, holdsT, eqr_int]
 simp only [bif_tt, Bool.cond_eq_ite, Bool.or_eq_true, Bool.and_eq_true, Bool.not_eq_true', tt_ok, tt_no]; grind)
theorem ok250 : Good1 Tryz.prog Φ g250 := good1e tok mixed (l := [g301, g306]) (by simp [ok301, ok306]) Tryz.func250 (by decide) (by decide) v250_eq (args3 fun a b c hw hp => by
 simp [v250, g250, Φ250, Φ301, Φ306, mPartAt, mPartOf, mFing, partAtT, eqr_int]
 simp only [bif_tt, Bool.cond_eq_ite, Bool.or_eq_true, Bool.and_eq_true, Bool.not_eq_true', tt_ok, tt_no]; grind)
theorem ok182 : Good1 Tryz.prog Φ g182 := good1 tok mixed (l := [g250]) (by simp [ok250]) Tryz.func182 (by decide) (by decide) v182_eq (args2 fun a b hw hp => by
 simp [v182, g182, Φ182, Φ250, mHolds, mPartAt, holdsT, partAtT]
 simp only [bif_tt, Bool.cond_eq_ite, Bool.or_eq_true, Bool.and_eq_true, Bool.not_eq_true', tt_ok, tt_no]; grind)
theorem ok294 : Good1 Tryz.prog Φ g294 := good1 tok mixed (l := [g156, g163, g233]) (by simp [ok156, ok163, ok233]) Tryz.func294 (by decide) (by decide) v294_eq (args1 fun a hw hp => by
 show v294.wp Φ (fun l => l = [.bool (tt (ChainP a.row))]) [a] _
 have hl := wfs_at hw.1 1 rfl
 refine loop1_wp (Φ := Φ) (N := (cell a.row 1).asList.length) rfl (fun _ => by simp) hl (fun i => ∀ j, j < i → (AlOk (rowN (cell a.row 1).asList j) ∧ fing (cell (rowN (cell a.row 1).asList j) 0).asList = (cell a.row 0).asInt) ∧ ∀ m, m < j → eqR (eqDs kLabel) (cell (rowN (cell a.row 1).asList m) 0).asList (cell (rowN (cell a.row 1).asList j) 0).asList = false) (by omega) (fun i hi hI => ?_) (fun hI p => ?_)
 · rw [wp_req', wp_ite']
   refine ⟨by simp [Φ294, Φ156, Φ163, Φ233, mB, mEqL, mFing, rowAt_nat, hi], fun hc => ?_, fun hc => ?_⟩
   · have : ¬ ChainP a.row := fun hp => by
       have := hp.2.1 i hi
       simp [Φ294, Φ156, Φ163, Φ233, mB, mEqL, mFing, rowAt_nat] at hc
       grind
     simp [tt_no _ |>.mpr this]
   · simp [Φ294, Φ156, Φ163, Φ233, mB, mEqL, mFing, rowAt_nat] at hc
     refine loop1_wp (Φ := Φ) (N := i) rfl (fun _ => by simp) (by omega) (fun m => ∀ q, q < m → eqR (eqDs kLabel) (cell (rowN (cell a.row 1).asList q) 0).asList (cell (rowN (cell a.row 1).asList i) 0).asList = false) (by omega) (fun m hm hJ => ?_) (fun hJ p => ?_)
     · simp [Φ294, Φ156, Φ163, Φ233, mB, mEqL, mFing, rowAt_nat, hi, show m < (cell a.row 1).asList.length by omega]
       refine ⟨fun h => fun hp => ?_, fun h => all_next hJ h⟩
       have := hp.2.2 i hi m hm
       rw [h] at this; cases this
     · rw [wp_back', setB_ne (by decide)]
       simp
       exact all_next hI ⟨hc, hJ⟩
 · simp [ChainP]
   exact fun _ => ⟨fun i hi => (hI i hi).1, fun k hk m hm => (hI k hk).2 m hm⟩)
theorem ok300 : Good1 Tryz.prog Φ g300 := good1 tok mixed (l := [g178, g306, g325]) (by simp [ok178, ok306, ok325]) Tryz.func300 (by decide) (by decide) v300_eq (args1 fun a hw hp => by
 show v300.wp Φ (fun l => l = [.bool (tt (ChainP a.row))]) [a] _
 have hl := wfs_at hw.1 1 rfl
 refine scan_all2 (s := 0) (N := (cell a.row 1).asList.length) (fun j => AlOk (rowN (cell a.row 1).asList j) ∧ fing (cell (rowN (cell a.row 1).asList j) 0).asList = (cell a.row 0).asInt) rfl (fun d => by simp) hl (by omega) (fun h i h1 h2 => h.2.1 i h2) (fun i h1 hi _ => ?_) fun h i q => ?_
 · simp [Φ300, Φ178, Φ306, Φ325, mB, mFing, mApart, rowAt_nat, hi]
   grind
 · simp [Φ300, Φ178, Φ306, Φ325, mB, mFing, mApart, ChainP]
   exact fun _ _ i hi => h i (by omega) hi)
end Go.Proofs.YtlkidecpmfhheaaGreat

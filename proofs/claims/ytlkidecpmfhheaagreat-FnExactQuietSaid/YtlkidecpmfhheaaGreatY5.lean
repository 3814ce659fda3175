import Derived.Test.YtlkidecpmfhheaaGreatY4
set_option linter.all false
namespace Go.Proofs.YtlkidecpmfhheaaGreat
open Go.Vx
def PartAt (p : List D) (i n : Int) (k : Nat) : Prop := ChainP (rowN (cell p 2).asList k) ∧ partOf (cell (rowN (cell p 2).asList k) 0).asInt n = i ∧ (0 < k → (cell (rowN (cell p 2).asList (k - 1)) 0).asInt < (cell (rowN (cell p 2).asList k) 0).asInt)
theorem ok225 : Good1 Tryz.prog Φ g225 := good1 tok mixed (l := [g86, g232, g294]) (by simp [ok86, ok232, ok294]) Tryz.func225 (by decide) (by decide) v225_eq (args3 fun a b c hw hp => by
 show v225.wp Φ (fun l => l = [.bool (tt (PartP a.row b.asInt c.asInt))]) [a, b, c] _
 have hl := wfs_at hw.1 2 rfl
 refine scan_all (s := 0) (N := (cell a.row 2).asList.length) (PartAt a.row b.asInt c.asInt) rfl (fun d => by simp) hl (by omega) (fun h i h1 h2 => h.1 i h2) (fun i h1 hi _ => ?_) fun h i q => ?_
 · by_cases h0 : 0 < i
   · simp [Φ225, Φ86, Φ232, Φ294, mB, mPartOf, rowAt_nat, hi, pred_at _ h0, pred64 (i := i) (by omega), h0, PartAt]
     grind
   · have : i = 0 := by omega
     subst this
     simp [Φ225, Φ86, Φ232, Φ294, mB, mPartOf, rowAt_0, hi, PartAt]
     grind
 · simp [Φ225, Φ86, Φ232, Φ294, mB, mPartOf, PartP, In]
   have h' : ∀ k, k < (cell a.row 2).asList.length → PartAt a.row b.asInt c.asInt k := fun k hk => h k (by omega) hk
   simp only [PartAt] at h'
   grind)
theorem ok241 : Good1 Tryz.prog Φ g241 := good1 tok mixed (l := [g104, g300, g301]) (by simp [ok104, ok300, ok301]) Tryz.func241 (by decide) (by decide) v241_eq (args3 fun a b c hw hp => by
 show v241.wp Φ (fun l => l = [.bool (tt (PartP a.row b.asInt c.asInt))]) [a, b, c] _
 have hl := wfs_at hw.1 2 rfl
 refine scan_all2 (s := 0) (N := (cell a.row 2).asList.length) (PartAt a.row b.asInt c.asInt) rfl (fun d => by simp) hl (by omega) (fun h i h1 h2 => h.1 i h2) (fun i h1 hi _ => ?_) fun h i q => ?_
 · by_cases h0 : 0 < i
   · simp [Φ241, Φ104, Φ300, Φ301, mB, mPartOf, rowAt_nat, hi, pred_at _ h0, pred64 (i := i) (by omega), h0, PartAt]
     grind
   · have : i = 0 := by omega
     subst this
     simp [Φ241, Φ104, Φ300, Φ301, mB, mPartOf, rowAt_0, hi, PartAt]
     grind
 · simp [Φ241, Φ104, Φ300, Φ301, mB, mPartOf, PartP, In]
   have h' : ∀ k, k < (cell a.row 2).asList.length → PartAt a.row b.asInt c.asInt k := fun k hk => h k (by omega) hk
   simp only [PartAt] at h'
   grind)
theorem ok154 : Good1 Tryz.prog Φ g154 := good1 tok mixed (l := [g86, g225]) (by simp [ok86, ok225]) Tryz.func154 (by decide) (by decide) v154_eq (args1 fun a hw hp => by
 simp [g154, lenMax] at hw
 show v154.wp Φ (fun l => l = [.bool (tt (StoreP a.asList))]) [a] _
 refine scan_all (s := 0) (N := a.asList.length) (fun i => PartP (rowN a.asList i) i a.asList.length) rfl (fun d => by simp) (by omega) (by omega) (fun h i h1 h2 => h.2 i h2) (fun i h1 hi _ => ?_) fun h i q => ?_
 · simp [Φ154, Φ86, Φ225, mB, rowAt_nat, hi]
 · simp [Φ154, Φ86, Φ225, mB, StoreP, In]
   grind)
theorem ok174 : Good1 Tryz.prog Φ g174 := good1 tok mixed (l := [g104, g241]) (by simp [ok104, ok241]) Tryz.func174 (by decide) (by decide) v174_eq (args1 fun a hw hp => by
 simp [g174, lenMax] at hw
 show v174.wp Φ (fun l => l = [.bool (tt (StoreP a.asList))]) [a] _
 unfold v174
 rw [wp_req', wp_ite']
 refine ⟨by simp [Φ174, Φ104, Φ241, mB], fun hc => ?_, fun hc => ?_⟩
 · simp [Φ174, Φ104, Φ241, mB] at hc
   have : ¬ StoreP a.asList := fun h => by have := h.1; simp only [In] at this; omega
   simp [tt_no _ |>.mpr this]
 · simp [Φ174, Φ104, Φ241, mB] at hc
   refine scan_all2 (s := 0) (N := a.asList.length) (fun i => PartP (rowN a.asList i) i a.asList.length) rfl (fun d => by simp) (by omega) (by omega) (fun h i h1 h2 => h.2 i h2) (fun i h1 hi _ => ?_) fun h i q => ?_
   · simp [Φ174, Φ104, Φ241, mB, rowAt_nat, hi]
   · simp [StoreP, In]
     grind)
theorem ok155 : Good1 Tryz.prog Φ g155 := good1 tok mixed (l := [g156]) (by simp [ok156]) Tryz.func155 (by decide) (by decide) v155_eq (args2 fun a b hw hp => by
 simp [v155, g155, Φ155, Φ156, mB, FitsP, eq_tt])
theorem ok176 : Good1 Tryz.prog Φ g176 := good1 tok mixed (l := [g178]) (by simp [ok178]) Tryz.func176 (by decide) (by decide) v176_eq (args2 fun a b hw hp => by
 simp [v176, g176, Φ176, Φ178, mB, FitsP, eq_tt])
theorem ok88 : Good1 Tryz.prog Φ g88 := good1 tok mixed (l := [g156]) (by simp [ok156]) Tryz.func88 (by decide) (by decide) v88_eq (args1 fun a hw hp => by
 simp [g88, lenMax] at hw
 show v88.wp Φ (fun l => l = [.bool (tt (AlsP a.asList))]) [a] _
 refine scan_all (s := 0) (N := a.asList.length) (fun i => AlOk (rowN a.asList i)) rfl (fun d => by simp) (by omega) (by omega) (fun h i h1 h2 => h i h2) (fun i h1 hi _ => ?_) fun h i q => ?_
 · simp [Φ88, Φ156, mB, rowAt_nat, hi]
 · simp
   exact fun i hi => h i (by omega) hi)
theorem ok107 : Good1 Tryz.prog Φ g107 := good1 tok mixed (l := [g178]) (by simp [ok178]) Tryz.func107 (by decide) (by decide) v107_eq (args1 fun a hw hp => by
 simp [g107, lenMax] at hw
 show v107.wp Φ (fun l => l = [.bool (tt (AlsP a.asList))]) [a] _
 refine scan_all2 (s := 0) (N := a.asList.length) (fun i => AlOk (rowN a.asList i)) rfl (fun d => by simp) (by omega) (by omega) (fun h i h1 h2 => h i h2) (fun i h1 hi _ => ?_) fun h i q => ?_
 · simp [Φ107, Φ178, mB, rowAt_nat, hi]
 · simp
   exact fun i hi => h i (by omega) hi)
theorem ok89 : Good1 Tryz.prog Φ g89 := good1 tok mixed (l := [g156]) (by simp [ok156]) Tryz.func89 (by decide) (by decide) v89_eq (args1 fun a hw hp => by
 show v89.wp Φ (fun l => l = [.bool (tt (SubP a.row))]) [a] _
 have hl := wfs_at hw.1 0 rfl
 refine scan_all (s := 0) (N := (cell a.row 0).asList.length) (fun i => AlOk (rowN (cell a.row 0).asList i)) rfl (fun d => by simp) hl (by omega) (fun h i h1 h2 => h.2.2 i h2) (fun i h1 hi _ => ?_) fun h i q => ?_
 · simp [Φ89, Φ156, mB, rowAt_nat, hi]
 · have h' : AlsP (cell a.row 0).asList := fun k hk => h k (by omega) hk
   cases hb : (cell a.row 1).asBool <;> simp [SubP, hb, h']
   all_goals grind)
theorem ok177 : Good1 Tryz.prog Φ g177 := good1 tok mixed (l := [g107]) (by simp [ok107]) Tryz.func177 (by decide) (by decide) v177_eq (args1 fun a hw hp => by
 cases hb : (cell a.row 1).asBool <;> simp [v177, g177, show Φ 177 = mB _ from rfl, Φ107, mB, SubP, hb, eq_tt]
 · grind
 · have e : (cell a.row 0).asList.length = 0 → AlsP (cell a.row 0).asList := fun h i hi => by omega
   grind)
theorem ok106 : Good1 Tryz.prog Φ g106 := good1 tok mixed (l := [g177]) (by simp [ok177]) Tryz.func106 (by decide) (by decide) v106_eq (args2 fun a b hw hp => by
 simp [g106, lenMax] at hw
 show v106.wp Φ (fun l => l = [.bool (tt (SubsR a.asList (cell b.row 2).asInt))]) [a, b] _
 refine scan_all2 (s := 0) (N := a.asList.length) (fun i => SubP (rowN a.asList i)) rfl (fun d => by simp) (by omega) (by omega) (fun h i h1 h2 => h.1 i h2) (fun i h1 hi _ => ?_) fun h i q => ?_
 · simp [show Φ 106 = mB _ from rfl, show Φ 177 = mB _ from rfl, mB, rowAt_nat, hi]
 · simp [SubsR]
   exact fun _ i hi => h i (by omega) hi)
theorem ok244 : Good1 Tryz.prog Φ g244 := good1 tok mixed (l := [g104]) (by simp [ok104]) Tryz.func244 (by decide) (by decide) v244_eq (args2 fun a b hw hp => by
 simp [v244, g244, show Φ 244 = mB _ from rfl, Φ104, mB, codeP, In, eq_tt]
 grind)
theorem ok179 : Good1 Tryz.prog Φ g179 := good1 tok mixed (l := [g104, g244]) (by simp [ok104, ok244]) Tryz.func179 (by decide) (by decide) v179_eq (args1 fun a hw hp => by
 simp [v179, g179, Φ179, Φ104, show Φ 244 = mB _ from rfl, mB, DeedP, In, eq_tt]
 grind)
end Go.Proofs.YtlkidecpmfhheaaGreat

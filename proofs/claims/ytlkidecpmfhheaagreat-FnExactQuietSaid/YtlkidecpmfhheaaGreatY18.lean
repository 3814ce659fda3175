import Derived.Test.YtlkidecpmfhheaaGreatY17
set_option linter.all false
namespace Go.Proofs.YtlkidecpmfhheaaGreat
open Go.Vx
theorem holdsT_lt {w : List D} {k : Nat} (hs : StoreP (cell w 8).asList) (hp : partsP w) (hk : taskW w k) : holdsT (rowN (cell w 17).asList k) (cell w 8).asList.length < (cell w 8).asList.length := by
 obtain ⟨t, ht⟩ : ∃ t, rowN (cell w 17).asList k = t := ⟨_, rfl⟩
 have hn := hs.1
 simp only [In] at hn
 simp only [partsP] at hp
 unfold holdsT
 simp only [bif_tt, ht]
 have h1 := fun f => @partOf_lt f (cell w 8).asList.length (by omega)
 split
 · omega
 split
 · exact h1 _
 split
 · exact h1 _
 split
 · rename_i h
   have h0 : (cell t 0).asInt ≠ 0 := by omega
   have := (hk.2 (ht ▸ h0)).2.2.2.2.2
   rw [ht] at this
   have := (this.2.2.2.1 h.1).2.1 (by omega)
   omega
 · omega
theorem held_of {w : List D} (hs : StoreR w) (h5 : (cell w 17).asList.length = 5) (ht : ∀ k, k < 5 → taskW w k) : heldP w :=
 ⟨h5, fun i hi => (hs.1.2 i hi).2.1, fun k hk => holdsT_lt hs.1 hs.2.1 (ht k hk)⟩
theorem ok40 : Good1 Tryz.prog Φ g40 := good1 tok mixed (l := [g103, g104, g105, g106, g107, g108, g109, g110]) (by simp [ok103, ok104, ok105, ok106, ok107, ok108, ok109, ok110]) Tryz.func40 (by decide) (by decide) v40_eq (args1 fun a hw hp => by
 simp [g40, Φ40, mBw] at hp
 show v40.wp Φ (fun l => l = [.bool (tt (WorldP a.row))]) [a] _
 have hparts : StoreR a.row → partsP a.row := fun h => h.2.1
 by_cases hc : ConfP a.row ∧ 0 ≤ (cell a.row 6).asInt ∧ 0 ≤ (cell a.row 13).asInt ∧ In (cell a.row 7).asInt 0 99899 ∧ (cell a.row 17).asList.length = 5
 · obtain ⟨c1, c2, c3, c4, c5⟩ := hc
   have c2' : ¬ (cell a.row 6).asInt < 0 := by omega
   have c3' : ¬ (cell a.row 13).asInt < 0 := by omega
   have c4' := c4
   simp only [In] at c4'
   simp [v40, Φ40, Φ103, Φ104, Φ105, show Φ 106 = mB _ from rfl, Φ107, Φ108, Φ109, Φ110, mBw, mB, hp, eq_tt, c1, c2', c3', c4, c4', c5, In]
   simp only [WorldP, In]
   grind
 · have hz : ¬ WorldP a.row := fun h => hc ⟨h.1, h.2.1, h.2.2.1, h.2.2.2.1, h.2.2.2.2.2.2.1⟩
   unfold v40
   rw [wp_req', wp_ite']
   refine ⟨by simp [Φ40, Φ103, Φ104, Φ105, show Φ 106 = mB _ from rfl, Φ107, Φ108, Φ109, Φ110, mBw, mB], fun _ => by simp [tt_no _ |>.mpr hz], fun h => ?_⟩
   simp [Φ40, Φ103, Φ104, Φ105, show Φ 106 = mB _ from rfl, Φ107, Φ108, Φ109, Φ110, mBw, mB] at h
   simp only [In] at hc
   exact absurd ⟨h.1.1.1.1, h.1.1.1.2, h.1.1.2, h.1.2, by omega⟩ hc)
theorem ok28 : Good1 Tryz.prog Φ g28 := good1 tok mixed (l := [g85, g86, g87, g88, g89, g90, g91, g92, g93]) (by simp [ok85, ok86, ok87, ok88, ok89, ok90, ok91, ok92, ok93]) Tryz.func28 (by decide) (by decide) v28_eq (args1 fun a hw hp => by
 simp [g28, Φ28, mBw] at hp
 show v28.wp Φ (fun l => l = [.bool (tt (WorldP a.row))]) [a] _
 have hparts : StoreR a.row → partsP a.row := fun h => h.2.1
 have hl9 := wfs_at hw.1 9 rfl
 have hl17 := wfs_at hw.1 17 rfl
 have hl18 := wfs_at hw.1 18 rfl
 unfold v28
 by_cases hc : ConfP a.row ∧ 0 ≤ (cell a.row 6).asInt ∧ 0 ≤ (cell a.row 13).asInt ∧ In (cell a.row 7).asInt 0 99899 ∧ StoreR a.row ∧ ((cell a.row 9).asList.length : Int) = (cell a.row 2).asInt ∧ (cell a.row 17).asList.length = 5 ∧ AlsP (cell a.row 10).asList ∧ AlsP (cell a.row 16).asList
 · obtain ⟨c1, c2, c3, c4, c5, c6, c7, c8, c9⟩ := hc
   have c2' : ¬ (cell a.row 6).asInt < 0 := by omega
   have c3' : ¬ (cell a.row 13).asInt < 0 := by omega
   have hpt := hparts c5
   rw [wp_req', wp_ite']
   refine ⟨by simp [Φ28, Φ85, Φ86, Φ87, Φ88, Φ89, Φ90, Φ91, Φ92, Φ93, mBw, mB, hp], fun h => ?_, fun _ => ?_⟩
   · simp [Φ28, Φ85, Φ86, Φ87, Φ88, Φ89, Φ90, Φ91, Φ92, Φ93, mBw, mB, c1, c2', c3', c4, c5, c6, c7, c8, c9] at h
     simp only [In] at c4
     exfalso; omega
   refine scan_all (s := 0) (N := (cell a.row 9).asList.length) (fun i => SubP (rowN (cell a.row 9).asList i)) rfl (fun d => by simp) hl9 (by omega) (fun h i _ hi => h.2.2.2.2.2.1.1 i hi) (fun i _ hi _ => ?_) fun hS i q => ?_
   · simp [Φ28, Φ85, Φ86, Φ87, Φ88, Φ89, Φ90, Φ91, Φ92, Φ93, mBw, mB, rowAt_nat, hi]
   refine scan_all2 (s := 0) (N := (cell a.row 18).asList.length) (DeedAt a.row) rfl (fun d => by simp) hl18 (by omega) (fun h i _ hi => h.2.2.2.2.2.2.2.2.2.1 i hi) (fun i _ hi _ => ?_) fun hD i q => ?_
   · simp [Φ28, Φ85, Φ86, Φ87, Φ88, Φ89, Φ90, Φ91, Φ92, Φ93, mBw, mB, rowAt_nat, hi, DeedAt]
     grind
   refine scan_all (s := 0) (N := (cell a.row 17).asList.length) (taskW a.row) rfl (fun d => by simp) hl17 (by omega) (fun h i _ hi => h.2.2.2.2.2.2.2.2.2.2.1 i hi) (fun i _ hi _ => ?_) fun hT i q => ?_
   · simp [Φ28, Φ85, Φ86, Φ87, Φ88, Φ89, Φ90, Φ91, Φ92, Φ93, mBw, mB, hp, hpt, hi]
   have hh : heldP a.row := held_of c5 c7 fun k hk => hT k (by omega) (by omega)
   have hS' : SubsR (cell a.row 9).asList (cell a.row 2).asInt := ⟨fun i hi => hS i (by omega) hi, c6⟩
   have hD' : deedsW a.row := fun i hi => hD i (by omega) hi
   have hT' : tasksW a.row := fun i hi => hT i (by omega) hi
   simp [Φ28, Φ85, Φ86, Φ87, Φ88, Φ89, Φ90, Φ91, Φ92, Φ93, mBw, mB, hp, hh, c7, eq_tt]
   simp only [WorldP, In] at c4 ⊢
   grind
 · have hz : ¬ WorldP a.row := fun h => hc ⟨h.1, h.2.1, h.2.2.1, h.2.2.2.1, h.2.2.2.2.1, h.2.2.2.2.2.1.2, h.2.2.2.2.2.2.1, h.2.2.2.2.2.2.2.1, h.2.2.2.2.2.2.2.2.1⟩
   rw [wp_req', wp_ite']
   refine ⟨by simp [Φ28, Φ85, Φ86, Φ87, Φ88, Φ89, Φ90, Φ91, Φ92, Φ93, mBw, mB, hp], fun _ => by simp [tt_no _ |>.mpr hz], fun h => ?_⟩
   simp [Φ28, Φ85, Φ86, Φ87, Φ88, Φ89, Φ90, Φ91, Φ92, Φ93, mBw, mB] at h
   simp only [In] at hc
   exact absurd ⟨h.1.1.1.1.1.1.1.1, h.1.1.1.1.1.1.1.2, h.1.1.1.1.1.1.2, h.1.1.1.1.1.2, h.1.1.1.1.2, h.1.1.1.2, by omega, h.1.2, h.2⟩ hc)
theorem ok9 : Good1 Tryz.prog Φ g9 := good1 tok mixed (l := [g40, g41, g42]) (by simp [ok40, ok41, ok42]) Tryz.func9 (by decide) (by decide) v9_eq (args1 fun a hw hp => by
 simp [g9, show Φ 9 = mBw _ _ from rfl, mBw] at hp
 show v9.wp Φ (fun l => l = [.bool (tt (QuietP a.row))]) [a] _
 simp [v9, show Φ 9 = mBw _ _ from rfl, Φ40, show Φ 41 = mBusy from rfl, show Φ 42 = mB _ from rfl, mBw, mBusy, mB, hp, eq_tt, QuietP]
 grind)
theorem ok7 : Good1 Tryz.prog Φ g7 := good1 tok mixed (l := [g28, g29, g30]) (by simp [ok28, ok29, ok30]) Tryz.func7 (by decide) (by decide) v7_eq (args1 fun a hw hp => by
 simp [g7, show Φ 7 = mBw _ _ from rfl, mBw] at hp
 show v7.wp Φ (fun l => l = [.bool (tt (QuietP a.row))]) [a] _
 simp [v7, show Φ 7 = mBw _ _ from rfl, Φ28, show Φ 29 = mBusy from rfl, show Φ 30 = mB _ from rfl, mBw, mBusy, mB, hp, eq_tt, QuietP]
 grind)
end Go.Proofs.YtlkidecpmfhheaaGreat

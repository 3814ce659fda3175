import Derived.Test.YtlkidecpmfhheaaGreatY13
set_option linter.all false
namespace Go.Proofs.YtlkidecpmfhheaaGreat
open Go.Vx
theorem ok92 : Good1 Tryz.prog Φ g92 := good1 tok mixed (l := [g165, g166]) (by simp [ok165, ok166]) Tryz.func92 (by decide) (by decide) v92_eq (args1 fun a hw hp => by
 simp [g92, Φ92, mBw] at hp
 obtain ⟨hsz, hh⟩ := hp
 have hlk := hh.1
 have hst := szSt a.row
 show v92.wp Φ (fun l => l = [.bool (tt (locksP a.row))]) [a] _
 have hl := wfs_at hw.1 8 rfl
 refine loop2_wp (N := (cell a.row 8).asList.length) rfl (fun d d' => by simp) hl (fun i x => x.asList = List.replicate i [.int (-1)]) (by simp [chunk]) (fun i x hi _ hx => ?_) fun x _ hx p => ?_
 · simp [hx, lenMax, chunk]
   exact ⟨⟨by omega, by omega⟩, by simp [List.replicate_succ']⟩
 · have h0 : HeldIs a.row 0 x.asList := ⟨by rw [hx]; simp, fun j hj => ⟨-1, by rw [hx, rowN]; simp [List.getD_eq_getElem?_getD, hj], fun m hm => by omega, by omega, by omega⟩⟩
   refine wp_loop' (fun v => ∃ (gi : Int) (k : Nat) (y : D), v = [.int gi, .int k, y] ∧ k ≤ 5 ∧ HeldIs a.row k y.asList ∧ GroupIs a.row k gi) (fun v => 5 - (cell v 1).asInt.toNat) ⟨-1, 0, x, by simp, by omega, h0, fun m hm => by omega, by omega, by omega⟩ ?_
   simp only [allN_succ, allN_zero]
   intro d1 d2 d3
   refine kinds_intro fun _ => ?_
   rintro ⟨gi, k, y, hd, hk, hH, hG⟩
   simp only [List.cons.injEq, and_true] at hd
   obtain ⟨rfl, rfl, rfl⟩ := hd
   rw [wp_ite']
   refine ⟨fun hc => ?_, fun hc => ?_⟩
   · simp [hlk] at hc
     have hk5 : k < 5 := by omega
     have e1 : IntKind.i64.wrap ((k : Int) + 1) = ((k + 1 : Nat) : Int) := by rw [w64 (by omega) (by omega)]; simp
     obtain ⟨t, ht⟩ : ∃ t, rowN (cell a.row 17).asList k = t := ⟨_, rfl⟩
     have hhold : hold a.row k = holdsT t (cell a.row 8).asList.length := by unfold hold; rw [ht]
     have hlt : hold a.row k < (cell a.row 8).asList.length := hh.2.2 k hk5
     rw [wp_req', wp_ite']
     refine ⟨by simp [hlk, rowAt_nat, Φ92, Φ165, Φ166, mBw, mHolds, mB]; omega, fun hc2 => ?_, fun hc2 => ?_⟩
     · simp [rowAt_nat, ht, Φ92, Φ165, Φ166, mBw, mHolds, mB, ← hhold] at hc2
       obtain ⟨i, hi⟩ := Int.eq_ofNat_of_zero_le hc2
       have hin : i < (cell a.row 8).asList.length := by omega
       obtain ⟨c, h1, h2, h3, h4⟩ := hH.2 i hin
       have hyl := hH.1
       by_cases hne : c = -1
       · subst hne
         have hput := held_put hH hin hi h1
         by_cases hg : HoldsG t
         · by_cases hgi : gi = -1
           · subst hgi
             have hgp := group_put hG (ht ▸ hg)
             simp [rowAt_nat, ht, Φ92, Φ165, Φ166, mBw, mHolds, mB, ← hhold, hi, hin, hyl, hlk, h1, hg, e1]
             exact ⟨by omega, ⟨k, k + 1, _, ⟨rfl, by simp, rfl⟩, by omega, hput, hgp⟩, by omega⟩
           · have hz := group_twice hG (by omega) (ht ▸ hg) hgi
             simp [rowAt_nat, ht, Φ92, Φ165, Φ166, mBw, mHolds, mB, ← hhold, hi, hin, hyl, hlk, h1, hg, hgi, e1, tt_no _ |>.mpr hz]
             omega
         · have hgp := group_keep hG (ht ▸ hg)
           simp [rowAt_nat, ht, Φ92, Φ165, Φ166, mBw, mHolds, mB, ← hhold, hi, hin, hyl, hlk, h1, hg, e1]
           exact ⟨by omega, ⟨gi, k + 1, _, ⟨rfl, by simp, rfl⟩, by omega, hput, hgp⟩, by omega⟩
       · have hz := held_twice hH hin (by omega) hi h1 hne
         simp [rowAt_nat, ht, Φ92, Φ165, Φ166, mBw, mHolds, mB, ← hhold, hi, hin, hyl, hlk, h1, hne, tt_no _ |>.mpr hz]
     · simp [rowAt_nat, ht, Φ92, Φ165, Φ166, mBw, mHolds, mB, ← hhold] at hc2
       have hkeep := held_keep hH hc2
       by_cases hg : HoldsG t
       · by_cases hgi : gi = -1
         · subst hgi
           have hgp := group_put hG (ht ▸ hg)
           simp [rowAt_nat, ht, Φ92, Φ165, Φ166, mBw, mHolds, mB, hlk, hg, e1]
           exact ⟨by omega, ⟨k, k + 1, _, ⟨rfl, by simp, rfl⟩, by omega, hkeep, hgp⟩, by omega⟩
         · have hz := group_twice hG (by omega) (ht ▸ hg) hgi
           simp [rowAt_nat, ht, Φ92, Φ165, Φ166, mBw, mHolds, mB, hlk, hg, hgi, tt_no _ |>.mpr hz]
           omega
       · have hgp := group_keep hG (ht ▸ hg)
         simp [rowAt_nat, ht, Φ92, Φ165, Φ166, mBw, mHolds, mB, hlk, hg, e1]
         exact ⟨by omega, ⟨gi, k + 1, _, ⟨rfl, by simp, rfl⟩, by omega, hkeep, hgp⟩, by omega⟩
   · simp [hlk] at hc
     have : k = 5 := by omega
     subst this
     have hyl := hH.1
     refine scan_all (s := 0) (N := (cell a.row 8).asList.length) (fun i => rowN d3.asList i = [.int (heldOf a.row i)]) rfl (fun d => by simp) hl (by omega) (fun h i h1 h2 => locks_at hh hH h h2) (fun i h1 hi _ => ?_) fun h i q => ?_
     · obtain ⟨c, q1, _⟩ := hH.2 i hi
       simp [rowAt_nat, hi, hyl, q1, heldOf]
       constructor <;> (intro h1 h2; exact h1 h2.symm)
     · have e := locks_end hh hH hG fun i hi => h i (by omega) hi
       simp [eq_tt, e])
end Go.Proofs.YtlkidecpmfhheaaGreat

import Derived.Test.YtlkidecpmfhheaaGreatY7
set_option linter.all false
namespace Go.Proofs.YtlkidecpmfhheaaGreat
open Go.Vx
theorem eqR_nil' {p : List D → List D → Bool} {xs : List (List D)} : (eqR p xs [] = true) ↔ xs = [] := by cases xs <;> simp [eqR]
theorem eqL_self (xs : List (List D)) : eqR (eqDs kLabel) xs xs = true := eqR_refl (fun x => eqDs_refl _ x) xs
theorem eqI_self (xs : List (List D)) : eqR (eqDs [.int .i64]) xs xs = true := eqR_refl (fun x => eqDs_refl _ x) xs
theorem eqA_self (xs : List (List D)) : eqR (eqDs kAlarm) xs xs = true := eqR_refl (fun x => eqDs_refl _ x) xs
theorem als_nil {xs : List (List D)} (h : xs = []) : AlsP xs := fun i hi => by subst h; simp at hi
theorem ok180 : Good1 Tryz.prog Φ g180 := good1 tok mixed (l := [g104, g178, g242, g245, g246]) (by simp [ok104, ok178, ok242, ok245, ok246]) Tryz.func180 (by decide) (by decide) v180_eq (args2 fun a b hw hp => by
 rw [show (fun l => l = retDs (fun c => Φ g180.f c [a, b]) 0 g180.rets) = fun l => l = [.bool (tt (TaskP a.row b.asInt))] from rfl]
 have hA : (cell a.row 9).asList = [] → AlsP (cell a.row 9).asList := als_nil
 by_cases h0 : (cell a.row 0).asInt = 0
 · simp [v180, g180, Φ180, Φ104, Φ178, Φ242, Φ245, Φ246, mB, mEqA, TaskP, In, eq_tt, bareT, taskA, zeroA, eqDs_cons, eqDs_nil, eqD_str, eqD_int, eqD_bool, eqD_sl, eqR_nil', eqL_self, eqI_self, eqA_self, h0]
   grind
 by_cases h1 : (cell a.row 0).asInt = 1
 · simp [v180, g180, Φ180, Φ104, Φ178, Φ242, Φ245, Φ246, mB, mEqA, TaskP, In, eq_tt, bareT, taskA, zeroA, eqDs_cons, eqDs_nil, eqD_str, eqD_int, eqD_bool, eqD_sl, eqR_nil', eqL_self, eqI_self, eqA_self, h1]
   grind
 by_cases h2 : (cell a.row 0).asInt = 2
 · simp [v180, g180, Φ180, Φ104, Φ178, Φ242, Φ245, Φ246, mB, mEqA, TaskP, In, eq_tt, bareT, taskA, zeroA, eqDs_cons, eqDs_nil, eqD_str, eqD_int, eqD_bool, eqD_sl, eqR_nil', eqL_self, eqI_self, eqA_self, h2]
   grind
 by_cases h3 : (cell a.row 0).asInt = 3
 · simp [v180, g180, Φ180, Φ104, Φ178, Φ242, Φ245, Φ246, mB, mEqA, TaskP, In, eq_tt, bareT, taskA, zeroA, eqDs_cons, eqDs_nil, eqD_str, eqD_int, eqD_bool, eqD_sl, eqR_nil', eqL_self, eqI_self, eqA_self, snapP, seenP, h3]
   grind
 by_cases h4 : (cell a.row 0).asInt = 4
 · simp [v180, g180, Φ180, Φ104, Φ178, Φ242, Φ245, Φ246, mB, mEqA, TaskP, In, eq_tt, bareT, taskA, zeroA, eqDs_cons, eqDs_nil, eqD_str, eqD_int, eqD_bool, eqD_sl, eqR_nil', eqL_self, eqI_self, eqA_self, h4]
   grind
 by_cases h5 : (cell a.row 0).asInt = 5
 · simp [v180, g180, Φ180, Φ104, Φ178, Φ242, Φ245, Φ246, mB, mEqA, TaskP, In, eq_tt, bareT, taskA, zeroA, eqDs_cons, eqDs_nil, eqD_str, eqD_int, eqD_bool, eqD_sl, eqR_nil', eqL_self, eqI_self, eqA_self, h5]
   grind
 by_cases h6 : (cell a.row 0).asInt = 6
 · simp [v180, g180, Φ180, Φ104, Φ178, Φ242, Φ245, Φ246, mB, mEqA, TaskP, In, eq_tt, bareT, taskA, zeroA, eqDs_cons, eqDs_nil, eqD_str, eqD_int, eqD_bool, eqD_sl, eqR_nil', eqL_self, eqI_self, eqA_self, h6]
   grind
 · simp [v180, g180, Φ180, Φ104, Φ178, Φ242, Φ245, Φ246, mB, mEqA, TaskP, In, eq_tt, bareT, taskA, zeroA, h0, h1, h2, h3, h4, h5, h6]
   grind)
theorem half_le {i : Nat} (h0 : 0 < i) : ((i : Int) - 1).tdiv 2 = ((i - 1) / 2 : Nat) := by
 rw [show ((i : Int) - 1) = ((i - 1 : Nat) : Int) by omega]
 exact (Int.ofNat_tdiv (i - 1) 2).symm
def HeapAt (l : List (List D)) (i : Nat) : Prop := 0 ≤ (cell (rowN l i) 0).asInt ∧ 0 ≤ (cell (rowN l i) 1).asInt ∧ (0 < i → ¬ Bef (rowN l i) (rowN l ((i - 1) / 2)))
theorem ok168 : Good1 Tryz.prog Φ g168 := good1 tok mixed (l := [g235]) (by simp [ok235]) Tryz.func168 (by decide) (by decide) v168_eq (args1 fun a hw hp => by
 simp [g168, lenMax] at hw
 show v168.wp Φ (fun l => l = [.bool (tt (HeapP a.asList))]) [a] _
 refine scan_all (s := 0) (N := a.asList.length) (HeapAt a.asList) rfl (fun d => by simp) (by omega) (by omega) (fun h i h1 h2 => h.2 i h2) (fun i h1 hi _ => ?_) fun h i q => ?_
 · by_cases h0 : 0 < i
   · obtain ⟨m, hm⟩ : ∃ m, m = (i - 1) / 2 := ⟨_, rfl⟩
     have e1 := half_le h0
     rw [← hm] at e1
     have e2 : IntKind.i64.wrap (m : Int) = m := w64 (by omega) (by omega)
     have hmi : m < a.asList.length := by omega
     simp [Φ168, show Φ 235 = mB _ from rfl, mB, rowAt_nat, hi, e1, e2, pred64 (i := i) (by omega), h0, HeapAt, ← hm, hmi]
     grind
   · have : i = 0 := by omega
     subst this
     simp [Φ168, show Φ 235 = mB _ from rfl, mB, rowAt_0, hi, HeapAt]
     grind
 · have h' : ∀ i, i < a.asList.length → HeapAt a.asList i := fun i hi => h i (by omega) hi
   simp only [HeapAt] at h'
   simp [HeapP]
   grind)
theorem ok185 : Good1 Tryz.prog Φ g185 := good1 tok mixed (l := [g253]) (by simp [ok253]) Tryz.func185 (by decide) (by decide) v185_eq (args1 fun a hw hp => by
 simp [g185, lenMax] at hw
 show v185.wp Φ (fun l => l = [.bool (tt (HeapP a.asList))]) [a] _
 refine scan_all2 (s := 0) (N := a.asList.length) (HeapAt a.asList) rfl (fun d => by simp) (by omega) (by omega) (fun h i h1 h2 => h.2 i h2) (fun i h1 hi _ => ?_) fun h i q => ?_
 · by_cases h0 : 0 < i
   · obtain ⟨m, hm⟩ : ∃ m, m = (i - 1) / 2 := ⟨_, rfl⟩
     have e1 := half_le h0
     rw [← hm] at e1
     have e2 : IntKind.i64.wrap (m : Int) = m := w64 (by omega) (by omega)
     have hmi : m < a.asList.length := by omega
     simp [Φ185, show Φ 253 = mB _ from rfl, mB, rowAt_nat, hi, e1, e2, pred64 (i := i) (by omega), h0, HeapAt, ← hm, hmi]
     grind
   · have : i = 0 := by omega
     subst this
     simp [Φ185, show Φ 253 = mB _ from rfl, mB, rowAt_0, hi, HeapAt]
     grind
 · have h' : ∀ i, i < a.asList.length → HeapAt a.asList i := fun i hi => h i (by omega) hi
   simp only [HeapAt] at h'
   simp [HeapP]
   grind)
def KeyedAt (l key by' : List (List D)) (i : Nat) : Prop := AlOk (rowN l i) ∧ eqR (eqDs kLabel) (projL (cell (rowN l i) 0).asList by') key = true ∧ (0 < i → setLt (cell (rowN l (i - 1)) 0).asList (cell (rowN l i) 0).asList = true)
theorem al_len {r : List D} (h : AlOk r) : (cell r 0).asList.length ≤ 1048576 := by have := h.1.1.1; omega
theorem ok307 : Good1 Tryz.prog Φ g307 := good1 tok mixed (l := [g178, g248, g272, g319]) (by simp [ok178, ok248, ok272, ok319]) Tryz.func307 (by decide) (by decide) v307_eq (args3 fun a b c hw hp => by
 simp [g307, lenMax] at hw
 show v307.wp Φ (fun l => l = [.bool (tt (keyedP a.asList b.asList c.asList))]) [a, b, c] _
 refine scan_all2 (s := 0) (N := a.asList.length) (KeyedAt a.asList b.asList c.asList) rfl (fun d => by simp) (by omega) (by omega) (fun h i h1 h2 => h i h2) (fun i h1 hi _ => ?_) fun h i q => ?_
 · have hal := @al_len (rowN a.asList i)
   by_cases hA : AlOk (rowN a.asList i)
   · have hal := hal hA
     by_cases h0 : 0 < i
     · simp [Φ307, Φ178, Φ248, Φ272, Φ319, mB, mEqL, mSetLt, mKeyOf, rowAt_nat, hi, pred_at _ h0, pred64 (i := i) (by omega), h0, KeyedAt, hA, hal]
       grind
     · have : i = 0 := by omega
       subst this
       simp [Φ307, Φ178, Φ248, Φ272, Φ319, mB, mEqL, mSetLt, mKeyOf, rowAt_0, hi, KeyedAt, hA, hal]
   · by_cases h0 : 0 < i
     · simp [Φ307, Φ178, Φ248, Φ272, Φ319, mB, mEqL, mSetLt, mKeyOf, rowAt_nat, hi, pred_at _ h0, pred64 (i := i) (by omega), h0, KeyedAt, hA]
     · have : i = 0 := by omega
       subst this
       simp [Φ307, Φ178, Φ248, Φ272, Φ319, mB, mEqL, mSetLt, mKeyOf, rowAt_0, hi, KeyedAt, hA]
 · simp
   exact fun i hi => h i (by omega) hi)
theorem ok251 : Good1 Tryz.prog Φ g251 := good1 tok mixed (l := [g104, g242, g307]) (by simp [ok104, ok242, ok307]) Tryz.func251 (by decide) (by decide) v251_eq (args2 fun a b hw hp => by
 simp [v251, g251, show Φ 251 = mB _ from rfl, Φ104, Φ242, Φ307, mB, GroupP, In, eq_tt, keyedP]
 grind)
theorem ok234 : Good1 Tryz.prog Φ g234 := good1 tok mixed (l := [g86, g156, g163, g226, g259, g264]) (by simp [ok86, ok156, ok163, ok226, ok259, ok264]) Tryz.func234 (by decide) (by decide) v234_eq (args2 fun a b hw hp => by
 show v234.wp Φ (fun l => l = [.bool (tt (GroupP a.row b.asList))]) [a, b] _
 have hl := wfs_at hw.1 4 rfl
 refine scan_all (s := 0) (N := (cell a.row 4).asList.length) (KeyedAt (cell a.row 4).asList (cell a.row 1).asList b.asList) rfl (fun d => by simp) hl (by omega) (fun h i h1 h2 => h.2.2.2.2.2 i h2) (fun i h1 hi _ => ?_) fun h i q => ?_
 · have hal := @al_len (rowN (cell a.row 4).asList i)
   by_cases hA : AlOk (rowN (cell a.row 4).asList i)
   · have hal := hal hA
     by_cases h0 : 0 < i
     · cases hs : setLt (cell (rowN (cell a.row 4).asList (i - 1)) 0).asList (cell (rowN (cell a.row 4).asList i) 0).asList <;> simp [Φ234, Φ86, Φ156, Φ163, Φ226, Φ259, Φ264, mB, mEqL, mSetLt, mKeyOf, rowAt_nat, hi, pred_at _ h0, pred64 (i := i) (by omega), h0, KeyedAt, hA, hal, hs]
       all_goals omega
     · have : i = 0 := by omega
       subst this
       simp [Φ234, Φ86, Φ156, Φ163, Φ226, Φ259, Φ264, mB, mEqL, mSetLt, mKeyOf, rowAt_0, hi, KeyedAt, hA, hal]
   · by_cases h0 : 0 < i
     · simp [Φ234, Φ86, Φ156, Φ163, Φ226, Φ259, Φ264, mB, mEqL, mSetLt, mKeyOf, rowAt_nat, hi, pred_at _ h0, pred64 (i := i) (by omega), h0, KeyedAt, hA]
     · have : i = 0 := by omega
       subst this
       simp [Φ234, Φ86, Φ156, Φ163, Φ226, Φ259, Φ264, mB, mEqL, mSetLt, mKeyOf, rowAt_0, hi, KeyedAt, hA]
 · have h' : ∀ i, i < (cell a.row 4).asList.length → KeyedAt (cell a.row 4).asList (cell a.row 1).asList b.asList i := fun i hi => h i (by omega) hi
   simp only [KeyedAt] at h'
   simp [Φ234, Φ86, Φ156, Φ163, Φ226, Φ259, Φ264, mB, mEqL, mSetLt, mKeyOf, GroupP, In, eq_tt]
   grind)
end Go.Proofs.YtlkidecpmfhheaaGreat

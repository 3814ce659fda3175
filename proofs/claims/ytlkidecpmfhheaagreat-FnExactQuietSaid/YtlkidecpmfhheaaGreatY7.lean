import Derived.Test.YtlkidecpmfhheaaGreatY6
set_option linter.all false
namespace Go.Proofs.YtlkidecpmfhheaaGreat
open Go.Vx
theorem chainAt_lt (p : List D) (f : Int) (h : ¬ chainAt p f < 0) : 0 ≤ chainAt p f ∧ chainAt p f < (cell p 2).asList.length := by
 unfold chainAt at h ⊢
 rcases findR_cases (fun c => (cell c 0).asInt = f) (cell p 2).asList with ⟨e, _⟩ | ⟨i, hi, e, _⟩ <;> rw [e] at h ⊢ <;> omega
theorem inCh_lt (l s : List (List D)) (h : ¬ inCh l s < 0) : (0 ≤ inCh l s ∧ inCh l s < l.length) ∧ (cell (rowN l (inCh l s).toNat) 0).asList.length = s.length := by
 unfold inCh at h ⊢
 rcases findR_cases (fun r => eqR (eqDs kLabel) (cell r 0).asList s = true) l with ⟨e, _⟩ | ⟨i, hi, e, hp, _⟩ <;> rw [e] at h ⊢
 · omega
 · exact ⟨by omega, (eqR_iff.1 hp).1⟩
theorem ok230 : Good1 Tryz.prog Φ g230 := good1 tok mixed (l := [g201, g233, g296, g297]) (by simp [ok201, ok233, ok296, ok297]) Tryz.func230 (by decide) (by decide) v230_eq (args2 fun a b hw hp => by
 simp [g230, Φ230, mFindIn] at hp
 by_cases h1 : chainAt a.row (fing b.asList) < 0
 · simp [v230, g230, Φ230, Φ201, Φ233, Φ296, Φ297, mFindIn, mCpAl, mFing, mChainAt, mInCh, findIn, h1]
 · have h2 := chainAt_lt _ _ h1
   by_cases h3 : inCh (cell (rowN (cell a.row 2).asList (chainAt a.row (fing b.asList)).toNat) 1).asList b.asList < 0
   · simp [v230, g230, Φ230, Φ201, Φ233, Φ296, Φ297, mFindIn, mCpAl, mFing, mChainAt, mInCh, findIn, h1, h2, h3, Go.Vx.rowAt]
   · obtain ⟨h4, h5⟩ := inCh_lt _ _ h3
     simp [v230, g230, Φ230, Φ201, Φ233, Φ296, Φ297, mFindIn, mCpAl, mFing, mChainAt, mInCh, findIn, h1, h2, h3, h4, Go.Vx.rowAt, cpAl]
     omega)
theorem ok304 : Good1 Tryz.prog Φ g304 := good1 tok mixed (l := [g220, g306, g326, g327]) (by simp [ok220, ok306, ok326, ok327]) Tryz.func304 (by decide) (by decide) v304_eq (args2 fun a b hw hp => by
 simp [g304, Φ304, mFindIn] at hp
 by_cases h1 : chainAt a.row (fing b.asList) < 0
 · simp [v304, g304, Φ304, Φ220, Φ306, Φ326, Φ327, mFindIn, mCpAl, mFing, mChainAt, mInCh, findIn, h1]
 · have h2 := chainAt_lt _ _ h1
   by_cases h3 : inCh (cell (rowN (cell a.row 2).asList (chainAt a.row (fing b.asList)).toNat) 1).asList b.asList < 0
   · simp [v304, g304, Φ304, Φ220, Φ306, Φ326, Φ327, mFindIn, mCpAl, mFing, mChainAt, mInCh, findIn, h1, h2, h3, Go.Vx.rowAt]
   · obtain ⟨h4, h5⟩ := inCh_lt _ _ h3
     simp [v304, g304, Φ304, Φ220, Φ306, Φ326, Φ327, mFindIn, mCpAl, mFing, mChainAt, mInCh, findIn, h1, h2, h3, h4, Go.Vx.rowAt, cpAl]
     omega)
theorem ok161 : Good1 Tryz.prog Φ g161 := good1 tok mixed (l := [g230, g231]) (by simp [ok230, ok231]) Tryz.func161 (by decide) (by decide) v161_eq (args2 fun a b hw hp => by
 simp [g161, Φ161, mFindA] at hp
 by_cases h1 : a.asList = []
 · simp [v161, g161, Φ161, Φ230, Φ231, mFindA, mFindIn, mHome, findA, h1]
 · have h0 : a.asList.length ≠ 0 := by simpa using h1
   have h2 := partOf_lt (f := fing b.asList) (n := a.asList.length) (by omega)
   have h3 := partOf_nn (fing b.asList) a.asList.length
   simp [v161, g161, Φ161, Φ230, Φ231, mFindA, mFindIn, mHome, findA, h1, h2, h3, Go.Vx.rowAt, hp])
theorem ok247 : Good1 Tryz.prog Φ g247 := good1 tok mixed (l := [g304, g305]) (by simp [ok304, ok305]) Tryz.func247 (by decide) (by decide) v247_eq (args2 fun a b hw hp => by
 simp [g247, Φ247, mFindA] at hp
 by_cases h1 : a.asList = []
 · simp [v247, g247, Φ247, Φ304, Φ305, mFindA, mFindIn, mHome, findA, h1]
 · have h0 : a.asList.length ≠ 0 := by simpa using h1
   have h2 := partOf_lt (f := fing b.asList) (n := a.asList.length) (by omega)
   have h3 := partOf_nn (fing b.asList) a.asList.length
   simp [v247, g247, Φ247, Φ304, Φ305, mFindA, mFindIn, mHome, findA, h1, h2, h3, Go.Vx.rowAt, hp])
theorem ok245 : Good1 Tryz.prog Φ g245 := good1 tok mixed (l := [g147, g217, g248, g303]) (by simp [ok147, ok217, ok248, ok303]) Tryz.func245 (by decide) (by decide) v245_eq (args2 fun a b hw hp => by
 simp [v245, g245, Φ245, Φ147, Φ217, Φ248, show Φ 303 = mEqL [.int .i64] from rfl, mEqA, mEqL, eqDs_cons, eqDs_nil, eqD_str, eqD_int, eqD_bool, eqD_sl]
 rw [Bool.eq_iff_iff]
 simp [and_assoc])
def seenAt (t : List D) (i : Nat) : Prop := 0 ≤ (cell (rowN (cell t 8).asList i) 0).asInt
theorem ok229 : Good1 Tryz.prog Φ g229 := good1 tok mixed (l := [g86]) (by simp [ok86]) Tryz.func229 (by decide) (by decide) v229_eq (args1 fun a hw hp => by
 show v229.wp Φ (fun l => l = [.bool (tt (seenP a.row))]) [a] _
 have hl := wfs_at hw.1 8 rfl
 refine scan_all (s := 0) (N := (cell a.row 8).asList.length) (seenAt a.row) rfl (fun d => by simp) hl (by omega) (fun h i h1 h2 => h.1 i h2) (fun i h1 hi _ => ?_) fun h i q => ?_
 · simp [rowAt_nat, hi, seenAt]
 · have h' : ∀ i, i < (cell a.row 8).asList.length → 0 ≤ (cell (rowN (cell a.row 8).asList i) 0).asInt := fun i hi => h i (by omega) hi
   simp [Φ229, Φ86, mB, seenP, In, eq_tt]
   grind)
theorem ok246 : Good1 Tryz.prog Φ g246 := good1 tok mixed (l := [g104, g107]) (by simp [ok104, ok107]) Tryz.func246 (by decide) (by decide) v246_eq (args1 fun a hw hp => by
 show v246.wp Φ (fun l => l = [.bool (tt (snapP a.row))]) [a] _
 have hl := wfs_at hw.1 8 rfl
 refine scan_all (s := 0) (N := (cell a.row 8).asList.length) (seenAt a.row) rfl (fun d => by simp) hl (by omega) (fun h i h1 h2 => h.1 i h2) (fun i h1 hi _ => ?_) fun h i q => ?_
 · simp [rowAt_nat, hi, seenAt]
 · have h' : ∀ i, i < (cell a.row 8).asList.length → 0 ≤ (cell (rowN (cell a.row 8).asList i) 0).asInt := fun i hi => h i (by omega) hi
   simp [Φ246, Φ104, Φ107, mB, snapP, In, eq_tt]
   grind)
theorem ok159 : Good1 Tryz.prog Φ g159 := good1 tok mixed (l := [g86, g88, g156, g226, g228, g229]) (by simp [ok86, ok88, ok156, ok226, ok228, ok229]) Tryz.func159 (by decide) (by decide) v159_eq (args2 fun a b hw hp => by
 rw [show (fun l => l = retDs (fun c => Φ g159.f c [a, b]) 0 g159.rets) = fun l => l = [.bool (tt (TaskP a.row b.asInt))] from rfl]
 by_cases h0 : (cell a.row 0).asInt = 0
 · simp [v159, g159, Φ159, Φ86, Φ88, Φ156, Φ226, Φ228, Φ229, mB, TaskP, In, eq_tt, bareT, taskA, h0]
   grind
 by_cases h1 : (cell a.row 0).asInt = 1
 · simp [v159, g159, Φ159, Φ86, Φ88, Φ156, Φ226, Φ228, Φ229, mB, TaskP, In, eq_tt, bareT, taskA, h1]
   grind
 by_cases h2 : (cell a.row 0).asInt = 2
 · simp [v159, g159, Φ159, Φ86, Φ88, Φ156, Φ226, Φ228, Φ229, mB, TaskP, In, eq_tt, bareT, taskA, h2]
   grind
 by_cases h3 : (cell a.row 0).asInt = 3
 · simp [v159, g159, Φ159, Φ86, Φ88, Φ156, Φ226, Φ228, Φ229, mB, TaskP, In, eq_tt, bareT, taskA, h3]
   grind
 by_cases h4 : (cell a.row 0).asInt = 4
 · simp [v159, g159, Φ159, Φ86, Φ88, Φ156, Φ226, Φ228, Φ229, mB, TaskP, In, eq_tt, bareT, taskA, h4]
   grind
 by_cases h5 : (cell a.row 0).asInt = 5
 · simp [v159, g159, Φ159, Φ86, Φ88, Φ156, Φ226, Φ228, Φ229, mB, TaskP, In, eq_tt, bareT, taskA, h5]
   grind
 by_cases h6 : (cell a.row 0).asInt = 6
 · simp [v159, g159, Φ159, Φ86, Φ88, Φ156, Φ226, Φ228, Φ229, mB, TaskP, In, eq_tt, bareT, taskA, h6]
   grind
 · simp [v159, g159, Φ159, Φ86, Φ88, Φ156, Φ226, Φ228, Φ229, mB, TaskP, In, eq_tt, bareT, taskA, h0, h1, h2, h3, h4, h5, h6]
   grind)
end Go.Proofs.YtlkidecpmfhheaaGreat

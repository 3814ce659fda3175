import Derived.Test.YtlkidecpmfhheaaGreatS2
set_option linter.all false
namespace Go.Proofs.YtlkidecpmfhheaaGreat
open Go.Vx
theorem drop_rowN {xs : List (List D)} {i : Nat} (h : i < xs.length) : xs.drop i = rowN xs i :: xs.drop (i + 1) := by
 rw [List.drop_eq_getElem_cons h, rowN_lt h]
theorem ok293 : Good1 Tryz.prog Φ g293 := good1 tok mixed (l := []) (by simp) Tryz.func293 (by decide) (by decide) v293_eq (args2 fun a b hw hp => by
 simp [v293, g293, Φ293, mLess])
theorem ok272 : Good1 Tryz.prog Φ g272 := good1e tok mixed (l := []) (by simp) Tryz.func272 (by decide) (by decide) v272_eq (args2 fun a b hw hp => by
 simp [g272, lenMax] at hw
 refine wp_loop' (fun v => ∃ i : Nat, v = [.int i] ∧ i ≤ a.asList.length ∧ i ≤ b.asList.length ∧ setLt a.asList b.asList = setLt (a.asList.drop i) (b.asList.drop i)) (fun v => a.asList.length - (cell v 0).asInt.toNat) ⟨0, rfl, by omega, by omega, by simp⟩ ?_
 simp only [allN_succ, allN_zero]
 intro d
 refine kinds_intro fun _ => ?_
 rintro ⟨i, hd, h1, h2, h3⟩
 simp only [List.cons.injEq, and_true] at hd
 subst hd
 by_cases ha : i < a.asList.length
 · by_cases hb : i < b.asList.length
   · rw [drop_rowN ha, drop_rowN hb, setLt] at h3
     simp [rowAt_nat, ha, hb, g272, RSh.cells, Φ272, mSetLt, h3]
     refine ⟨fun hne => by simp [hne], fun he => ⟨fun hne => by simp [he, hne], fun he2 => ?_⟩⟩
     rw [w64 (by omega) (by omega)]
     exact ⟨⟨i + 1, by simp, by omega, by omega, by simp [he, he2]⟩, by omega⟩
   · have : b.asList.drop i = [] := by simp; omega
     rw [this] at h3
     have h4 : setLt (a.asList.drop i) [] = false := by cases a.asList.drop i <;> rfl
     simp [ha, hb, g272, RSh.cells, Φ272, mSetLt, h3, h4]
     omega
 · have : a.asList.drop i = [] := by simp; omega
   rw [this] at h3
   simp [ha, g272, RSh.cells, Φ272, mSetLt, h3]
   by_cases hb : i < b.asList.length
   · rw [drop_rowN hb]; simp [setLt]; omega
   · have : b.asList.drop i = [] := by simp; omega
     rw [this]; simp [setLt]; omega)
theorem ok259 : Good1 Tryz.prog Φ g259 := good1e tok mixed (l := [g293]) (by simp [ok293]) Tryz.func259 (by decide) (by decide) v259_eq (args2 fun a b hw hp => by
 simp [g259, lenMax] at hw
 refine wp_loop' (fun v => ∃ i : Nat, v = [.int i] ∧ i ≤ a.asList.length ∧ i ≤ b.asList.length ∧ setLt a.asList b.asList = setLt (a.asList.drop i) (b.asList.drop i)) (fun v => a.asList.length - (cell v 0).asInt.toNat) ⟨0, rfl, by omega, by omega, by simp⟩ ?_
 simp only [allN_succ, allN_zero]
 intro d
 refine kinds_intro fun _ => ?_
 rintro ⟨i, hd, h1, h2, h3⟩
 simp only [List.cons.injEq, and_true] at hd
 subst hd
 by_cases ha : i < a.asList.length
 · by_cases hb : i < b.asList.length
   · rw [drop_rowN ha, drop_rowN hb, setLt] at h3
     simp [rowAt_nat, ha, hb, g259, RSh.cells, Φ259, mSetLt, h3, Φ293, mLess]
     refine ⟨fun hne => by simp [hne], fun he => ⟨fun hne => by simp [he, hne], fun he2 => ?_⟩⟩
     rw [w64 (by omega) (by omega)]
     exact ⟨⟨i + 1, by simp, by omega, by omega, by simp [he, he2]⟩, by omega⟩
   · have : b.asList.drop i = [] := by simp; omega
     rw [this] at h3
     have h4 : setLt (a.asList.drop i) [] = false := by cases a.asList.drop i <;> rfl
     simp [ha, hb, g259, RSh.cells, Φ259, mSetLt, h3, h4]
     omega
 · have : a.asList.drop i = [] := by simp; omega
   rw [this] at h3
   simp [ha, g259, RSh.cells, Φ259, mSetLt, h3]
   by_cases hb : i < b.asList.length
   · rw [drop_rowN hb]; simp [setLt]; omega
   · have : b.asList.drop i = [] := by simp; omega
     rw [this]; simp [setLt]; omega)
theorem ok291 : Good1 Tryz.prog Φ g291 := good1 tok mixed (l := [g272]) (by simp [ok272]) Tryz.func291 (by decide) (by decide) v291_eq (args3 fun a b c hw hp => by
 simp [g291, Φ291, mByL1] at hp
 obtain ⟨⟨h1, h2⟩, h3, h4⟩ := hp
 obtain ⟨i, hi⟩ : ∃ i : Nat, a.asInt = i := ⟨a.asInt.toNat, by omega⟩
 obtain ⟨j, hj⟩ : ∃ j : Nat, b.asInt = j := ⟨b.asInt.toNat, by omega⟩
 rw [hi] at h2
 rw [hj] at h4
 simp [v291, g291, Φ291, mByL1, Φ272, mSetLt, ltA, hi, hj, rowAt_nat]
 omega)
end Go.Proofs.YtlkidecpmfhheaaGreat

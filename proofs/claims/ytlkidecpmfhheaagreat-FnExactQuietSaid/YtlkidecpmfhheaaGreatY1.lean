import Derived.Test.YtlkidecpmfhheaaGreatX3
import Derived.Test.YtlkidecpmfhheaaGreatX4
set_option linter.all false
namespace Go.Proofs.YtlkidecpmfhheaaGreat
open Go.Vx
theorem rowAt_0 (xs : List (List D)) : Go.Vx.rowAt xs 0 = rowN xs 0 := rfl
theorem ok30 : Good1 Tryz.prog Φ g30 := good1 tok mixed (l := []) (by simp) Tryz.func30 (by decide) (by decide) v30_eq (args1 fun a hw hp => by
 by_cases h : 0 < (cell a.row 14).asList.length <;> simp [v30, g30, show Φ 30 = mB _ from rfl, mB, RipeP, h, rowAt_0])
theorem ok42 : Good1 Tryz.prog Φ g42 := good1 tok mixed (l := []) (by simp) Tryz.func42 (by decide) (by decide) v42_eq (args1 fun a hw hp => by
 by_cases h : 0 < (cell a.row 14).asList.length <;> simp [v42, g42, show Φ 42 = mB _ from rfl, mB, RipeP, h, rowAt_0])
theorem ok232 : Good1 Tryz.prog Φ g232 := good1 tok mixed (l := []) (by simp) Tryz.func232 (by decide) (by decide) v232_eq (args2 fun a b hw hp => by
 simp [v232, g232, Φ232, mPartOf, partOf]
 refine ⟨fun h => by simp [h], fun h1 h2 => ⟨by omega, ?_⟩⟩
 rw [tt_no _ |>.mpr (by omega)]; rfl)
theorem ok301 : Good1 Tryz.prog Φ g301 := good1 tok mixed (l := []) (by simp) Tryz.func301 (by decide) (by decide) v301_eq (args2 fun a b hw hp => by
 simp [v301, g301, Φ301, mPartOf, partOf]
 refine ⟨fun h => by simp [h], fun h1 h2 => ⟨by omega, ?_⟩⟩
 rw [tt_no _ |>.mpr (by omega)]; rfl)
theorem ok236 : Good1 Tryz.prog Φ g236 := good1 tok mixed (l := []) (by simp) Tryz.func236 (by decide) (by decide) v236_eq (args3 fun a b c hw hp => by
 simp [v236, g236, Φ236, mNextDue, dueI]
 exact ⟨fun h => by rw [if_pos h], fun h => by rw [if_neg h]⟩)
theorem ok254 : Good1 Tryz.prog Φ g254 := good1 tok mixed (l := []) (by simp) Tryz.func254 (by decide) (by decide) v254_eq (args3 fun a b c hw hp => by
 simp [v254, g254, Φ254, mNextDue, dueI]
 exact ⟨fun h => by rw [if_pos h], fun h => by rw [if_neg h]⟩)
theorem ok169 : Good1 Tryz.prog Φ g169 := good1 tok mixed (l := [g236]) (by simp [ok236]) Tryz.func169 (by decide) (by decide) v169_eq (args2 fun a b hw hp => by
 simp [v169, g169, Φ169, Φ236, mDue, mNextDue])
theorem ok186 : Good1 Tryz.prog Φ g186 := good1 tok mixed (l := [g254]) (by simp [ok254]) Tryz.func186 (by decide) (by decide) v186_eq (args2 fun a b hw hp => by
 simp [v186, g186, Φ186, Φ254, mDue, mNextDue])
theorem ok235 : Good1 Tryz.prog Φ g235 := good1 tok mixed (l := []) (by simp) Tryz.func235 (by decide) (by decide) v235_eq (args2 fun a b hw hp => by
 simp [v235, g235, show Φ 235 = mB _ from rfl, mB, Bef]
 rw [Bool.eq_iff_iff]; simp)
theorem ok253 : Good1 Tryz.prog Φ g253 := good1 tok mixed (l := []) (by simp) Tryz.func253 (by decide) (by decide) v253_eq (args2 fun a b hw hp => by
 simp [v253, g253, show Φ 253 = mB _ from rfl, mB, Bef]
 rw [Bool.eq_iff_iff]; simp)
theorem ok166 : Good1 Tryz.prog Φ g166 := good1 tok mixed (l := []) (by simp) Tryz.func166 (by decide) (by decide) v166_eq (args1 fun a hw hp => by
 simp [v166, g166, Φ166, mB, HoldsG]
 rw [Bool.eq_iff_iff]; simp)
theorem ok183 : Good1 Tryz.prog Φ g183 := good1 tok mixed (l := []) (by simp) Tryz.func183 (by decide) (by decide) v183_eq (args1 fun a hw hp => by
 simp [v183, g183, Φ183, mB, HoldsG]
 rw [Bool.eq_iff_iff]; simp)
theorem ok158 : Good1 Tryz.prog Φ g158 := good1 tok mixed (l := []) (by simp) Tryz.func158 (by decide) (by decide) v158_eq (args1 fun a hw hp => by
 simp [v158, g158, Φ158, mCodes, chunk]
 by_cases h1 : a.asInt = 1
 · simp [h1]
 · by_cases h3 : a.asInt = 3
   · simp [h3]
   · by_cases h7 : a.asInt = 7
     · simp [h7]
     · by_cases h8 : a.asInt = 8
       · simp [h8]
       · by_cases h9 : a.asInt = 9
         · simp [h9]
         · simp [h1, h3, h7, h8, h9])
theorem ok160 : Good1 Tryz.prog Φ g160 := good1 tok mixed (l := []) (by simp) Tryz.func160 (by decide) (by decide) v160_eq (args1 fun a hw hp => by
 simp [g160, Φ160, mDeedOp, In] at hp
 obtain ⟨n, hn⟩ := Int.eq_ofNat_of_zero_le hp.1
 have h6 : n = 0 ∨ n = 1 ∨ n = 2 ∨ n = 3 ∨ n = 4 ∨ n = 5 ∨ n = 6 := by omega
 rcases h6 with rfl | rfl | rfl | rfl | rfl | rfl | rfl <;> simp [v160, g160, Φ160, mDeedOp, deedOp, chunk, hn, Go.Vx.rowAt])
end Go.Proofs.YtlkidecpmfhheaaGreat

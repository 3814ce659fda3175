/-
  Contracts: the order of deeds.
-/
import Derived.Test.YtllhihloidkghaaS2
set_option linter.unusedVariables false
set_option linter.unusedSimpArgs false
namespace Go.Proofs.Ytllhihloidkghaa
open Go.Vx

theorem ok114 : Good1 Try.prog Φ g114 := good1 tok mixed (l := []) (by simp) Try.func114 (by decide) (by decide) v114_eq (args4 fun a b c d hw hp => by
  simp [g114, show Φ 114 = mOrd1 from rfl, mOrd1] at hp
  obtain ⟨⟨⟨h1, h2⟩, h3, h4⟩, h5⟩ := hp
  obtain ⟨i, hi⟩ : ∃ i : Nat, a.asInt = i := ⟨a.asInt.toNat, by omega⟩
  obtain ⟨j, hj⟩ : ∃ j : Nat, b.asInt = j := ⟨b.asInt.toNat, by omega⟩
  rw [hi] at h2
  rw [hj] at h4
  have q1 := h5 _ (rowN_mem (i := i) (by omega))
  have q2 := h5 _ (rowN_mem (i := j) (by omega))
  obtain ⟨i', hi'⟩ : ∃ i' : Nat, (cell (rowN (cell d.row 0).asList i) 0).asInt = i' := ⟨_, (Int.toNat_of_nonneg q1.1).symm⟩
  obtain ⟨j', hj'⟩ : ∃ j' : Nat, (cell (rowN (cell d.row 0).asList j) 0).asInt = j' := ⟨_, (Int.toNat_of_nonneg q2.1).symm⟩
  rw [hi'] at q1
  rw [hj'] at q2
  simp [v114, g114, show Φ 114 = mOrd1 from rfl, mOrd1, ltP, linOf, hi, hj, rowAt_nat, hi', hj', decide_tt]
  omega)
end Go.Proofs.Ytllhihloidkghaa

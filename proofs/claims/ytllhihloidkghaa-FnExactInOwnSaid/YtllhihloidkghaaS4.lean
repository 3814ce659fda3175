/-
  Contracts: InOwn and its law.
-/
import Derived.Test.YtllhihloidkghaaS3
namespace Go.Proofs.Ytllhihloidkghaa
open Go.Vx

theorem sumR_mem {p : List D → Nat} : ∀ {xs : List (List D)} {i : Nat}, i < xs.length → p (rowN xs i) ≤ sumR p xs
  | x :: xs, 0, _ => by simp [sumR]
  | x :: xs, i + 1, h => by
    have := sumR_mem (p := p) (xs := xs) (i := i) (by simpa using h)
    simp only [rowN_succ, sumR]
    omega

/-- How large what InOwn looks at is. -/
theorem own_size {r : List D} (h : szDs kWorld r ≤ 1048576) : (cell r 15).asList.length ≤ 1048576 ∧ ∀ j, j < (cell r 15).asList.length → (cell (rowN (cell r 15).asList j) 3).asList.length ≤ 1048576 ∧
    ∀ k, k < (cell (rowN (cell r 15).asList j) 3).asList.length → (cell (rowN (cell (rowN (cell r 15).asList j) 3).asList k) 0).asList.length ≤ 1048576 := by
  simp [szDs_cons, szDs_nil, szD] at h
  refine ⟨by omega, fun j hj => ?_⟩
  have h1 := sumR_mem (p := szDs kBatch) hj
  simp [szDs_cons, szDs_nil, szD] at h1
  refine ⟨by omega, fun k hk => ?_⟩
  have h2 := sumR_mem (p := szDs kAlarm) hk
  simp [szDs_cons, szDs_nil, szD] at h2
  omega

theorem ok25 : Good1 Try.prog Φ g25 := good1 tok mixed (l := [g68, g69, g70]) (by simp [ok68, ok69, ok70]) Try.func25 (by decide) (by decide) v25_eq (args1 fun a hw hp => by
  simp [g25, show Φ 25 = mInOwn from rfl, mInOwn] at hp
  obtain ⟨z1, z2⟩ := own_size hp
  show v25.wp Φ (fun l => l = [.bool (tt (∀ j, j < (cell a.row 15).asList.length → ownB (cell a.row 5).asList (rowN (cell a.row 15).asList j)))]) [a] _
  refine loop1_wp (N := (cell a.row 15).asList.length) rfl (fun d => by simp) (by omega) (fun i => ∀ j, j < i → ownB (cell a.row 5).asList (rowN (cell a.row 15).asList j)) (fun j hj => by omega) (fun i hi hI => ?_) (fun hI p => ?_)
  · obtain ⟨z3, z4⟩ := z2 i hi
    rw [wp_req']
    refine ⟨by simp; omega, loop1_wp (N := (cell (rowN (cell a.row 15).asList i) 3).asList.length) rfl (fun d => by simp [rowAt_nat]) (by omega)
      (fun k => ∀ m, m < k → eqR (eqDs kLabel) (projL (cell (rowN (cell (rowN (cell a.row 15).asList i) 3).asList m) 0).asList (cell a.row 5).asList) (cell (rowN (cell a.row 15).asList i) 1).asList = true) (fun j hj => by omega) (fun k hk hK => ?_) (fun hK p => ?_)⟩
    · have z5 := z4 k hk
      simp [show Φ 68 = mEqL kLabel from rfl, mEqL, show Φ 69 = mKeyOf from rfl, mKeyOf, rowAt_nat, setB_ne]
      refine ⟨hk, z5, fun h => ?_, fun h m hm => ?_⟩
      · exact ⟨i, hi, fun ho => by have := ho.2.1 k hk; rw [h] at this; cases this⟩
      · rcases Nat.lt_or_ge m k with hmk | hmk
        · exact hK m hmk
        · have : m = k := by omega
          subst this; exact h
    · simp [show Φ 70 = mApart from rfl, mApart, rowAt_nat, setB_ne]
      refine ⟨Classical.em _, fun h => ?_, fun h => ?_⟩
      · exact ⟨i, hi, fun ho => by
          rcases h with h | h
          · exact ho.1 h
          · exact h ho.2.2⟩
      · intro h' j hj
        rcases Nat.lt_or_ge j i with hji | hji
        · exact hI j hji
        · have : j = i := by omega
          subst this
          exact ⟨h, hK, h'⟩
  · simp
    exact hI)

/-- A row stands first among those of its labels. -/
theorem stands_self {l : List (List D)} {k : Nat} (hk : k < l.length) : findR (fun r => eqR (eqDs kLabel) (cell r 0).asList (cell (rowN l k) 0).asList = true) l 0 = k ↔ ∀ m, m < k → eqR (eqDs kLabel) (cell (rowN l m) 0).asList (cell (rowN l k) 0).asList = false := by
  have hself := eqR_refl (eqDs_refl kLabel) (cell (rowN l k) 0).asList
  constructor
  · intro h m hm
    rcases findR_cases (fun r => eqR (eqDs kLabel) (cell r 0).asList (cell (rowN l k) 0).asList = true) l with ⟨h1, _⟩ | ⟨i, hi, h1, h2, h3⟩
    · rw [h1] at h; omega
    · rw [h1] at h
      have : i = k := by omega
      subst this
      simpa using h3 m hm
  · intro h
    rw [findR_at hk (fun m hm => by simp [h m hm]) hself]
    simp

theorem ok24 : Good1 Try.prog Φ g24 := good1 tok mixed (l := [g65, g66, g67]) (by simp [ok65, ok66, ok67]) Try.func24 (by decide) (by decide) v24_eq (args1 fun a hw hp => by
  simp [g24, show Φ 24 = mInOwn from rfl, mInOwn] at hp
  obtain ⟨z1, z2⟩ := own_size hp
  show v24.wp Φ (fun l => l = [.bool (tt (∀ j, j < (cell a.row 15).asList.length → ownB (cell a.row 5).asList (rowN (cell a.row 15).asList j)))]) [a] _
  refine loop1_wp (N := (cell a.row 15).asList.length) rfl (fun d => by simp) (by omega) (fun i => ∀ j, j < i → ownB (cell a.row 5).asList (rowN (cell a.row 15).asList j)) (fun j hj => by omega) (fun i hi hI => ?_) (fun hI p => ?_)
  · obtain ⟨z3, z4⟩ := z2 i hi
    rw [wp_req']
    refine ⟨by simp; omega, loop1_wp (N := (cell (rowN (cell a.row 15).asList i) 3).asList.length) rfl (fun d => by simp [rowAt_nat]) (by omega)
      (fun k => ∀ m, m < k → eqR (eqDs kLabel) (projL (cell (rowN (cell (rowN (cell a.row 15).asList i) 3).asList m) 0).asList (cell a.row 5).asList) (cell (rowN (cell a.row 15).asList i) 1).asList = true ∧
        ∀ n, n < m → eqR (eqDs kLabel) (cell (rowN (cell (rowN (cell a.row 15).asList i) 3).asList n) 0).asList (cell (rowN (cell (rowN (cell a.row 15).asList i) 3).asList m) 0).asList = false) (fun j hj => by omega) (fun k hk hK => ?_) (fun hK p => ?_)⟩
    · have z5 := z4 k hk
      simp [show Φ 65 = mEqL kLabel from rfl, mEqL, show Φ 66 = mKeyOf from rfl, mKeyOf, show Φ 67 = mStands from rfl, mStands, rowAt_nat, setB_ne, stands_self hk]
      refine ⟨⟨hk, z5⟩, fun h => ⟨i, hi, fun ho => ?_⟩, fun h h' m hm => ?_⟩
      · rcases h with h | ⟨x, hx, h⟩
        · have := ho.2.1 k hk; rw [h] at this; cases this
        · have := ho.2.2 k hk x hx; rw [h] at this; cases this
      · rcases Nat.lt_or_ge m k with hmk | hmk
        · exact hK m hmk
        · have : m = k := by omega
          subst this; exact ⟨h, h'⟩
    · simp [rowAt_nat, setB_ne]
      refine ⟨fun h => ⟨i, hi, fun ho => ho.1 h⟩, fun h j hj => ?_⟩
      rcases Nat.lt_or_ge j i with hji | hji
      · exact hI j hji
      · have : j = i := by omega
        subst this
        exact ⟨h, fun m hm => (hK m hm).1, fun m hm => (hK m hm).2⟩
  · simp
    exact hI)
theorem ok6 : Good1 Try.prog Φ g6 := good1 tok mixed (l := [g19, g21, g23, g24, g25]) (by simp [ok19, ok21, ok23, ok24, ok25]) Try.func6 (by decide) (by decide) v6_eq (args1 fun a hw hp => by
  have hc := szDs_cnDs kWorld' a.row
  have ha := szDs_asl kWorld (cnDs kWorld' a.row)
  rw [show szDs kWorld (cnDs kWorld' a.row) = szDs kWorld' (cnDs kWorld' a.row) from rfl, hc] at ha
  simp only [aslRow, aslC, Nat.reduceAdd] at ha
  simp [v6, g6, show Φ 6 = mLaw from rfl, show Φ 19 = mSzA kWorld' from rfl, show Φ 21 = mToA kWorld' from rfl, show Φ 23 = mEqA kWorld from rfl,
    show Φ 24 = mInOwn from rfl, show Φ 25 = mInOwn from rfl, mLaw, mSzA, mToA, mEqA, mInOwn, szPre, toPre, eqDs_refl kWorld, ha]
  intro h1
  obtain ⟨h2, h3⟩ := szM_ok h1
  omega)
end Go.Proofs.Ytllhihloidkghaa

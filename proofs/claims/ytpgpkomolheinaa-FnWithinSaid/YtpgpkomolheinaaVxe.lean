/-
  A program logic of our own, parts 48 to 57.
-/
import Derived.Sort.LotA
import Derived.Test.YtpgpkomolheinaaVxd
import Derived.Shelf.GgSortFunc.RowK
import Derived.Lib.ReflectliteSwap
import Derived.Sort.Walk0
set_option linter.unusedVariables false
set_option linter.unusedSimpArgs false
/-
  Vx, part 48: the library's stable sort in plain Lean: what its functions do, and that they sort.
-/
namespace Go.Vx
open Go.Sort
variable {α : Type} [Inhabited α]

/-! What the functions do. -/
def swpR (d : Array α) (a b : Nat) : Nat → Array α
  | 0 => d
  | n + 1 => swp (swpR d a b n) (a + n) (b + n)
/-- rotate_func, i and j being what is left. -/
def rotF (m : Nat) : Nat → Nat → Nat → Array α → Array α
  | 0, _, _, d => d
  | f + 1, i, j, d => if i = j then swpR d (m - i) m i else if j < i then rotF m f (i - j) j (swpR d (m - i) m j) else rotF m f i (j - i) (swpR d (m - i) (m + j - i) i)
/-- Search by halves: the first place from i on at which P no longer holds (P holds up to a place, then no more). -/
def bsF (p : Nat → Bool) : Nat → Nat → Nat → Nat
  | 0, i, _ => i
  | f + 1, i, j => if i < j then (bif p ((i + j) / 2) then bsF p f ((i + j) / 2 + 1) j else bsF p f i ((i + j) / 2)) else i
def upF (d : Array α) (a : Nat) : Nat → Array α
  | 0 => d
  | n + 1 => swp (upF d a n) (a + n) (a + n + 1)
def dnF (d : Array α) (m : Nat) : Nat → Array α
  | 0 => d
  | n + 1 => swp (dnF d m n) (m - n) (m - n - 1)
/-- The start that the general branch of symMerge_func searches for (mid = (a+b)/2, n = mid+m). -/
def startF (lt : α → α → Bool) (a m b : Nat) (d : Array α) : Nat :=
  if (a + b) / 2 < m then bsF (fun c => !lt d[(a + b) / 2 + m - 1 - c]! d[c]!) ((a + b) / 2 - ((a + b) / 2 + m - b)) ((a + b) / 2 + m - b) ((a + b) / 2)
  else bsF (fun c => !lt d[(a + b) / 2 + m - 1 - c]! d[c]!) (m - a) a m
/-- symMerge_func; the fuel is at least b - a. -/
def symF (lt : α → α → Bool) : Nat → Nat → Nat → Nat → Array α → Array α
  | 0, _, _, _, d => d
  | f + 1, a, m, b, d =>
    if m = a + 1 then upF d a (bsF (fun h => lt d[h]! d[a]!) (b - (a + 1)) (a + 1) b - 1 - a)
    else if b = m + 1 then dnF d m (m - bsF (fun h => !lt d[m]! d[h]!) (m - a) a m)
    else
      let s := startF lt a m b d
      let e := (a + b) / 2 + m - s
      let d1 := if s < m ∧ m < e then rotF m (e - s) (m - s) (e - m) d else d
      let d2 := if a < s ∧ s < (a + b) / 2 then symF lt f a s ((a + b) / 2) d1 else d1
      if (a + b) / 2 < e ∧ e < b then symF lt f ((a + b) / 2) e b d2 else d2
/-- The blocks of twenty, from a on. -/
def blkF (lt : α → α → Bool) (n : Nat) : Nat → Nat → Array α → Array α
  | 0, _, d => d
  | f + 1, a, d => if a + 20 ≤ n then blkF lt n f (a + 20) (insertionSort lt d a (a + 20)) else insertionSort lt d a n
/-- One round of merges, from a on. -/
def mrgF (lt : α → α → Bool) (n bs : Nat) : Nat → Nat → Array α → Array α
  | 0, _, d => d
  | f + 1, a, d => if a + 2 * bs ≤ n then mrgF lt n bs f (a + 2 * bs) (symF lt (2 * bs) a (a + bs) (a + 2 * bs) d) else if a + bs < n then symF lt (n - a) a (a + bs) n d else d
def stbF (lt : α → α → Bool) (n : Nat) : Nat → Nat → Array α → Array α
  | 0, _, d => d
  | f + 1, bs, d => if bs < n then stbF lt n f (2 * bs) (mrgF lt n bs (n + 1) 0 d) else d
/-- stable_func. -/
def stableF (lt : α → α → Bool) (n : Nat) (d : Array α) : Array α := stbF lt n (n + 1) 20 (blkF lt n (n + 1) 0 d)

/-! Where what is lies. -/
theorem at_eq (d : Array α) {x y : Nat} (h : x = y) : d[x]! = d[y]! := by rw [h]

theorem size_swpR (d : Array α) (a b : Nat) : ∀ n, (swpR d a b n).size = d.size
  | 0 => rfl
  | n + 1 => by rw [swpR, swp_size, size_swpR d a b n]
theorem swpR_get (d : Array α) (a b : Nat) : ∀ n, a + n ≤ b → b + n ≤ d.size → ∀ k, (swpR d a b n)[k]! = if a ≤ k ∧ k < a + n then d[k - a + b]! else if b ≤ k ∧ k < b + n then d[k - b + a]! else d[k]!
  | 0, _, _, k => by rw [swpR, if_neg (by omega), if_neg (by omega)]
  | n + 1, h1, h2, k => by
    have ih := swpR_get d a b n (by omega) (by omega)
    rw [swpR, swp_get _ (by rw [size_swpR]; omega) (by rw [size_swpR]; omega), ih, ih, ih]
    repeat' split
    all_goals first | (exfalso; omega) | exact at_eq d (by omega)
theorem swpR_perm (d : Array α) (a b lo hi : Nat) : ∀ n, lo ≤ a → lo ≤ b → a + n ≤ hi → b + n ≤ hi → hi ≤ d.size → PermIn lo hi d (swpR d a b n)
  | 0, _, _, _, _, _ => permIn_refl _ _ _
  | n + 1, h1, h2, h3, h4, h5 => permIn_trans _ _ _ _ _ (swpR_perm d a b lo hi n h1 h2 (by omega) (by omega) h5) (swp_permIn _ _ _ _ _ (by omega) (by omega) (by omega) (by omega) (by rw [size_swpR]; exact h5))

theorem rotF_get (m : Nat) : ∀ (f i j : Nat) (d : Array α), 1 ≤ i → 1 ≤ j → i ≤ m → m + j ≤ d.size → i + j ≤ f → ∀ k,
    (rotF m f i j d)[k]! = if m - i ≤ k ∧ k < m - i + j then d[k + i]! else if m - i + j ≤ k ∧ k < m + j then d[k - j]! else d[k]!
  | 0, i, j, d, h1, h2, _, _, h5, _ => by omega
  | f + 1, i, j, d, h1, h2, h3, h4, h5, k => by
    rw [rotF]
    by_cases hij : i = j
    · rw [if_pos hij, swpR_get d _ _ _ (by omega) (by omega)]
      repeat' split
      all_goals first | (exfalso; omega) | exact at_eq d (by omega)
    · rw [if_neg hij]
      by_cases hji : j < i
      · rw [if_pos hji, rotF_get m f (i - j) j _ (by omega) h2 (by omega) (by rw [size_swpR]; omega) (by omega)]
        have g := swpR_get d (m - i) m j (by omega) (by omega)
        simp only [g]
        repeat' split
        all_goals first | (exfalso; omega) | exact at_eq d (by omega)
      · rw [if_neg hji, rotF_get m f i (j - i) _ h1 (by omega) h3 (by rw [size_swpR]; omega) (by omega)]
        have g := swpR_get d (m - i) (m + j - i) i (by omega) (by omega)
        simp only [g]
        repeat' split
        all_goals first | (exfalso; omega) | exact at_eq d (by omega)
theorem rotF_perm (m lo hi : Nat) : ∀ (f i j : Nat) (d : Array α), i ≤ m → lo ≤ m - i → m + j ≤ hi → hi ≤ d.size → PermIn lo hi d (rotF m f i j d)
  | 0, _, _, _, _, _, _, _ => permIn_refl _ _ _
  | f + 1, i, j, d, h1, h2, h3, h4 => by
    rw [rotF]
    split
    · exact swpR_perm d _ _ lo hi i h2 (by omega) (by omega) (by omega) h4
    split
    · exact permIn_trans _ _ _ _ _ (swpR_perm d _ _ lo hi j h2 (by omega) (by omega) (by omega) h4) (rotF_perm m lo hi f _ _ _ (by omega) (by omega) (by omega) (by rw [size_swpR]; exact h4))
    · exact permIn_trans _ _ _ _ _ (swpR_perm d _ _ lo hi i h2 (by omega) (by omega) (by omega) h4) (rotF_perm m lo hi f _ _ _ (by omega) (by omega) (by omega) (by rw [size_swpR]; exact h4))

theorem size_upF (d : Array α) (a : Nat) : ∀ n, (upF d a n).size = d.size
  | 0 => rfl
  | n + 1 => by rw [upF, swp_size, size_upF d a n]
theorem upF_get (d : Array α) (a : Nat) : ∀ n, a + n < d.size → ∀ k, (upF d a n)[k]! = if a ≤ k ∧ k < a + n then d[k + 1]! else if k = a + n then d[a]! else d[k]!
  | 0, _, k => by
    rw [upF, if_neg (by omega)]
    split
    · exact at_eq d (by omega)
    · rfl
  | n + 1, h, k => by
    have ih := upF_get d a n (by omega)
    rw [upF, swp_get _ (by rw [size_upF]; omega) (by rw [size_upF]; omega), ih, ih, ih]
    repeat' split
    all_goals first | (exfalso; omega) | exact at_eq d (by omega)
theorem upF_perm (d : Array α) (a lo hi : Nat) : ∀ n, lo ≤ a → a + n < hi → hi ≤ d.size → PermIn lo hi d (upF d a n)
  | 0, _, _, _ => permIn_refl _ _ _
  | n + 1, h1, h2, h3 => permIn_trans _ _ _ _ _ (upF_perm d a lo hi n h1 (by omega) h3) (swp_permIn _ _ _ _ _ (by omega) (by omega) (by omega) (by omega) (by rw [size_upF]; exact h3))
theorem size_dnF (d : Array α) (m : Nat) : ∀ n, (dnF d m n).size = d.size
  | 0 => rfl
  | n + 1 => by rw [dnF, swp_size, size_dnF d m n]
theorem dnF_get (d : Array α) (m : Nat) : ∀ n, n ≤ m → m < d.size → ∀ k, (dnF d m n)[k]! = if m - n < k ∧ k ≤ m then d[k - 1]! else if k = m - n then d[m]! else d[k]!
  | 0, _, _, k => by
    rw [dnF, if_neg (by omega)]
    split
    · exact at_eq d (by omega)
    · rfl
  | n + 1, h, h2, k => by
    have ih := dnF_get d m n (by omega) h2
    rw [dnF, swp_get _ (by rw [size_dnF]; omega) (by rw [size_dnF]; omega), ih, ih, ih]
    repeat' split
    all_goals first | (exfalso; omega) | exact at_eq d (by omega)
theorem dnF_perm (d : Array α) (m lo hi : Nat) : ∀ n, n ≤ m → lo ≤ m - n → m < hi → hi ≤ d.size → PermIn lo hi d (dnF d m n)
  | 0, _, _, _, _ => permIn_refl _ _ _
  | n + 1, h0, h1, h2, h3 => permIn_trans _ _ _ _ _ (dnF_perm d m lo hi n (by omega) (by omega) h2 h3) (swp_permIn _ _ _ _ _ (by omega) (by omega) (by omega) (by omega) (by rw [size_dnF]; exact h3))

/-! The search. -/
theorem bsF_range (p : Nat → Bool) : ∀ (f i j : Nat), i ≤ j → i ≤ bsF p f i j ∧ bsF p f i j ≤ j
  | 0, _, _, h => ⟨Nat.le_refl _, h⟩
  | f + 1, i, j, h => by
    rw [bsF]
    by_cases hlt : i < j
    · rw [if_pos hlt]
      cases p ((i + j) / 2) with
      | true => rw [cond_true]; have := bsF_range p f ((i + j) / 2 + 1) j (by omega); omega
      | false => rw [cond_false]; have := bsF_range p f i ((i + j) / 2) (by omega); omega
    · rw [if_neg hlt]; exact ⟨Nat.le_refl _, h⟩
theorem bsF_spec (p : Nat → Bool) : ∀ (f i j : Nat), i ≤ j → j - i ≤ f → (∀ c c', i ≤ c → c ≤ c' → c' < j → p c' = true → p c = true) →
    (∀ c, i ≤ c → c < bsF p f i j → p c = true) ∧ ∀ c, bsF p f i j ≤ c → c < j → p c = false
  | 0, i, j, h, hf, _ => ⟨fun c h1 h2 => by rw [bsF] at h2; omega, fun c h1 h2 => by rw [bsF] at h1; omega⟩
  | f + 1, i, j, h, hf, hm => by
    rw [bsF]
    by_cases hlt : i < j
    · rw [if_pos hlt]
      cases hp : p ((i + j) / 2) with
      | true =>
        rw [cond_true]
        obtain ⟨h1, h2⟩ := bsF_spec p f ((i + j) / 2 + 1) j (by omega) (by omega) (fun c c' q1 q2 q3 q4 => hm c c' (by omega) q2 q3 q4)
        refine ⟨fun c q1 q2 => ?_, h2⟩
        by_cases hc : c ≤ (i + j) / 2
        · exact hm c _ q1 hc (by omega) hp
        · exact h1 c (by omega) q2
      | false =>
        rw [cond_false]
        obtain ⟨h1, h2⟩ := bsF_spec p f i ((i + j) / 2) (by omega) (by omega) (fun c c' q1 q2 q3 q4 => hm c c' q1 q2 (by omega) q4)
        refine ⟨h1, fun c q1 q2 => ?_⟩
        by_cases hc : c < (i + j) / 2
        · exact h2 c q1 hc
        · have hr := bsF_range p f i ((i + j) / 2) (by omega)
          cases hpc : p c with
          | false => rfl
          | true => rw [hm ((i + j) / 2) c (by omega) (by omega) q2 hpc] at hp; cases hp
    · rw [if_neg hlt]; exact ⟨fun c h1 h2 => by omega, fun c h1 h2 => by omega⟩

theorem startF_range (lt : α → α → Bool) (a m b : Nat) (d : Array α) (ham : a < m) (hmb : m < b) :
    a ≤ startF lt a m b d ∧ startF lt a m b d ≤ m ∧ startF lt a m b d ≤ (a + b) / 2 ∧ m ≤ (a + b) / 2 + m - startF lt a m b d ∧ (a + b) / 2 + m - startF lt a m b d ≤ b := by
  unfold startF
  by_cases h : (a + b) / 2 < m
  · rw [if_pos h]
    have := bsF_range (fun c => !lt d[(a + b) / 2 + m - 1 - c]! d[c]!) ((a + b) / 2 - ((a + b) / 2 + m - b)) ((a + b) / 2 + m - b) ((a + b) / 2) (by omega)
    omega
  · rw [if_neg h]
    have := bsF_range (fun c => !lt d[(a + b) / 2 + m - 1 - c]! d[c]!) (m - a) a m (by omega)
    omega

/-! It sorts. L: the order in which nothing is like anything else; at what is compared, it is what is asked. -/
variable {lt L : α → α → Bool}

/-- Of a left and a right range: asked of one of the right and one of the left, both orders answer alike. -/
def Cross (lt L : α → α → Bool) (a m b : Nat) (d : Array α) : Prop := ∀ i j, a ≤ i → i < m → m ≤ j → j < b → lt d[j]! d[i]! = L d[j]! d[i]!

theorem start_ok (hL : SWO L) {a m b : Nat} {d : Array α} (ham : a < m) (hmb : m < b) (hx : Cross lt L a m b d) (h1 : SortedIn L a m d) (h2 : SortedIn L m b d) :
    (a < startF lt a m b d → (a + b) / 2 + m - startF lt a m b d < b → L d[(a + b) / 2 + m - startF lt a m b d]! d[startF lt a m b d - 1]! = false) ∧
    (startF lt a m b d < m → m < (a + b) / 2 + m - startF lt a m b d → L d[(a + b) / 2 + m - startF lt a m b d - 1]! d[startF lt a m b d]! = true) := by
  have mono : ∀ lo hi, a ≤ lo → hi ≤ m → hi ≤ (a + b) / 2 → (a + b) / 2 + m - 1 - lo < b → ∀ c c', lo ≤ c → c ≤ c' → c' < hi → (fun c => !lt d[(a + b) / 2 + m - 1 - c]! d[c]!) c' = true → (fun c => !lt d[(a + b) / 2 + m - 1 - c]! d[c]!) c = true := by
    intro lo hi q1 q2 q3 q4 c c' q5 q6 q7 q8
    simp only [Bool.not_eq_true'] at q8 ⊢
    by_cases hc : c = c'
    · subst hc; exact q8
    rw [hx c' ((a + b) / 2 + m - 1 - c') (by omega) (by omega) (by omega) (by omega)] at q8
    rw [hx c ((a + b) / 2 + m - 1 - c) (by omega) (by omega) (by omega) (by omega)]
    refine hL.ntrans _ d[(a + b) / 2 + m - 1 - c']! _ (h2 _ _ (by omega) (by omega) (by omega)) (hL.ntrans _ d[c']! _ q8 (h1 _ _ (by omega) (by omega) (by omega)))
  unfold startF
  by_cases h : (a + b) / 2 < m
  · rw [if_pos h]
    have hr := bsF_range (fun c => !lt d[(a + b) / 2 + m - 1 - c]! d[c]!) ((a + b) / 2 - ((a + b) / 2 + m - b)) ((a + b) / 2 + m - b) ((a + b) / 2) (by omega)
    obtain ⟨s1, s2⟩ := bsF_spec (fun c => !lt d[(a + b) / 2 + m - 1 - c]! d[c]!) ((a + b) / 2 - ((a + b) / 2 + m - b)) ((a + b) / 2 + m - b) ((a + b) / 2) (by omega) (by omega) (mono _ _ (by omega) (by omega) (by omega) (by omega))
    generalize bsF (fun c => !lt d[(a + b) / 2 + m - 1 - c]! d[c]!) ((a + b) / 2 - ((a + b) / 2 + m - b)) ((a + b) / 2 + m - b) ((a + b) / 2) = s at hr s1 s2 ⊢
    refine ⟨fun q1 q2 => ?_, fun q1 q2 => ?_⟩
    · have := s1 (s - 1) (by omega) (by omega)
      simp only [Bool.not_eq_true'] at this
      rw [hx (s - 1) _ (by omega) (by omega) (by omega) (by omega)] at this
      rw [at_eq d (show (a + b) / 2 + m - s = (a + b) / 2 + m - 1 - (s - 1) by omega)]
      exact this
    · have := s2 s (Nat.le_refl _) (by omega)
      simp only [Bool.not_eq_false'] at this
      rw [hx s _ (by omega) (by omega) (by omega) (by omega)] at this
      rw [at_eq d (show (a + b) / 2 + m - s - 1 = (a + b) / 2 + m - 1 - s by omega)]
      exact this
  · rw [if_neg h]
    have hr := bsF_range (fun c => !lt d[(a + b) / 2 + m - 1 - c]! d[c]!) (m - a) a m (by omega)
    obtain ⟨s1, s2⟩ := bsF_spec (fun c => !lt d[(a + b) / 2 + m - 1 - c]! d[c]!) (m - a) a m (by omega) (by omega) (mono _ _ (by omega) (by omega) (by omega) (by omega))
    generalize bsF (fun c => !lt d[(a + b) / 2 + m - 1 - c]! d[c]!) (m - a) a m = s at hr s1 s2 ⊢
    refine ⟨fun q1 q2 => ?_, fun q1 q2 => ?_⟩
    · have := s1 (s - 1) (by omega) (by omega)
      simp only [Bool.not_eq_true'] at this
      rw [hx (s - 1) _ (by omega) (by omega) (by omega) (by omega)] at this
      rw [at_eq d (show (a + b) / 2 + m - s = (a + b) / 2 + m - 1 - (s - 1) by omega)]
      exact this
    · have := s2 s (Nat.le_refl _) (by omega)
      simp only [Bool.not_eq_false'] at this
      rw [hx s _ (by omega) (by omega) (by omega) (by omega)] at this
      rw [at_eq d (show (a + b) / 2 + m - s - 1 = (a + b) / 2 + m - 1 - s by omega)]
      exact this

/-- What holds of each pair across two neighbouring ranges holds of it when these are turned, each in itself. -/
theorem cross_perm {p : α → α → Prop} {a m b : Nat} {d d1 d2 : Array α} (ham : a ≤ m) (hmb : m ≤ b) (hb : b ≤ d.size) (h1 : PermIn a m d d1) (h2 : PermIn m b d1 d2)
    (h : ∀ i j, a ≤ i → i < m → m ≤ j → j < b → p d[i]! d[j]!) : ∀ i j, a ≤ i → i < m → m ≤ j → j < b → p d2[i]! d2[j]! := by
  intro i j q1 q2 q3 q4
  have e1 : d2[i]! = d1[i]! := h2.2.1 i (.inl q2)
  rw [e1]
  refine permIn_all d1 d2 m b (fun y => p d1[i]! y) (by rw [h1.1]; exact hb) h2 (fun j' r1 r2 => ?_) j q3 q4
  rw [h1.2.1 j' (.inr r1)]
  exact permIn_all d d1 a m (fun x => p x d[j']!) (by omega) h1 (fun i' t1 t2 => h i' j' t1 t2 r1 r2) i q1 q2

theorem sorted_join {a m b : Nat} {d : Array α} (h1 : SortedIn L a m d) (h2 : SortedIn L m b d) (h : ∀ i j, a ≤ i → i < m → m ≤ j → j < b → L d[j]! d[i]! = false) : SortedIn L a b d := by
  intro i j q1 q2 q3
  by_cases hj : j < m
  · exact h1 i j q1 q2 hj
  by_cases hi : i < m
  · exact h i j q1 hi (by omega) q3
  · exact h2 i j (by omega) q2 q3

theorem symF_ok (hL : SWO L) : ∀ (f a m b : Nat) (d : Array α), b - a ≤ f → a < m → m < b → b ≤ d.size → Cross lt L a m b d → SortedIn L a m d → SortedIn L m b d →
    PermIn a b d (symF lt f a m b d) ∧ SortedIn L a b (symF lt f a m b d)
  | 0, a, m, b, d, hf, ham, hmb, _, _, _, _ => by omega
  | f + 1, a, m, b, d, hf, ham, hmb, hb, hx, h1, h2 => by
    rw [symF]
    by_cases hA : m = a + 1
    · rw [if_pos hA]
      have hr := bsF_range (fun h => lt d[h]! d[a]!) (b - (a + 1)) (a + 1) b (by omega)
      obtain ⟨s1, s2⟩ := bsF_spec (fun h => lt d[h]! d[a]!) (b - (a + 1)) (a + 1) b (by omega) (by omega) (fun c c' q1 q2 q3 q4 => by
        by_cases hc : c = c'
        · subst hc; exact q4
        have e1 := hx a c (Nat.le_refl _) (by omega) (by omega) (by omega)
        have e2 := hx a c' (Nat.le_refl _) (by omega) (by omega) (by omega)
        rw [e2] at q4
        rw [e1]
        cases hq : L d[c]! d[a]! with
        | true => rfl
        | false => rw [hL.ntrans _ _ _ (h2 c c' (by omega) (by omega) q3) hq] at q4; cases q4)
      generalize bsF (fun h => lt d[h]! d[a]!) (b - (a + 1)) (a + 1) b = k at hr s1 s2 ⊢
      refine ⟨upF_perm d a a b _ (Nat.le_refl _) (by omega) hb, fun i j q1 q2 q3 => ?_⟩
      have lo : ∀ c, m ≤ c → c < k → L d[c]! d[a]! = true := fun c r1 r2 => by rw [← hx a c (Nat.le_refl _) (by omega) r1 (by omega)]; exact s1 c (by omega) r2
      have up : ∀ c, k ≤ c → c < b → L d[c]! d[a]! = false := fun c r1 r2 => by rw [← hx a c (Nat.le_refl _) (by omega) (by omega) r2]; exact s2 c r1 r2
      rw [upF_get d a _ (by omega), upF_get d a _ (by omega)]
      by_cases hj : j < k - 1
      · rw [if_pos (by omega), if_pos (by omega)]; exact h2 _ _ (by omega) (by omega) (by omega)
      by_cases hj2 : j = k - 1
      · rw [if_neg (by omega), if_pos (by omega), if_pos (by omega)]; exact hL.asymmA (lo _ (by omega) (by omega))
      rw [if_neg (show ¬ (a ≤ j ∧ j < a + (k - 1 - a)) by omega), if_neg (show ¬ j = a + (k - 1 - a) by omega)]
      by_cases hi : i < k - 1
      · rw [if_pos (by omega)]; exact h2 _ _ (by omega) (by omega) q3
      rw [if_neg (show ¬ (a ≤ i ∧ i < a + (k - 1 - a)) by omega)]
      by_cases hi2 : i = k - 1
      · rw [if_pos (by omega)]; exact up j (by omega) q3
      · rw [if_neg (show ¬ i = a + (k - 1 - a) by omega)]; exact h2 _ _ (by omega) q2 q3
    rw [if_neg hA]
    by_cases hB : b = m + 1
    · rw [if_pos hB]
      have hr := bsF_range (fun h => !lt d[m]! d[h]!) (m - a) a m (by omega)
      obtain ⟨s1, s2⟩ := bsF_spec (fun h => !lt d[m]! d[h]!) (m - a) a m (by omega) (by omega) (fun c c' q1 q2 q3 q4 => by
        by_cases hc : c = c'
        · subst hc; exact q4
        simp only [Bool.not_eq_true'] at q4 ⊢
        rw [hx c' m (by omega) q3 (Nat.le_refl _) hmb] at q4
        rw [hx c m q1 (by omega) (Nat.le_refl _) hmb]
        exact hL.ntrans _ _ _ q4 (h1 c c' q1 (by omega) q3))
      generalize bsF (fun h => !lt d[m]! d[h]!) (m - a) a m = k at hr s1 s2 ⊢
      refine ⟨dnF_perm d m a b _ (by omega) (by omega) hmb hb, fun i j q1 q2 q3 => ?_⟩
      have lo : ∀ c, a ≤ c → c < k → L d[m]! d[c]! = false := fun c r1 r2 => by
        rw [← hx c m r1 (by omega) (Nat.le_refl _) hmb]; have := s1 c r1 r2; simpa using this
      have up : ∀ c, k ≤ c → c < m → L d[m]! d[c]! = true := fun c r1 r2 => by
        rw [← hx c m (by omega) r2 (Nat.le_refl _) hmb]; have := s2 c r1 r2; simpa using this
      rw [dnF_get d m _ (by omega) (by omega), dnF_get d m _ (by omega) (by omega)]
      by_cases hj : j < k
      · rw [if_neg (by omega), if_neg (by omega), if_neg (by omega), if_neg (by omega)]; exact h1 _ _ q1 q2 (by omega)
      by_cases hj2 : j = k
      · rw [if_neg (show ¬ (m - (m - k) < j ∧ j ≤ m) by omega), if_pos (show j = m - (m - k) by omega), if_neg (by omega), if_neg (by omega)]; exact lo i q1 (by omega)
      rw [if_pos (show m - (m - k) < j ∧ j ≤ m by omega)]
      by_cases hi : i < k
      · rw [if_neg (by omega), if_neg (by omega)]; exact h1 _ _ q1 (by omega) (by omega)
      by_cases hi2 : i = k
      · rw [if_neg (by omega), if_pos (by omega)]; exact hL.asymmA (up _ (by omega) (by omega))
      · rw [if_pos (by omega)]; exact h1 _ _ (by omega) (by omega) (by omega)
    rw [if_neg hB]
    dsimp only
    obtain ⟨p2, p3⟩ := start_ok hL ham hmb hx h1 h2
    have hr := startF_range lt a m b d ham hmb
    generalize startF lt a m b d = s at hr p2 p3 ⊢
    obtain ⟨r1, r2, r3, r4, r5⟩ := hr
    generalize hmid : (a + b) / 2 = mid at *
    generalize he : mid + m - s = e at *
    -- turned round
    have hd1 : ∃ d1, (if s < m ∧ m < e then rotF m (e - s) (m - s) (e - m) d else d) = d1 ∧ PermIn a b d d1 ∧ ∀ k, d1[k]! = if s ≤ k ∧ k < mid then d[k + (m - s)]! else if mid ≤ k ∧ k < e then d[k - (e - m)]! else d[k]! := by
      refine ⟨_, rfl, ?_, fun k => ?_⟩
      · split
        · exact rotF_perm m a b _ _ _ d (by omega) (by omega) (by omega) hb
        · exact permIn_refl _ _ _
      · split
        · rename_i hc
          rw [rotF_get m _ _ _ d (by omega) (by omega) (by omega) (by omega) (by omega)]
          repeat' split
          all_goals first | (exfalso; omega) | exact at_eq d (by omega)
        · repeat' split
          all_goals first | (exfalso; omega) | exact at_eq d (by omega)
    obtain ⟨d1, e1, P1, G1⟩ := hd1
    rw [e1]
    have z1 : d1.size = d.size := P1.1
    have gl : ∀ k, a ≤ k → k < s → d1[k]! = d[k]! := fun k q1 q2 => by rw [G1, if_neg (by omega), if_neg (by omega)]
    have gr : ∀ k, s ≤ k → k < mid → d1[k]! = d[k + (m - s)]! := fun k q1 q2 => by rw [G1, if_pos (by omega)]
    have gm : ∀ k, mid ≤ k → k < e → d1[k]! = d[k - (e - m)]! := fun k q1 q2 => by rw [G1, if_neg (by omega), if_pos (by omega)]
    have ge : ∀ k, e ≤ k → k < b → d1[k]! = d[k]! := fun k q1 q2 => by rw [G1, if_neg (by omega), if_neg (by omega)]
    have S1 : SortedIn L a s d1 := fun i j q1 q2 q3 => by rw [gl i q1 (by omega), gl j (by omega) q3]; exact h1 _ _ q1 q2 (by omega)
    have S2 : SortedIn L s mid d1 := fun i j q1 q2 q3 => by rw [gr i q1 (by omega), gr j (by omega) q3]; exact h2 _ _ (by omega) (by omega) (by omega)
    have S3 : SortedIn L mid e d1 := fun i j q1 q2 q3 => by rw [gm i q1 (by omega), gm j (by omega) q3]; exact h1 _ _ (by omega) (by omega) (by omega)
    have S4 : SortedIn L e b d1 := fun i j q1 q2 q3 => by rw [ge i q1 (by omega), ge j (by omega) q3]; exact h2 _ _ (by omega) q2 q3
    have X1 : Cross lt L a s mid d1 := fun i j q1 q2 q3 q4 => by rw [gl i q1 q2, gr j q3 q4]; exact hx _ _ q1 (by omega) (by omega) (by omega)
    have X2 : Cross lt L mid e b d1 := fun i j q1 q2 q3 q4 => by rw [gm i q1 q2, ge j q3 q4]; exact hx _ _ (by omega) (by omega) (by omega) q4
    have sep : ∀ i j, a ≤ i → i < mid → mid ≤ j → j < b → L d1[j]! d1[i]! = false := fun i j q1 q2 q3 q4 => by
      by_cases hi : i < s
      · rw [gl i q1 hi]
        by_cases hj : j < e
        · rw [gm j q3 hj]; exact h1 _ _ q1 (by omega) (by omega)
        · rw [ge j (by omega) q4]
          have b0 := p2 (by omega) (by omega)
          have b1 : L d[j]! d[e]! = false := by
            by_cases hje : j = e
            · rw [hje]; exact hL.irrefl _
            · exact h2 _ _ (by omega) (by omega) q4
          have b2 : L d[s - 1]! d[i]! = false := by
            by_cases hje : i = s - 1
            · rw [hje]; exact hL.irrefl _
            · exact h1 _ _ q1 (by omega) (by omega)
          exact hL.ntrans _ _ _ b1 (hL.ntrans _ _ _ b0 b2)
      · rw [gr i (by omega) q2]
        by_cases hj : j < e
        · rw [gm j q3 hj]
          have b0 := hL.asymmA (p3 (by omega) (by omega))
          have b1 : L d[j - (e - m)]! d[s]! = false := by
            by_cases hje : j - (e - m) = s
            · rw [hje]; exact hL.irrefl _
            · exact h1 _ _ (by omega) (by omega) (by omega)
          have b2 : L d[e - 1]! d[i + (m - s)]! = false := by
            by_cases hje : i + (m - s) = e - 1
            · rw [hje]; exact hL.irrefl _
            · exact h2 _ _ (by omega) (by omega) (by omega)
          exact hL.ntrans _ _ _ b1 (hL.ntrans _ _ _ b0 b2)
        · rw [ge j (by omega) q4]; exact h2 _ _ (by omega) (by omega) q4
    have hd2 : ∃ d2, (if a < s ∧ s < mid then symF lt f a s mid d1 else d1) = d2 ∧ PermIn a mid d1 d2 ∧ SortedIn L a mid d2 := by
      refine ⟨_, rfl, ?_⟩
      split
      · exact symF_ok hL f a s mid d1 (by omega) (by omega) (by omega) (by omega) X1 S1 S2
      · refine ⟨permIn_refl _ _ _, ?_⟩
        by_cases hs : a < s
        · have : s = mid := by omega
          subst this; exact S1
        · have : a = s := by omega
          subst this; exact S2
    obtain ⟨d2, e2, P2, S5⟩ := hd2
    rw [e2]
    have g2 : ∀ k, mid ≤ k → d2[k]! = d1[k]! := fun k q => P2.2.1 k (.inr q)
    have S3' : SortedIn L mid e d2 := fun i j q1 q2 q3 => by rw [g2 i q1, g2 j (by omega)]; exact S3 i j q1 q2 q3
    have S4' : SortedIn L e b d2 := fun i j q1 q2 q3 => by rw [g2 i (by omega), g2 j (by omega)]; exact S4 i j q1 q2 q3
    have X2' : Cross lt L mid e b d2 := fun i j q1 q2 q3 q4 => by rw [g2 i q1, g2 j (by omega)]; exact X2 i j q1 q2 q3 q4
    have z2 : d2.size = d1.size := P2.1
    have hd3 : ∃ d3, (if mid < e ∧ e < b then symF lt f mid e b d2 else d2) = d3 ∧ PermIn mid b d2 d3 ∧ SortedIn L mid b d3 := by
      refine ⟨_, rfl, ?_⟩
      split
      · exact symF_ok hL f mid e b d2 (by omega) (by omega) (by omega) (by omega) X2' S3' S4'
      · refine ⟨permIn_refl _ _ _, ?_⟩
        by_cases hs : mid < e
        · have : e = b := by omega
          subst this; exact S3'
        · have : mid = e := by omega
          subst this; exact S4'
    obtain ⟨d3, e3, P3, S6⟩ := hd3
    rw [e3]
    refine ⟨?_, ?_⟩
    · refine permIn_trans _ _ _ _ _ P1 (permIn_trans _ d2 _ _ _ (permIn_mono _ _ a mid a b (Nat.le_refl _) (by omega) (by omega) P2) (permIn_mono _ _ mid b a b (by omega) (Nat.le_refl _) (by omega) P3))
    · refine sorted_join (m := mid) (fun i j q1 q2 q3 => ?_) S6 (cross_perm (p := fun x y => L y x = false) (by omega) (by omega) (by omega) P2 P3 sep)
      rw [P3.2.1 i (.inl (by omega)), P3.2.1 j (.inl q3)]
      exact S5 i j q1 q2 q3
end Go.Vx

/-
  Vx, part 49: the library's stable sort sorts, in plain Lean.
-/
namespace Go.Vx
open Go.Sort
variable {α : Type} [Inhabited α] {lt L : α → α → Bool}

/-! Insertion. -/
theorem insInner_perm (lt : α → α → Bool) (a b : Nat) : ∀ (j : Nat) (d : Array α), a ≤ j → j < b → b ≤ d.size → PermIn a b d (insInner lt a j d)
  | 0, d, _, _, _ => permIn_refl _ _ _
  | j + 1, d, h1, h2, h3 => by
    unfold insInner
    split
    · rename_i hc
      simp only [Bool.and_eq_true, decide_eq_true_eq] at hc
      exact permIn_trans _ _ _ _ _ (swp_permIn d a b (j + 1) j h1 h2 (by omega) (by omega) h3) (insInner_perm lt a b j _ (by omega) (by omega) (by rw [swp_size]; exact h3))
    · exact permIn_refl _ _ _
theorem insInner_congr (a : Nat) : ∀ (j : Nat) (d : Array α), j < d.size → (∀ p, a ≤ p → p < j → lt d[j]! d[p]! = L d[j]! d[p]!) → insInner lt a j d = insInner L a j d
  | 0, d, _, _ => rfl
  | j + 1, d, hs, h => by
    unfold insInner
    by_cases ha : j + 1 > a
    · rw [h j (by omega) (by omega)]
      have hr : insInner lt a j (swp d (j + 1) j) = insInner L a j (swp d (j + 1) j) := insInner_congr a j _ (by rw [swp_size]; omega) fun p q1 q2 => by
        rw [swp_get d hs (show j < d.size by omega), swp_get d hs (show j < d.size by omega), if_pos rfl, if_neg (by omega), if_neg (by omega)]
        exact h p q1 (by omega)
      rw [hr]
    · have : ∀ x : Bool, (decide (j + 1 > a) && x) = false := fun x => by simp [ha]
      rw [this, this]
      rfl
theorem insOuter_congr (a b : Nat) : ∀ (n i : Nat) (d : Array α), b - i = n → a < i → b ≤ d.size → (∀ p q, a ≤ p → p < q → i ≤ q → q < b → lt d[q]! d[p]! = L d[q]! d[p]!) → insOuter lt a b i d = insOuter L a b i d
  | 0, i, d, hn, _, _, _ => by rw [insOuter, if_neg (by omega), insOuter, if_neg (by omega)]
  | n + 1, i, d, hn, hai, hb, h => by
    rw [insOuter, if_pos (show i < b by omega)]
    conv => rhs; rw [insOuter, if_pos (show i < b by omega)]
    rw [insInner_congr a i d (by omega) fun p q1 q2 => h p i q1 q2 (Nat.le_refl _) (by omega)]
    have hP := insInner_perm L a (i + 1) i d (by omega) (by omega) (by omega)
    refine insOuter_congr a b n (i + 1) _ (by omega) (by omega) (by rw [hP.1]; exact hb) fun p q q1 q2 q3 q4 => ?_
    rw [hP.2.1 q (.inr q3)]
    by_cases hp : p < i + 1
    · exact permIn_all d _ a (i + 1) (fun x => lt d[q]! x = L d[q]! x) (by omega) hP (fun p' r1 r2 => h p' q r1 (by omega) (by omega) q4) p q1 hp
    · rw [hP.2.1 p (.inr (by omega))]; exact h p q q1 q2 (by omega) q4
theorem insertion_ok (hL : SWO L) {a b : Nat} {d : Array α} (hab : a ≤ b) (hb : b ≤ d.size) (h : ∀ p q, a ≤ p → p < q → q < b → lt d[q]! d[p]! = L d[q]! d[p]!) :
    PermIn a b d (insertionSort lt d a b) ∧ SortedIn L a b (insertionSort lt d a b) := by
  have : insertionSort lt d a b = insertionSort L d a b := insOuter_congr a b _ (a + 1) d rfl (by omega) hb fun p q q1 q2 _ q4 => h p q q1 q2 q4
  rw [this]
  exact insertionSort_holds hL d a b hab hb

/-! Blocks. -/
/-- Of two in unlike blocks both orders answer alike. -/
def Unl (lt L : α → α → Bool) (n bs : Nat) (d : Array α) : Prop := ∀ i j, i / bs < j / bs → j < n → lt d[j]! d[i]! = L d[j]! d[i]!

theorem div_mid {bs k i lo hi : Nat} (hlo : lo = bs * k) (hhi : hi ≤ bs * (k + 1)) (h1 : lo ≤ i) (h2 : i < hi) : i / bs = k := by
  have hb : 0 < bs := by
    rcases Nat.eq_zero_or_pos bs with h | h
    · subst h; simp at hlo hhi; omega
    · exact h
  rw [Nat.div_eq_iff hb]
  rw [Nat.mul_add] at hhi
  rw [Nat.mul_comm k bs]
  omega

theorem Unl.perm {n bs k lo hi : Nat} {d d' : Array α} (h : Unl lt L n bs d) (hP : PermIn lo hi d d') (hlo : lo = bs * k) (hhi : hi ≤ bs * (k + 1)) (hn : hi ≤ n) (hs : n ≤ d.size) : Unl lt L n bs d' := by
  intro i j hij hj
  by_cases hii : lo ≤ i ∧ i < hi
  · have ei := div_mid hlo hhi hii.1 hii.2
    by_cases hjj : lo ≤ j ∧ j < hi
    · have ej := div_mid hlo hhi hjj.1 hjj.2
      omega
    · rw [hP.2.1 j (by omega)]
      exact permIn_all d d' lo _ (fun x => lt d[j]! x = L d[j]! x) (by omega) hP (fun i' r1 r2 => h i' j (by rw [div_mid hlo hhi r1 r2]; omega) hj) i hii.1 hii.2
  · rw [hP.2.1 i (by omega)]
    by_cases hjj : lo ≤ j ∧ j < hi
    · have ej := div_mid hlo hhi hjj.1 hjj.2
      exact permIn_all d d' lo _ (fun y => lt y d[i]! = L y d[i]!) (by omega) hP (fun j' r1 r2 => h i j' (by rw [div_mid hlo hhi r1 r2]; omega) (by omega)) j hjj.1 hjj.2
    · rw [hP.2.1 j (by omega)]; exact h i j hij hj

/-- The blocks from a place on, and up to it, are sorted. -/
def BlkS (L : α → α → Bool) (n bs : Nat) (P : Nat → Prop) (d : Array α) : Prop := ∀ k, P k → SortedIn L (bs * k) (min (bs * (k + 1)) n) d

theorem SortedIn.other {lo hi a b : Nat} {d d' : Array α} (h : SortedIn L a b d) (hP : PermIn lo hi d d') (hd : b ≤ lo ∨ hi ≤ a) : SortedIn L a b d' := fun i j q1 q2 q3 => by
  rw [hP.2.1 i (by omega), hP.2.1 j (by omega)]; exact h i j q1 q2 q3

theorem blkF_ok (hL : SWO L) {n : Nat} : ∀ (f k : Nat) (d : Array α), 20 * k ≤ n → n - 20 * k < f → n ≤ d.size → Unl lt L n 20 d → BlkS L n 20 (fun j => j < k) d → (∀ p q, 20 * k ≤ p → p < q → q < n → lt d[q]! d[p]! = L d[q]! d[p]!) →
    PermIn 0 n d (blkF lt n f (20 * k) d) ∧ Unl lt L n 20 (blkF lt n f (20 * k) d) ∧ BlkS L n 20 (fun _ => True) (blkF lt n f (20 * k) d)
  | 0, k, d, h1, h2, _, _, _, _ => by omega
  | f + 1, k, d, h1, h2, hs, hu, hb, hr => by
    rw [blkF]
    by_cases hlt : 20 * k + 20 ≤ n
    · rw [if_pos hlt]
      obtain ⟨hP, hS⟩ := insertion_ok (lt := lt) hL (a := 20 * k) (b := 20 * k + 20) (d := d) (by omega) (by omega) fun p q q1 q2 q3 => hr p q q1 q2 (by omega)
      generalize insertionSort lt d (20 * k) (20 * k + 20) = d' at hP hS ⊢
      have ih := blkF_ok hL (n := n) f (k + 1) d' (by omega) (by omega) (by rw [hP.1]; exact hs) (hu.perm hP (k := k) rfl (by omega) hlt hs) (fun j hj => by
          by_cases hjk : j < k
          · exact SortedIn.other (hb j hjk) hP (.inl (by omega))
          · have : j = k := by omega
            subst this
            rw [show min (20 * (j + 1)) n = 20 * j + 20 by omega]; exact hS) (fun p q q1 q2 q3 => by rw [hP.2.1 p (by omega), hP.2.1 q (by omega)]; exact hr p q (by omega) q2 q3)
      rw [show 20 * (k + 1) = 20 * k + 20 by omega] at ih
      exact ⟨permIn_trans _ _ _ _ _ (permIn_mono _ _ _ _ 0 n (by omega) hlt hs hP) ih.1, ih.2⟩
    · rw [if_neg hlt]
      obtain ⟨hP, hS⟩ := insertion_ok (lt := lt) hL (a := 20 * k) (b := n) (d := d) (by omega) (by omega) fun p q q1 q2 q3 => hr p q q1 q2 q3
      refine ⟨permIn_mono _ _ _ _ 0 n (by omega) (Nat.le_refl _) hs hP, hu.perm hP (k := k) rfl (by omega) (Nat.le_refl _) hs, fun j _ => ?_⟩
      by_cases hjk : j < k
      · exact SortedIn.other (hb j hjk) hP (.inl (by omega))
      · by_cases hj : j = k
        · subst hj
          intro x y q1 q2 q3
          exact hS x y q1 q2 (by omega)
        · intro x y q1 q2 q3; omega

theorem mul2 (bs k : Nat) : 2 * bs * k = bs * (2 * k) := by rw [Nat.mul_comm 2 bs, Nat.mul_assoc]

theorem mrgF_ok (hL : SWO L) {n bs : Nat} (hbs : 1 ≤ bs) : ∀ (f k : Nat) (d : Array α), 2 * bs * k ≤ n → n - 2 * bs * k < f → n ≤ d.size → Unl lt L n (2 * bs) d → BlkS L n (2 * bs) (fun j => j < k) d → BlkS L n bs (fun j => 2 * k ≤ j) d →
    (∀ i j, 2 * bs * k ≤ i → i / bs < j / bs → j < n → lt d[j]! d[i]! = L d[j]! d[i]!) →
    PermIn 0 n d (mrgF lt n bs f (2 * bs * k) d) ∧ Unl lt L n (2 * bs) (mrgF lt n bs f (2 * bs * k) d) ∧ BlkS L n (2 * bs) (fun _ => True) (mrgF lt n bs f (2 * bs * k) d)
  | 0, k, d, h1, h2, _, _, _, _, _ => by omega
  | f + 1, k, d, h1, h2, hs, hu, hb, hc, hx => by
    rw [mrgF]
    have ek : 2 * bs * (k + 1) = 2 * bs * k + 2 * bs := by rw [Nat.mul_add, Nat.mul_one]
    have e0 : bs * (2 * k) = 2 * bs * k := (mul2 bs k).symm
    have e1 : bs * (2 * k + 1) = 2 * bs * k + bs := by rw [Nat.mul_add, e0, Nat.mul_one]
    have e2 : bs * (2 * k + 1 + 1) = 2 * bs * k + 2 * bs := by rw [Nat.mul_add, e1, Nat.mul_one]; omega
    have dl : ∀ i, 2 * bs * k ≤ i → i < 2 * bs * k + bs → i / bs = 2 * k := fun i q1 q2 => div_mid (lo := 2 * bs * k) (hi := 2 * bs * k + bs) e0.symm (by rw [e1]; exact Nat.le_refl _) q1 q2
    have dr : ∀ i, 2 * bs * k + bs ≤ i → i < 2 * bs * k + 2 * bs → i / bs = 2 * k + 1 := fun i q1 q2 => div_mid (lo := 2 * bs * k + bs) (hi := 2 * bs * k + 2 * bs) e1.symm (by rw [e2]; exact Nat.le_refl _) q1 q2
    have hl := hc (2 * k) (Nat.le_refl _)
    have hr := hc (2 * k + 1) (by omega)
    rw [e0, e1] at hl
    rw [e1, e2] at hr
    have old : ∀ (hi : Nat) (d' : Array α), PermIn (2 * bs * k) hi d d' → ∀ j, j < k → SortedIn L (2 * bs * j) (min (2 * bs * (j + 1)) n) d' := fun hi d' hP j hj => by
      refine SortedIn.other (hb j hj) hP (.inl ?_)
      have : 2 * bs * (j + 1) ≤ 2 * bs * k := Nat.mul_le_mul_left _ (by omega)
      omega
    by_cases hlt : 2 * bs * k + 2 * bs ≤ n
    · rw [if_pos hlt]
      obtain ⟨hP, hS⟩ := symF_ok (lt := lt) hL (2 * bs) (2 * bs * k) (2 * bs * k + bs) (2 * bs * k + 2 * bs) d (by omega) (by omega) (by omega) (by omega)
        (fun i j q1 q2 q3 q4 => hx i j q1 (by rw [dl i q1 q2, dr j q3 q4]; omega) (by omega)) (by rwa [Nat.min_eq_left (by omega)] at hl) (by rwa [Nat.min_eq_left (by omega)] at hr)
      generalize symF lt (2 * bs) (2 * bs * k) (2 * bs * k + bs) (2 * bs * k + 2 * bs) d = d' at hP hS ⊢
      have ih := mrgF_ok hL hbs (n := n) f (k + 1) d' (by rw [ek]; exact hlt) (by rw [ek]; omega) (by rw [hP.1]; exact hs) (hu.perm hP (k := k) rfl (by rw [ek]; exact Nat.le_refl _) hlt hs) (fun j hj => by
          by_cases hjk : j < k
          · exact old _ _ hP j hjk
          · have : j = k := by omega
            subst this
            rw [ek, Nat.min_eq_left hlt]; exact hS) (fun j hj => by
          refine SortedIn.other (hc j (by omega)) hP (.inr ?_)
          have : bs * (2 * k + 1 + 1) ≤ bs * j := Nat.mul_le_mul_left _ (by omega)
          omega) (fun i j q1 q2 q3 => by
          rw [ek] at q1
          have : i < j := by
            rcases Nat.lt_or_ge i j with h | h
            · exact h
            · have := Nat.div_le_div_right (c := bs) h; omega
          rw [hP.2.1 i (by omega), hP.2.1 j (by omega)]; exact hx i j (by omega) q2 q3)
      rw [ek] at ih
      exact ⟨permIn_trans _ _ _ _ _ (permIn_mono _ _ _ _ 0 n (by omega) hlt hs hP) ih.1, ih.2⟩
    · rw [if_neg hlt]
      by_cases hm : 2 * bs * k + bs < n
      · rw [if_pos hm]
        obtain ⟨hP, hS⟩ := symF_ok (lt := lt) hL (n - 2 * bs * k) (2 * bs * k) (2 * bs * k + bs) n d (by omega) (by omega) (by omega) (by omega)
          (fun i j q1 q2 q3 q4 => hx i j q1 (by rw [dl i q1 q2, dr j q3 (by omega)]; omega) (by omega)) (by rwa [Nat.min_eq_left (by omega)] at hl) (by rwa [Nat.min_eq_right (by omega)] at hr)
        refine ⟨permIn_mono _ _ _ _ 0 n (by omega) (Nat.le_refl _) hs hP, hu.perm hP (k := k) rfl (by rw [ek]; omega) (Nat.le_refl _) hs, fun j _ => ?_⟩
        by_cases hjk : j < k
        · exact old _ _ hP j hjk
        · by_cases hj : j = k
          · subst hj
            intro x y q1 q2 q3
            exact hS x y q1 q2 (by omega)
          · have : 2 * bs * (k + 1) ≤ 2 * bs * j := Nat.mul_le_mul_left _ (by omega)
            intro x y q1 q2 q3; omega
      · rw [if_neg hm]
        refine ⟨permIn_refl _ _ _, hu, fun j _ => ?_⟩
        by_cases hjk : j < k
        · exact hb j hjk
        · by_cases hj : j = k
          · subst hj
            intro x y q1 q2 q3
            exact hl x y q1 q2 (by omega)
          · have : 2 * bs * (k + 1) ≤ 2 * bs * j := Nat.mul_le_mul_left _ (by omega)
            intro x y q1 q2 q3; omega

theorem stbF_ok (hL : SWO L) {n : Nat} : ∀ (f bs : Nat) (d : Array α), 1 ≤ bs → n - bs < f → n ≤ d.size → Unl lt L n bs d → BlkS L n bs (fun _ => True) d → PermIn 0 n d (stbF lt n f bs d) ∧ SortedIn L 0 n (stbF lt n f bs d)
  | 0, bs, d, _, h, _, _, _ => by omega
  | f + 1, bs, d, h1, hf, hs, hu, hb => by
    rw [stbF]
    by_cases hlt : bs < n
    · rw [if_pos hlt]
      obtain ⟨m1, m2, m3⟩ := mrgF_ok (lt := lt) hL h1 (n := n) (n + 1) 0 d (by omega) (by omega) hs (fun i j q1 q2 => hu i j (by
          rw [Nat.mul_comm 2 bs, ← Nat.div_div_eq_div_mul, ← Nat.div_div_eq_div_mul] at q1; omega) q2) (fun j hj => by omega) (fun j _ => hb j trivial) (fun i j _ q2 q3 => hu i j q2 q3)
      rw [Nat.mul_zero] at m1 m2 m3
      obtain ⟨p1, p2⟩ := stbF_ok hL (n := n) f (2 * bs) _ (by omega) (by omega) (by rw [m1.1]; exact hs) m2 m3
      exact ⟨permIn_trans _ _ _ _ _ m1 p1, p2⟩
    · rw [if_neg hlt]
      refine ⟨permIn_refl _ _ _, ?_⟩
      have := hb 0 trivial
      rw [Nat.mul_zero, Nat.min_eq_right (by omega)] at this
      exact this

/-- stable_func sorts: by L, if of two of which the one lay ahead of the other both orders answer alike. -/
theorem stable_ok (hL : SWO L) {n : Nat} {d : Array α} (hs : n ≤ d.size) (h : ∀ i j, i < j → j < n → lt d[j]! d[i]! = L d[j]! d[i]!) : PermIn 0 n d (stableF lt n d) ∧ SortedIn L 0 n (stableF lt n d) := by
  unfold stableF
  obtain ⟨b1, b2, b3⟩ := blkF_ok (lt := lt) hL (n := n) (n + 1) 0 d (by omega) (by omega) hs (fun i j q1 q2 => h i j (by
      rcases Nat.lt_or_ge i j with h | h
      · exact h
      · have := Nat.div_le_div_right (c := 20) h; omega) q2) (fun j hj => by omega) (fun p q _ q2 q3 => h p q q2 q3)
  rw [Nat.mul_zero] at b1 b2 b3
  obtain ⟨p1, p2⟩ := stbF_ok (lt := lt) hL (n := n) (n + 1) 20 _ (by omega) (by omega) (by rw [b1.1]; exact hs) b2 b3
  exact ⟨permIn_trans _ _ _ _ _ b1 p1, p2⟩
end Go.Vx

/-
  Vx, part 50: what a sort is asked of the memory; an array of the call's own, sorted.
-/
namespace Go.Vx
open Go.RowKit Go.Sort
variable {α : Type} [Inhabited α]

/-- The memory, as a sort needs it: I w d: the row of the block blk holds d. -/
structure Srt (P : Program) (I : World → Array α → Prop) (blk sz : Nat) (lt : α → α → Bool) (g : Nat) (lb : Array Value) (sf : Nat) (sb : Array Value) : Prop where
  eg : ∀ args w, (callFunc g args).run P w = .ok (.enter g args) w
  small : sz < 4611686018427387904
  inw : ∀ {w d}, I w d → blk < w.heap.size
  size : ∀ {w d}, I w d → d.size = sz
  alloc : ∀ {w d} (o : Obj), I w d → I (w.alloc o) d
  drew : ∀ {w d} (q : Nat), I w d → I (w.drewN q) d
  less : ∀ {w d}, I w d → ∀ i j : Nat, i < sz → j < sz → Calls P g (#[.int .i64 i, .int .i64 j] ++ lb) w fun e w' => e = .returned (.bool (lt d[i]! d[j]!)) ∧ I w' d ∧ Below w.heap.size w w'
  swap : ∀ {w d}, I w d → ∀ i j : Nat, i < sz → j < sz → i ≠ j → ∃ w', (callFunc sf (#[.int .i64 i, .int .i64 j] ++ sb)).run P w = .ok (.value (.tuple #[])) w' ∧ I w' (swp d i j) ∧ Fr w [blk] w' ∧ w'.heap.size = w.heap.size

section
variable {P : Program} {I : World → Array α → Prop} {blk sz : Nat} {lt : α → α → Bool} {g : Nat} {lb : Array Value} {sf : Nat} {sb : Array Value}
theorem fr_refl (w : World) (X : List Nat) : Fr w X w := ⟨rfl, rfl, rfl, Nat.le_refl _, fun _ _ _ => rfl⟩
theorem fr_trans {w w' w'' : World} {X : List Nat} (h : Fr w X w') (h' : Fr w' X w'') : Fr w X w'' :=
  ⟨h'.os.trans h.os, h'.tape.trans h.tape, h'.output.trans h.output, Nat.le_trans h.size h'.size, fun k hk hx => (h'.block k (Nat.lt_of_lt_of_le hk h.size) hx).trans (h.block k hk hx)⟩
theorem fr_below {w w' : World} {X : List Nat} (h : Below w.heap.size w w') : Fr w X w' := ⟨h.os, h.tape, h.output, h.size, fun k hk _ => h.block k hk⟩
theorem fr_alloc' (w : World) (o : Obj) (X : List Nat) : Fr w X (w.alloc o) := fr_below ((Below.refl _ _).alloc (Nat.le_refl _) o)
theorem fr_drew (w : World) (q : Nat) (X : List Nat) : Fr w X (w.drewN q) := ⟨rfl, rfl, rfl, Nat.le_refl _, fun _ _ _ => rfl⟩
theorem fr_cell {w w' : World} {X : List Nat} (h : Fr w X w') {b o : Nat} {v : Value} (hb : b ∉ X) (hc : w.cell? ⟨b, o, none⟩ = some v) : w'.cell? ⟨b, o, none⟩ = some v := by
  rw [World.cell?_of_block (w := w) (h.block b (cell_lt hc) hb)]; exact hc

/-- The box of 'data': its place, its two cells. -/
structure Bx (blk bx : Nat) (lb : Array Value) (g sf : Nat) (sb : Array Value) (W w : World) : Prop where
  ne : bx ≠ blk
  fr : Fr W [blk] w
  c0 : w.cell? ⟨bx, 0, none⟩ = some (.func (.func g) #[] lb)
  c1 : w.cell? ⟨bx, 1, none⟩ = some (.func (.func sf) #[] sb)
theorem Bx.start (S : Srt P I blk sz lt g lb sf sb) {w : World} {d : Array α} (h : I w d) (t : TypeId) : Bx blk w.heap.size lb g sf sb w (w.alloc (.cells #[.func (.func g) #[] lb, .func (.func sf) #[] sb] t)) :=
  ⟨Nat.ne_of_gt (S.inw h), fr_alloc' _ _ _, by simp, by simp⟩
theorem Bx.on {bx : Nat} {W w w' : World} (h : Bx blk bx lb g sf sb W w) (hf : Fr w [blk] w') : Bx blk bx lb g sf sb W w' :=
  ⟨h.ne, fr_trans h.fr hf, fr_cell hf (by simpa using h.ne) h.c0, fr_cell hf (by simpa using h.ne) h.c1⟩
end






/-! The stable sort of a list. -/
section
variable {β : Type} [Inhabited β]
/-- From the right, the first place ahead of which p does not hold. -/
def posR (p : β → Bool) (l : List β) : Nat → Nat
  | 0 => 0
  | k + 1 => if p (l.getD k default) = true then posR p l k else k + 1
def insR (lt : β → β → Bool) (l : List β) (x : β) : List β := l.take (posR (lt x) l l.length) ++ x :: l.drop (posR (lt x) l l.length)
def stS (lt : β → β → Bool) (l : List β) : List β := l.foldl (insR lt) []

theorem posR_le (p : β → Bool) (l : List β) : ∀ k, posR p l k ≤ k
  | 0 => Nat.le_refl _
  | k + 1 => by
    rw [posR]
    split
    · have := posR_le p l k; omega
    · exact Nat.le_refl _
theorem posR_up (p : β → Bool) (l : List β) : ∀ k j, posR p l k ≤ j → j < k → p (l.getD j default) = true
  | 0, j, _, h => by omega
  | k + 1, j, h1, h2 => by
    rw [posR] at h1
    split at h1
    · rename_i hp
      by_cases hj : j = k
      · rw [hj]; exact hp
      · exact posR_up p l k j h1 (by omega)
    · omega
theorem posR_at (p : β → Bool) (l : List β) : ∀ k, 0 < posR p l k → p (l.getD (posR p l k - 1) default) = false
  | 0, h => by simp [posR] at h
  | k + 1, h => by
    rw [posR] at h ⊢
    split
    · rename_i hp
      rw [if_pos hp] at h
      exact posR_at p l k h
    · rename_i hp
      simpa using hp

theorem length_insR (lt : β → β → Bool) (l : List β) (x : β) : (insR lt l x).length = l.length + 1 := by
  have := posR_le (lt x) l l.length
  unfold insR
  simp only [List.length_append, List.length_take, List.length_cons, List.length_drop]
  omega
theorem insR_perm (lt : β → β → Bool) (l : List β) (x : β) : (insR lt l x).Perm (x :: l) := by
  unfold insR
  refine List.perm_middle.trans ?_
  rw [List.take_append_drop]

/-- One more, that L does not put ahead of what it is not asked to. -/
theorem insR_sorted {lt L : β → β → Bool} (hL : SWO L) {l : List β} {x : β} (hs : l.Pairwise fun a b => L b a = false) (hx : ∀ y, y ∈ l → lt x y = L x y) : (insR lt l x).Pairwise fun a b => L b a = false := by
  have hle := posR_le (lt x) l l.length
  have hup := posR_up (lt x) l l.length
  have hat := posR_at (lt x) l l.length
  unfold insR
  generalize posR (lt x) l l.length = k at *
  have hsp := hs
  rw [← List.take_append_drop k l] at hsp
  obtain ⟨s1, s2, s3⟩ := List.pairwise_append.1 hsp
  have hd : ∀ b, b ∈ l.drop k → L x b = true := fun b hb => by
    obtain ⟨j, hj, rfl⟩ := List.getElem_of_mem hb
    rw [List.getElem_drop]
    rw [List.length_drop] at hj
    have := hup (k + j) (by omega) (by omega)
    rw [List.getD_eq_getElem?_getD, List.getElem?_eq_getElem (by omega), Option.getD_some] at this
    rw [← hx _ (List.getElem_mem _)]
    exact this
  have ht : ∀ a, a ∈ l.take k → L x a = false := fun a ha => by
    obtain ⟨j, hj, rfl⟩ := List.getElem_of_mem ha
    rw [List.getElem_take]
    rw [List.length_take] at hj
    have h0 := hat (by omega)
    rw [List.getD_eq_getElem?_getD, List.getElem?_eq_getElem (by omega), Option.getD_some, hx _ (List.getElem_mem _)] at h0
    by_cases hjk : j = k - 1
    · subst hjk; exact h0
    · exact hL.ntrans _ _ _ h0 (List.pairwise_iff_getElem.1 hs j (k - 1) (by omega) (by omega) (by omega))
  refine List.pairwise_append.2 ⟨s1, List.pairwise_cons.2 ⟨fun b hb => hL.asymmA (hd b hb), s2⟩, fun a ha b hb => ?_⟩
  rcases List.mem_cons.1 hb with rfl | hb
  · exact ht a ha
  · exact s3 a ha b hb

theorem stS_all {lt L : β → β → Bool} (hL : SWO L) : ∀ (l acc : List β), (acc.Pairwise fun a b => L b a = false) → (l.Pairwise fun a b => lt b a = L b a) → (∀ x, x ∈ l → ∀ y, y ∈ acc → lt x y = L x y) →
    (l.foldl (insR lt) acc).Perm (acc ++ l) ∧ (l.foldl (insR lt) acc).Pairwise fun a b => L b a = false
  | [], acc, hs, _, _ => ⟨by simp, hs⟩
  | x :: l, acc, hs, hl, hx => by
    rw [List.foldl_cons]
    obtain ⟨h1, h2⟩ := List.pairwise_cons.1 hl
    have hp := insR_perm lt acc x
    obtain ⟨q1, q2⟩ := stS_all hL l (insR lt acc x) (insR_sorted hL hs (hx x (by simp))) h2 fun y hy z hz => by
      rcases List.mem_cons.1 (hp.mem_iff.1 hz) with rfl | hz
      · exact h1 y hy
      · exact hx y (by simp [hy]) z hz
    refine ⟨q1.trans ?_, q2⟩
    exact (hp.append_right l).trans (List.perm_middle.symm)

theorem posR_map {γ : Type} [Inhabited γ] (f : β → γ) (p : γ → Bool) (l : List β) : ∀ k, k ≤ l.length → posR p (l.map f) k = posR (fun x => p (f x)) l k
  | 0, _ => rfl
  | k + 1, h => by
    have e : (l.map f).getD k default = f (l.getD k default) := by
      rw [List.getD_eq_getElem?_getD, List.getD_eq_getElem?_getD, List.getElem?_map, List.getElem?_eq_getElem (by omega)]
      rfl
    rw [posR, posR, e, posR_map f p l k (by omega)]
theorem insR_map {γ : Type} [Inhabited γ] (f : β → γ) (lt : γ → γ → Bool) (l : List β) (x : β) : (insR (fun a b => lt (f a) (f b)) l x).map f = insR lt (l.map f) (f x) := by
  unfold insR
  rw [List.length_map, posR_map f _ l _ (Nat.le_refl _)]
  simp only [List.map_append, List.map_take, List.map_cons, List.map_drop]
theorem stS_map {γ : Type} [Inhabited γ] (f : β → γ) (lt : γ → γ → Bool) (l : List β) : (stS (fun a b => lt (f a) (f b)) l).map f = stS lt (l.map f) := by
  unfold stS
  have : ∀ (l acc : List β), (l.foldl (insR fun a b => lt (f a) (f b)) acc).map f = (l.map f).foldl (insR lt) (acc.map f) := by
    intro l
    induction l with
    | nil => intro acc; rfl
    | cons x l ih => intro acc; rw [List.foldl_cons, ih, List.map_cons, List.foldl_cons, insR_map]
  exact this l []
end

/-- By what is told, and then by the tag. -/
def tagL {β : Type} (lt : β → β → Bool) (p q : β × Nat) : Bool := lt p.1 q.1 || (!lt q.1 p.1 && decide (p.2 < q.2))
theorem tagL_swo {β : Type} {lt : β → β → Bool} (h : SWO lt) : SWO (tagL lt) := by
  refine ⟨fun x => by simp [tagL, h.irrefl], fun x y z hxy hyz => ?_, fun x y z hxy hyz => ?_⟩
  · simp only [tagL, Bool.or_eq_true, Bool.and_eq_true, Bool.not_eq_true', decide_eq_true_eq] at *
    rcases hxy with hxy | ⟨hxy, h1⟩
    · rcases hyz with hyz | ⟨hyz, h2⟩
      · exact .inl (h.trans _ _ _ hxy hyz)
      · left
        cases hxz : lt x.1 z.1 with
        | true => rfl
        | false =>
          have := h.ntrans _ _ _ hxz hyz
          rw [this] at hxy; cases hxy
    · rcases hyz with hyz | ⟨hyz, h2⟩
      · left
        cases hxz : lt x.1 z.1 with
        | true => rfl
        | false =>
          have := h.ntrans _ _ _ hxy hxz
          rw [this] at hyz; cases hyz
      · by_cases hxz : lt x.1 z.1 = true
        · exact .inl hxz
        · exact .inr ⟨h.ntrans _ _ _ hyz hxy, by omega⟩
  · simp only [tagL, Bool.or_eq_false_iff, Bool.and_eq_false_imp, Bool.not_eq_true', decide_eq_false_iff_not] at *
    refine ⟨h.ntrans _ _ _ hxy.1 hyz.1, fun hzx => ?_⟩
    have h1 : lt y.1 x.1 = false := by
      cases hyx : lt y.1 x.1 with
      | false => rfl
      | true =>
        have : lt z.1 x.1 = true := by
          cases hq : lt z.1 x.1 with
          | true => rfl
          | false =>
            have := h.ntrans _ _ _ hyz.1 hq
            rw [this] at hyx; cases hyx
        rw [this] at hzx; cases hzx
    have h2 : lt z.1 y.1 = false := by
      cases hzy : lt z.1 y.1 with
      | false => rfl
      | true =>
        have := h.ntrans _ _ _ hzx hxy.1
        rw [this] at hzy; cases hzy
    have h3 := hxy.2 h1
    have h4 := hyz.2 h2
    omega

/-- The library's stable sort is the stable sort. -/
theorem stable_stS {β : Type} [Inhabited β] {lt : β → β → Bool} (h : SWO lt) {d : Array (β × Nat)} (ht : ∀ i j, i < j → j < d.size → d[i]!.2 < d[j]!.2) :
    ((stableF (fun p q => lt p.1 q.1) d.size d).toList.map Prod.fst) = stS lt (d.toList.map Prod.fst) := by
  have hL := tagL_swo h
  have hag : ∀ i j, i < j → j < d.size → (fun p q : β × Nat => lt p.1 q.1) d[j]! d[i]! = tagL lt d[j]! d[i]! := fun i j hij hj => by
    have := ht i j hij hj
    have hn : decide (d[j]!.2 < d[i]!.2) = false := by simp; omega
    simp only [tagL, hn, Bool.and_false, Bool.or_false]
  obtain ⟨hP, hS⟩ := stable_ok (lt := fun p q : β × Nat => lt p.1 q.1) hL (n := d.size) (d := d) (Nat.le_refl _) hag
  have hsz : (stableF (fun p q : β × Nat => lt p.1 q.1) d.size d).size = d.size := hP.1
  have hget : ∀ (e : Array (β × Nat)) (i : Nat) (hi : i < e.size), e.toList[i]'(by simpa using hi) = e[i]! := fun e i hi => by
    rw [getElem!_pos e i hi]; simp
  have hperm : (stableF (fun p q : β × Nat => lt p.1 q.1) d.size d).toList.Perm d.toList := by
    have := hP.2.2
    have e1 : (stableF (fun p q : β × Nat => lt p.1 q.1) d.size d).extract 0 d.size = stableF (fun p q : β × Nat => lt p.1 q.1) d.size d := by
      have := Array.extract_size (xs := stableF (fun p q : β × Nat => lt p.1 q.1) d.size d)
      rwa [hsz] at this
    rwa [e1, Array.extract_size] at this
  have hsort : (stableF (fun p q : β × Nat => lt p.1 q.1) d.size d).toList.Pairwise fun a b => tagL lt b a = false := by
    rw [List.pairwise_iff_getElem]
    intro i j hi hj hij
    have hi' : i < (stableF (fun p q : β × Nat => lt p.1 q.1) d.size d).size := by simpa using hi
    have hj' : j < (stableF (fun p q : β × Nat => lt p.1 q.1) d.size d).size := by simpa using hj
    rw [hget _ i hi', hget _ j hj']
    exact hS i j (Nat.zero_le _) hij (by rw [← hsz]; exact hj')
  obtain ⟨q1, q2⟩ := stS_all (lt := fun p q : β × Nat => lt p.1 q.1) hL d.toList [] List.Pairwise.nil (by
    rw [List.pairwise_iff_getElem]
    intro i j hi hj hij
    have hi' : i < d.size := by simpa using hi
    have hj' : j < d.size := by simpa using hj
    rw [hget _ i hi', hget _ j hj']
    exact hag i j hij hj') (fun x _ y hy => by simp at hy)
  rw [List.nil_append] at q1
  have heq : (stableF (fun p q : β × Nat => lt p.1 q.1) d.size d).toList = stS (fun p q : β × Nat => lt p.1 q.1) d.toList := by
    refine List.Perm.eq_of_pairwise (le := fun x y => tagL lt y x = false) (fun a b ha hb h1 h2 => ?_) hsort q2 (hperm.trans q1.symm)
    have ha' := hperm.mem_iff.1 ha
    have hb' := q1.mem_iff.1 hb
    obtain ⟨i, hi, rfl⟩ := List.getElem_of_mem ha'
    obtain ⟨j, hj, rfl⟩ := List.getElem_of_mem hb'
    have hi' : i < d.size := by simpa using hi
    have hj' : j < d.size := by simpa using hj
    rw [hget _ i hi', hget _ j hj'] at h1 h2 ⊢
    simp only [tagL, Bool.or_eq_false_iff, Bool.and_eq_false_imp, Bool.not_eq_true', decide_eq_false_iff_not] at h1 h2
    have a1 := h1.2 h2.1
    have a2 := h2.2 h1.1
    rcases Nat.lt_trichotomy i j with hij | hij | hij
    · have := ht i j hij hj'; omega
    · rw [hij]
    · have := ht j i hij hi'; omega
  rw [heq]
  exact stS_map Prod.fst lt d.toList
end Go.Vx

/-
  Vx, part 51: an array of rows of the call's own, sorted in memory.
-/
namespace Go.Vx
open Go.RowKit Go.Sort

theorem cell_in {w : World} {b : Nat} {cur : Array Value} {e : TypeId} (h : w.heap[b]? = some (.cells cur e (0, 0))) (p : Nat) : w.cell? ⟨b, p, none⟩ = cur[p]? := by
  simp [World.cell?, h]
theorem frozen_in {w : World} {b : Nat} {cur : Array Value} {e : TypeId} (h : w.heap[b]? = some (.cells cur e (0, 0))) (p : Nat) : w.frozen? ⟨b, p, none⟩ = false := by
  simp [World.frozen?, h]
theorem setCells_in {b : Nat} {e : TypeId} : ∀ (vs : List Value) (s : Nat) {w : World} {cur : Array Value}, w.heap[b]? = some (.cells cur e (0, 0)) →
    (w.setCells b s vs).heap[b]? = some (.cells (setMany cur s vs) e (0, 0)) ∧ (∀ k, k ≠ b → (w.setCells b s vs).heap[k]? = w.heap[k]?) ∧ (w.setCells b s vs).heap.size = w.heap.size ∧ (w.setCells b s vs).os = w.os ∧ (w.setCells b s vs).tape = w.tape ∧ (w.setCells b s vs).output = w.output
  | [], s, w, cur, h => ⟨h, fun _ _ => rfl, rfl, rfl, rfl, rfl⟩
  | v :: r, s, w, cur, h => by
    have h1 : (w.setCell ⟨b, s, none⟩ v).heap[b]? = some (.cells (cur.setIfInBounds s v) e (0, 0)) := by
      simp only [World.setCell, Array.getElem?_modify, if_pos, h, Option.map_some]
      rfl
    obtain ⟨q1, q2, q3, q4, q5, q6⟩ := setCells_in (e := e) r (s + 1) h1
    refine ⟨q1, fun k hk => (q2 k hk).trans (Below.heap_setCell w ⟨b, s, none⟩ v k hk), q3.trans (by simp [World.setCell]), q4, q5, q6⟩

/-- An element: its cells, its row, its blocks, and where it was. -/
abbrev El := (List Value × List D × List Nat) × Nat
/-- Its cells, k of them. -/
def encE (k : Nat) (x : El) : List Value := (x.1.1 ++ List.replicate k undef).take k
theorem encE_len (k : Nat) (x : El) : (encE k x).length = k := by simp [encE]
theorem encE_eq {k : Nat} {x : El} (h : x.1.1.length = k) : encE k x = x.1.1 := by
  unfold encE
  rw [List.take_append_of_le_length (by omega), List.take_of_length_le (by omega)]

/-- The block b holds d, n elements of k cells; the rest of the memory is as it was. -/
structure RowsIn (w0 : World) (b cap n k : Nat) (e : TypeId) (Q : El → Prop) (w : World) (d : Array El) : Prop where
  fr : Fr w0 [b] w
  size : d.size = n
  all : ∀ i, i < n → Q d[i]!
  mem : ∃ cur, w.heap[b]? = some (.cells cur e (0, 0)) ∧ cur.size = cap * k ∧ ∀ t, t < n * k → cur[t]! = (flatK (encE k) k d)[t]!

theorem RowsIn.below {w0 : World} {b cap n k : Nat} {e : TypeId} {Q : El → Prop} {w w' : World} {d : Array El} (h : RowsIn w0 b cap n k e Q w d) (hb : Below w.heap.size w w') : RowsIn w0 b cap n k e Q w' d := by
  obtain ⟨cur, h1, h2, h3⟩ := h.mem
  exact ⟨fr_trans h.fr (fr_below hb), h.size, h.all, cur, by rw [hb.block b (Array.getElem?_eq_some_iff.1 h1).1]; exact h1, h2, h3⟩

/-- The cells of an element. -/
theorem RowsIn.cell {w0 : World} {b cap n k : Nat} {e : TypeId} {Q : El → Prop} {w : World} {d : Array El} (h : RowsIn w0 b cap n k e Q w d) (hn : n ≤ cap) {i c : Nat} (hi : i < n) (hc : c < k) : w.cell? ⟨b, i * k + c, none⟩ = (encE k d[i]!)[c]? := by
  obtain ⟨cur, h1, h2, h3⟩ := h.mem
  have lt : i * k + c < n * k := by
    have := Nat.mul_le_mul_right k (show i + 1 ≤ n from hi); rw [Nat.add_mul, Nat.one_mul] at this; omega
  have lt' : i * k + c < cur.size := by rw [h2]; exact Nat.lt_of_lt_of_le lt (Nat.mul_le_mul_right k hn)
  have e1 : (i * k + c) / k = i := (blk_iff k i _ (by omega)).1 ⟨by omega, by omega⟩
  have e2 : (i * k + c) % k = c := by rw [Nat.mod_eq_sub_div_mul, e1]; omega
  have := h3 _ lt
  rw [get_flatK _ _ _ _ (by rw [h.size]; exact lt), e1, e2] at this
  rw [cell_in h1, Array.getElem?_eq_getElem lt', ← getElem!_pos cur _ lt', this, List.getElem?_eq_getElem (by rw [encE_len]; exact hc)]
  rw [getElem!_pos _ _ (by rw [encE_len]; exact hc)]

/-- What a sort needs is had, if the elements are compared, and swapped by the library's literal. -/
theorem srt_rows {P : Program} {w0 : World} {b cap n k : Nat} {e : TypeId} {Q : El → Prop} (hn : n ≤ cap) (hsm : n < 4611686018427387904) {lt : El → El → Bool} {g : Nat} {lb : Array Value} {sf : Nat} {sb : Array Value}
    (eg : ∀ args w, (callFunc g args).run P w = .ok (.enter g args) w)
    (hone : ∀ x, Q x → ∀ v, v ∈ encE k x → v.oneCell' = true)
    (hless : ∀ {w d}, RowsIn w0 b cap n k e Q w d → ∀ i j : Nat, i < n → j < n → Calls P g (#[.int .i64 i, .int .i64 j] ++ lb) w fun e w' => e = .returned (.bool (lt d[i]! d[j]!)) ∧ Below w.heap.size w w')
    (hswap : ∀ (W : World) (X Y : List Value) (i j : Nat), i < n → j < n → i ≠ j → X.length = k → Y.length = k → (∀ v, v ∈ X → v.oneCell' = true) → (∀ v, v ∈ Y → v.oneCell' = true) →
      (∀ u v, X[u]? = some v → W.cell? ⟨b, i * k + u, none⟩ = some v) → (∀ u v, Y[u]? = some v → W.cell? ⟨b, j * k + u, none⟩ = some v) → (∀ p, W.frozen? ⟨b, p, none⟩ = false) →
      (callFunc sf (#[.int .i64 i, .int .i64 j] ++ sb)).run P W = .ok (.value (.tuple #[])) ((W.setCells b (i * k) Y).setCells b (j * k) X)) :
    Srt P (RowsIn w0 b cap n k e Q) b n lt g lb sf sb where
  eg := eg
  small := hsm
  inw := fun h => by obtain ⟨cur, h1, _⟩ := h.mem; exact (Array.getElem?_eq_some_iff.1 h1).1
  size := fun h => h.size
  alloc := fun {w d} o h => h.below ((Below.refl _ _).alloc (Nat.le_refl _) o)
  drew := fun {w d} q h => h.below ⟨rfl, rfl, rfl, Nat.le_refl _, fun _ _ => rfl⟩
  less := fun {w d} h i j hi hj => (hless h i j hi hj).mono fun _ _ ⟨q1, q2⟩ => ⟨q1, h.below q2, q2⟩
  swap := fun {w d} h i j hi hj hij => by
    obtain ⟨cur, h1, h2, h3⟩ := h.mem
    have hcell : ∀ x, x < n → ∀ u v, (encE k d[x]!)[u]? = some v → w.cell? ⟨b, x * k + u, none⟩ = some v := fun x hx u v hu => by
      rw [h.cell hn hx (by have := (List.getElem?_eq_some_iff.1 hu).1; rwa [encE_len] at this)]; exact hu
    have hr := hswap w (encE k d[i]!) (encE k d[j]!) i j hi hj hij (encE_len _ _) (encE_len _ _) (hone _ (h.all i hi)) (hone _ (h.all j hj)) (hcell i hi) (hcell j hj) (frozen_in h1)
    obtain ⟨a1, a2, a3, a4, a5, a6⟩ := setCells_in (e := e) (encE k d[j]!) (i * k) h1
    obtain ⟨b1, b2, b3, b4, b5, b6⟩ := setCells_in (e := e) (encE k d[i]!) (j * k) a1
    have hf : Fr w [b] ((w.setCells b (i * k) (encE k d[j]!)).setCells b (j * k) (encE k d[i]!)) :=
      ⟨b4.trans a4, b5.trans a5, b6.trans a6, by rw [b3, a3]; exact Nat.le_refl _, fun q _ hq => (b2 q (by simpa using hq)).trans (a2 q (by simpa using hq))⟩
    have hdi : i < d.size := by rw [h.size]; exact hi
    have hdj : j < d.size := by rw [h.size]; exact hj
    refine ⟨_, hr, ⟨fr_trans h.fr hf, by rw [swp_size]; exact h.size, fun q hq => ?_, _, b1, by rw [size_setMany, size_setMany]; exact h2, fun t ht => ?_⟩, hf, by rw [b3, a3]⟩
    · rw [swp_get d hdi hdj]
      split
      · exact h.all i hi
      · split
        · exact h.all j hj
        · exact h.all q hq
    · have hts : t < cur.size := by rw [h2]; exact Nat.lt_of_lt_of_le ht (Nat.mul_le_mul_right k hn)
      have htf : t < (flatK (encE k) k d).size := by rw [size_flatK, h.size]; exact ht
      rw [get_setMany _ _ _ t (by rw [size_setMany]; exact hts), get_setMany _ _ _ t hts, ← setMany_swp (encE k) k (encE_len k) d i j hdi hdj, get_setMany _ _ _ t (by rw [size_setMany]; exact htf), get_setMany _ _ _ t htf, h3 t ht]

section
variable {w0 : World} {M : Nat → Nat → Prop} {t : TypeId} {ks : List K} {dp : Bool} {xs : List (List D)} {F : List Nat} {b cap n : Nat}

/-- What is known of an element of an own array. -/
def ElOk (w0 : World) (M : Nat → Nat → Prop) (ks : List K) (dp : Bool) (b : Nat) (x : El) : Prop := x.1.1.length = ks.length ∧ (if dp then RepDs w0 ks x.1.1 x.1.2.1 x.1.2.2 ∧ b ∉ x.1.2.2 else RepCs w0 M ks x.1.1 x.1.2.1 ∧ x.1.2.2 = [])

/-- An own array as elements. -/
theorem own_rows (h : OwnRep w0 M t ks dp (.slice (some ⟨b, 0, none⟩) n cap) xs F) (hF : F.Nodup) : n = xs.length ∧ n ≤ cap ∧ n ≤ lenMax ∧ ∃ d : Array El, RowsIn w0 b cap n ks.length t (ElOk w0 M ks dp b) w0 d ∧ d.toList.map (fun x => x.1.2.1) = xs ∧ F = b :: (d.toList.map fun x => x.1.2.2).flatten ∧
    ∀ i j, i < j → j < d.size → d[i]!.2 < d[j]!.2 := by
  obtain ⟨vss, fps, h1, h2, h3, h4, h5, h6⟩ := h
  rcases h1.2 with ⟨e, _⟩ | ⟨gg, cp, cur, e, _, hg, hnc, hcm, hcs, htk⟩
  · cases e
  simp only [Value.slice.injEq, Option.some.injEq, Addr.mk.injEq, and_true] at e
  obtain ⟨rfl, rfl, rfl⟩ := e
  have hlen : ∀ vs ∈ vss, vs.length = ks.length := by
    intro vs hv
    obtain ⟨i, hi⟩ := List.getElem?_of_mem hv
    have hlt := (List.getElem?_eq_some_iff.1 hi).1
    have := h6 i xs[i] vs fps[i] (List.getElem?_eq_getElem (by omega)) hi (List.getElem?_eq_getElem (by omega))
    split at this
    · exact this.length
    · exact this.1.length
  have hFc : F = b :: fps.flatten := by rw [h5]; rfl
  rw [hFc] at hF
  have hbn := (List.nodup_cons.1 hF).1
  let d : Array El := (Array.range xs.length).map fun i => ((vss.getD i [], xs.getD i [], fps.getD i []), i)
  have hds : d.size = xs.length := by simp [d]
  have hdg : ∀ i, i < xs.length → d[i]! = ((vss.getD i [], xs.getD i [], fps.getD i []), i) := fun i hi => by
    rw [getElem!_pos d i (by rw [hds]; exact hi)]; simp [d]
  have hdl : d.toList = (List.range xs.length).map fun i => ((vss.getD i [], xs.getD i [], fps.getD i []), i) := by simp [d, Array.toList_range]
  refine ⟨rfl, hnc, h2, d, ⟨fr_refl _ _, hds, fun i hi => ?_, cur, hg, hcs, fun q hq => ?_⟩, ?_, ?_, fun i j hij hj => ?_⟩
  · rw [hdg i hi]
    have e1 : vss[i]? = some (vss.getD i []) := by rw [List.getD_eq_getElem?_getD, List.getElem?_eq_getElem (by omega)]; rfl
    have e2 : xs[i]? = some (xs.getD i []) := by rw [List.getD_eq_getElem?_getD, List.getElem?_eq_getElem (by omega)]; rfl
    have e3 : fps[i]? = some (fps.getD i []) := by rw [List.getD_eq_getElem?_getD, List.getElem?_eq_getElem (by omega)]; rfl
    refine ⟨hlen _ (List.mem_of_getElem? e1), ?_⟩
    have := h6 i _ _ _ e2 e1 e3
    split at this
    · rename_i hd
      rw [if_pos hd]
      exact ⟨this, fun hb => hbn (List.mem_flatten.2 ⟨_, List.mem_of_getElem? e3, hb⟩)⟩
    · rename_i hd
      rw [if_neg hd]
      exact this
  · have hk : 0 < ks.length := by
      rcases Nat.eq_zero_or_pos ks.length with h | h
      · rw [h] at hq; simp at hq
      · exact h
    have hq1 : q / ks.length < xs.length := (Nat.div_lt_iff_lt_mul hk).2 hq
    have hq2 := Nat.mod_lt q hk
    rw [get_flatK _ _ _ _ (by rw [hds]; exact hq), hdg _ hq1]
    have e1 : vss[q / ks.length]? = some (vss.getD (q / ks.length) []) := by rw [List.getD_eq_getElem?_getD, List.getElem?_eq_getElem (by omega)]; rfl
    have hl1 := hlen _ (List.mem_of_getElem? e1)
    rw [encE_eq hl1]
    have hqc : q < cur.size := by rw [hcs]; exact Nat.lt_of_lt_of_le hq (Nat.mul_le_mul_right _ hnc)
    have := flatten_get ks.length vss hlen (q / ks.length) _ (q % ks.length) _ e1 (List.getElem?_eq_getElem (by rw [hl1]; exact hq2))
    rw [show q / ks.length * ks.length + q % ks.length = q by rw [Nat.mul_comm]; exact Nat.div_add_mod q _, ← htk, List.getElem?_take, if_pos hq] at this
    rw [getElem!_pos cur q hqc, getElem!_pos (vss.getD (q / ks.length) []) (q % ks.length) (by rw [hl1]; exact hq2)]
    have h7 : cur[q]? = some ((vss.getD (q / ks.length) [])[q % ks.length]'(by rw [hl1]; exact hq2)) := by rw [← Array.getElem?_toList]; exact this
    rw [Array.getElem?_eq_getElem hqc] at h7
    exact Option.some.inj h7
  · rw [hdl, List.map_map]
    refine List.ext_getElem (by simp) fun i h7 h8 => ?_
    simp only [List.getElem_map, List.getElem_range, Function.comp]
    rw [List.getD_eq_getElem?_getD, List.getElem?_eq_getElem h8]; rfl
  · rw [hFc, hdl, List.map_map]
    congr 2
    refine List.ext_getElem (by simp; omega) fun i h7 h8 => ?_
    simp only [List.getElem_map, List.getElem_range, Function.comp]
    rw [List.getD_eq_getElem?_getD, List.getElem?_eq_getElem h7]; rfl
  · have hj' : j < xs.length := by rw [← hds]; exact hj
    rw [hdg i (by omega), hdg j hj']
    exact hij

/-- .. and back. -/
theorem rows_own {w : World} {d d' : Array El} (h0 : RowsIn w0 b cap n ks.length t (ElOk w0 M ks dp b) w0 d) (hF : F = b :: (d.toList.map fun x => x.1.2.2).flatten) (hFn : F.Nodup) (hFl : ∀ c, c ∈ F → c < w0.heap.size) (hn : n ≤ cap) (hl : n ≤ lenMax) (hcap : cap ≤ maxLen)
    (h : RowsIn w0 b cap n ks.length t (ElOk w0 M ks dp b) w d') (hp : d'.toList.Perm d.toList) (hM : ∀ o, M b o) (M' : Nat → Nat → Prop) (hM' : ∀ c o, M' c o → M c o) :
    ∃ F', OwnRep w M' t ks dp (.slice (some ⟨b, 0, none⟩) n cap) (d'.toList.map fun x => x.1.2.1) F' ∧ F'.Perm F := by
  obtain ⟨cur, h1, h2, h3⟩ := h.mem
  have hdn : d'.toList.length = n := by rw [Array.length_toList]; exact h.size
  have hget : ∀ i (hi : i < d'.toList.length), d'.toList[i] = d'[i]! := fun i hi => by
    rw [getElem!_pos d' i (by simpa using hi)]; simp
  have hok : ∀ i, i < n → ElOk w0 M ks dp b d'[i]! := fun i hi => h.all i hi
  have hpf : (d'.toList.map fun x => x.1.2.2).flatten.Perm (d.toList.map fun x => x.1.2.2).flatten := (hp.map _).flatten
  have hbn := (List.nodup_cons.1 (by rw [hF] at hFn; exact hFn)).1
  have keep : ∀ {c : Nat}, c < w0.heap.size → c ≠ b → w.heap[c]? = w0.heap[c]? := fun hc hb => h.fr.block _ hc (by simpa using hb)
  have hK : Keeps w0 M w M' := fun c o v hcell hn => by
    have hcb : c ≠ b := fun e => hn (by rw [e]; exact hM o)
    have hclt := cell_lt hcell
    exact ⟨by rw [World.cell?_of_block (w := w0) (keep hclt hcb)]; exact hcell, fun hm => hn (hM' _ _ hm)⟩
  refine ⟨b :: (d'.toList.map fun x => x.1.2.2).flatten, ⟨d'.toList.map fun x => x.1.1, d'.toList.map fun x => x.1.2.2, ⟨?_, .inr ⟨b, cap, cur, by simp [h.size], Nat.zero_le _, h1, by simp only [List.length_map, Array.length_toList, h.size]; exact hn, hcap, h2, ?_⟩⟩, by simp only [List.length_map, Array.length_toList, h.size]; exact hl, by simp, by simp, rfl, fun i row vs f e1 e2 e3 => ?_⟩, ?_⟩
  · rw [length_of_flatten (n := ks.length) (fun vs hv => ?_)]
    · simp
    · obtain ⟨x, hx, rfl⟩ := List.mem_map.1 hv
      obtain ⟨i, hi, rfl⟩ := List.getElem_of_mem hx
      rw [hget i hi]
      exact (hok i (by omega)).1
  · have hvl : ∀ vs ∈ d'.toList.map (fun x => x.1.1), vs.length = ks.length := fun vs hv => by
      obtain ⟨x, hx, rfl⟩ := List.mem_map.1 hv
      obtain ⟨i, hi, rfl⟩ := List.getElem_of_mem hx
      rw [hget i hi]
      exact (hok i (by omega)).1
    refine List.ext_getElem ?_ fun q hq1 hq2 => ?_
    · rw [List.length_take, length_of_flatten hvl]
      simp only [List.length_map, Array.length_toList, h.size, h2]
      exact Nat.min_eq_left (Nat.mul_le_mul_right _ hn)
    · rw [length_of_flatten hvl] at hq2
      simp only [List.length_map, Array.length_toList, h.size] at hq2
      have hk : 0 < ks.length := by
        rcases Nat.eq_zero_or_pos ks.length with h | h
        · rw [h] at hq2; simp at hq2
        · exact h
      have hqi : q / ks.length < n := (Nat.div_lt_iff_lt_mul hk).2 hq2
      have hqm := Nat.mod_lt q hk
      have hqc : q < cur.size := by rw [h2]; exact Nat.lt_of_lt_of_le hq2 (Nat.mul_le_mul_right _ hn)
      have e0 := h3 q hq2
      rw [get_flatK _ _ _ _ (by rw [h.size]; exact hq2), encE_eq (hok _ hqi).1] at e0
      have hl0 : q % ks.length < (d'[q / ks.length]!).1.1.length := by rw [(hok _ hqi).1]; exact hqm
      have e1 : (d'.toList.map fun x => x.1.1)[q / ks.length]? = some (d'[q / ks.length]!).1.1 := by
        rw [List.getElem?_map, List.getElem?_eq_getElem (by omega), hget]; rfl
      have e2 := flatten_get ks.length _ hvl (q / ks.length) _ (q % ks.length) _ e1 (List.getElem?_eq_getElem hl0)
      rw [show q / ks.length * ks.length + q % ks.length = q by rw [Nat.mul_comm]; exact Nat.div_add_mod q _] at e2
      have e3 := (List.getElem?_eq_some_iff.1 e2).2
      rw [e3, List.getElem_take]
      rw [getElem!_pos cur q hqc, getElem!_pos (d'[q / ks.length]!).1.1 (q % ks.length) hl0] at e0
      rw [← e0]; simp
  · rw [List.getElem?_map] at e1 e2 e3
    obtain ⟨x, hx, rfl⟩ := Option.map_eq_some_iff.1 e1
    rw [hx] at e2 e3
    simp only [Option.map_some, Option.some.injEq] at e2 e3
    subst e2 e3
    have hi := (List.getElem?_eq_some_iff.1 hx).1
    have hxe : x = d'[i]! := by rw [List.getElem?_eq_getElem hi, hget i hi] at hx; exact (Option.some.inj hx).symm
    have := (hok i (by omega)).2
    rw [← hxe] at this
    split at this
    · rename_i hd
      rw [if_pos hd]
      refine this.1.keeps fun c hc => keep (hFl c ?_) fun e => this.2 (e ▸ hc)
      rw [hF]
      exact List.mem_cons_of_mem _ (hpf.mem_iff.1 (List.mem_flatten.2 ⟨_, List.mem_map.2 ⟨x, List.mem_of_getElem? hx, rfl⟩, hc⟩))
    · rename_i hd
      rw [if_neg hd]
      exact ⟨this.1.keeps hK, this.2⟩
  · rw [hF]
    exact List.Perm.cons _ hpf
end
end Go.Vx

/-
  Vx, part 52: the order of labels; a sorted array's rows as data.
-/
namespace Go.Vx
open Go.RowKit Go.Sort

/-! Labels, one after the other. -/
def setLt : List (List D) → List (List D) → Bool
  | _, [] => false
  | [], _ :: _ => true
  | r :: a, s :: b => if (cell r 0).asStr = (cell s 0).asStr then (if (cell r 1).asStr = (cell s 1).asStr then setLt a b else Op.bytesLess (cell r 1).asStr.toList (cell s 1).asStr.toList) else Op.bytesLess (cell r 0).asStr.toList (cell s 0).asStr.toList
def flatS (l : List (List D)) : List (List UInt8) := l.flatMap fun r => [(cell r 0).asStr.toList, (cell r 1).asStr.toList]

theorem toList_inj' {a b : ByteArray} : a.toList = b.toList ↔ a = b := by
  refine ⟨fun h => ?_, fun h => by rw [h]⟩
  rw [Lib.toList_data, Lib.toList_data] at h
  cases a; cases b
  simp only [ByteArray.mk.injEq]
  exact Array.ext' h

theorem setLt_eq : ∀ (a b : List (List D)), setLt a b = decide (flatS a < flatS b)
  | [], [] => by simp [setLt, flatS]
  | _ :: _, [] => by simp [setLt, flatS]
  | [], _ :: _ => by simp [setLt, flatS]
  | r :: a, s :: b => by
    have ih := setLt_eq a b
    have e : ∀ (q : List D) (l : List (List D)), flatS (q :: l) = (cell q 0).asStr.toList :: (cell q 1).asStr.toList :: flatS l := fun _ _ => rfl
    rw [e, e, setLt]
    simp only [List.cons_lt_cons_iff, ← toList_inj', Go.Proofs.bytesLess_eq, ih]
    by_cases h1 : (cell r 0).asStr.toList = (cell s 0).asStr.toList
    · rw [if_pos h1]
      by_cases h2 : (cell r 1).asStr.toList = (cell s 1).asStr.toList
      · rw [if_pos h2, h1, h2]
        simp [List.lt_irrefl]
      · rw [if_neg h2, h1]
        simp [List.lt_irrefl, h2]
    · rw [if_neg h1]
      simp [h1]

theorem swo_of {α β : Type} {lt : β → β → Bool} (f : α → β) (h : SWO lt) : SWO fun a b => lt (f a) (f b) :=
  ⟨fun _ => h.irrefl _, fun _ _ _ => h.trans _ _ _, fun _ _ _ => h.ntrans _ _ _⟩
theorem setLt_swo : SWO setLt where
  irrefl := fun x => by rw [setLt_eq]; simp [List.lt_irrefl]
  trans := fun x y z h1 h2 => by
    simp only [setLt_eq, decide_eq_true_eq] at *
    exact List.lt_trans h1 h2
  ntrans := fun x y z h1 h2 => by
    simp only [setLt_eq, decide_eq_false_iff_not, List.not_lt] at *
    exact List.le_trans h2 h1
theorem row_of {w : World} {b : Nat} : ∀ {vs : List Value} {o : Nat}, (∀ (j : Nat) v, vs[j]? = some v → w.cell? ⟨b, o + j, none⟩ = some v) → Row w b o vs
  | [], _, _ => trivial
  | v :: vs, o, h => ⟨by have := h 0 v rfl; simpa using this, row_of fun j u hj => by have := h (j + 1) u (by simpa using hj); rw [show o + 1 + j = o + (j + 1) by omega]; exact this⟩

/-- The library's stable sort turns nothing but the order. -/
theorem stable_perm {β : Type} [Inhabited β] {lt : β → β → Bool} (h : SWO lt) {d : Array (β × Nat)} (ht : ∀ i j, i < j → j < d.size → d[i]!.2 < d[j]!.2) :
    (stableF (fun p q => lt p.1 q.1) d.size d).toList.Perm d.toList := by
  have hL := tagL_swo h
  have hag : ∀ i j, i < j → j < d.size → (fun p q : β × Nat => lt p.1 q.1) d[j]! d[i]! = tagL lt d[j]! d[i]! := fun i j hij hj => by
    have := ht i j hij hj
    have hn : decide (d[j]!.2 < d[i]!.2) = false := by simp; omega
    simp only [tagL, hn, Bool.and_false, Bool.or_false]
  obtain ⟨hP, hS⟩ := stable_ok (lt := fun p q : β × Nat => lt p.1 q.1) hL (n := d.size) (d := d) (Nat.le_refl _) hag
  have hsz : (stableF (fun p q : β × Nat => lt p.1 q.1) d.size d).size = d.size := hP.1
  have := hP.2.2
  have e1 : (stableF (fun p q : β × Nat => lt p.1 q.1) d.size d).extract 0 d.size = stableF (fun p q : β × Nat => lt p.1 q.1) d.size d := by
    have := Array.extract_size (xs := stableF (fun p q : β × Nat => lt p.1 q.1) d.size d)
    rwa [hsz] at this
  rwa [e1, Array.extract_size] at this
theorem stS_length {β : Type} [Inhabited β] (lt : β → β → Bool) (xs : List β) : (stS lt xs).length = xs.length := by
  have : ∀ (l acc : List β), (l.foldl (insR lt) acc).length = acc.length + l.length := by
    intro l
    induction l with
    | nil => intro acc; rfl
    | cons x l ih => intro acc; rw [List.foldl_cons, ih, length_insR]; simp; omega
  rw [stS, this]; simp

section
variable {w0 : World} {M : Nat → Nat → Prop} {t : TypeId} {ks : List K} {dp : Bool} {b cap n : Nat}

/-- What the array reads as. -/
theorem RowsIn.dat {w : World} {d : Array El} (h : RowsIn w0 b cap n ks.length t (ElOk w0 M ks dp b) w d) (hn : n ≤ cap) (hl : n ≤ lenMax) (hM : ∀ o, M b o) :
    RepC w (fun _ _ => False) (.sl t ks) (.slice (some ⟨b, 0, none⟩) n cap) (.sl (d.toList.map fun x => x.1.2.1)) := by
  have hdn : d.toList.length = n := by rw [Array.length_toList]; exact h.size
  have hget : ∀ i (hi : i < d.toList.length), d.toList[i] = d[i]! := fun i hi => by
    rw [getElem!_pos d i (by simpa using hi)]; simp
  have keep : ∀ {c : Nat}, c < w0.heap.size → c ≠ b → w.heap[c]? = w0.heap[c]? := fun hc hb => h.fr.block _ hc (by simpa using hb)
  have hK : Keeps w0 M w (fun _ _ => False) := fun c o v hcell hn => by
    have hcb : c ≠ b := fun e => hn (by rw [e]; exact hM o)
    have hclt := cell_lt hcell
    exact ⟨by rw [World.cell?_of_block (w := w0) (keep hclt hcb)]; exact hcell, fun hm => hm⟩
  have hlen : (D.sl (d.toList.map fun x => x.1.2.1)).asList.length = n := by simp only [D.asList_sl, List.length_map, hdn]
  refine ⟨some ⟨b, 0, none⟩, cap, by rw [hlen], by rw [hlen]; exact hn, by rw [hlen]; exact hl, .inr ⟨b, 0, rfl, fun i row hi => ?_⟩⟩
  rw [D.asList_sl, List.getElem?_map] at hi
  obtain ⟨x, hx, rfl⟩ := Option.map_eq_some_iff.1 hi
  have hlt := (List.getElem?_eq_some_iff.1 hx).1
  have hxe : x = d[i]! := by rw [List.getElem?_eq_getElem hlt, hget i hlt] at hx; exact (Option.some.inj hx).symm
  have hin : i < n := by omega
  have hok := h.all i hin
  rw [← hxe] at hok
  refine ⟨x.1.1, ?_, fun _ _ h => h, ?_⟩
  · refine row_of fun j v hj => ?_
    have hjk : j < ks.length := by rw [← hok.1]; exact (List.getElem?_eq_some_iff.1 hj).1
    rw [Nat.zero_add, h.cell hn hin hjk, ← hxe, encE_eq hok.1]
    exact hj
  · have := hok.2
    split at this
    · exact (this.1.keeps fun c hc => keep (this.1.lt c hc) fun e => this.2 (e ▸ hc)).toC fun _ _ _ h => h
    · exact this.1.keeps hK
end

/-! A loop that looks for a place, from the right. -/
section
variable {Φ : Fns} {post : List D → Prop} {env : List D} {B : Nat → List D → Prop}
theorem ins_wp {id l n : Nat} {fs : List (K × Nat)} {cs : List E} {c e0 : E} {body : VC} {L : List (List D)} (hn : env.length = n) (hN : (L.length : Int) ≤ 140737488355328) (p : List D → Bool) (h0 : e0.den Φ env = .int L.length)
    (hq : ∀ k : Nat, k ≤ L.length → conj Φ (env ++ [.int k]) cs)
    (hc : ∀ k : Nat, k ≤ L.length → (c.den Φ (env ++ [.int k])).asBool = (decide (0 < k) && p (rowN L (k - 1))))
    (hb : ∀ q, body.wp Φ post (env ++ [.int (posR p L L.length : Nat)]) (setB B l q)) :
    (VC.loop id l 1 fs [e0] (.req cs (.ite c (.back l [.op (.bin .sub .i64) [.var n, .int 1]]) body))).wp Φ post env B := by
  refine wp_loop' (fun v => ∃ k : Nat, v = [.int k] ∧ k ≤ L.length ∧ posR p L L.length = posR p L k) (fun v => (cell v 0).asInt.toNat) ⟨L.length, by simp [h0], by omega, rfl⟩ ?_
  simp only [allN_succ, allN_zero]
  intro d
  refine kinds_intro fun _ => ?_
  rintro ⟨k, hd, hk, hp⟩
  simp only [List.cons.injEq, and_true] at hd
  subst hd
  have hv : cell (env ++ [.int k]) n = .int k := by subst hn; simp [cell]
  rw [wp_req']
  refine ⟨hq k hk, ?_⟩
  rw [wp_ite', hc k hk]
  refine ⟨fun h => ?_, fun h => ?_⟩
  · simp only [Bool.and_eq_true, decide_eq_true_eq] at h
    simp only [wp_back', List.map_cons, List.map_nil, setB_eq, den_op, dens_cons, dens_nil, den_var, den_int, hv, op_bin, intV_sub, D.asInt_int, cell_zero]
    rw [w64 (by omega) (by omega)]
    obtain ⟨k', rfl⟩ : ∃ k', k = k' + 1 := ⟨k - 1, by omega⟩
    refine ⟨⟨k', by simp, by omega, ?_⟩, by simp⟩
    rw [hp, posR, if_pos]
    exact h.2
  · have : posR p L k = k := by
      cases k with
      | zero => rfl
      | succ k =>
        rw [posR, if_neg]
        simp only [Nat.zero_lt_succ, decide_true, Bool.true_and, Nat.add_sub_cancel] at h
        have h' : p (L.getD k default) = false := h
        rw [h']; simp
    rw [this] at hp
    rw [← hp]
    exact hb _
theorem stS_snoc {β : Type} [Inhabited β] (lt : β → β → Bool) (l : List β) (x : β) : stS lt (l ++ [x]) = insR lt (stS lt l) x := by simp [stS]
theorem map_take_succ {γ : Type} (f : List D → γ) {xs : List (List D)} {i : Nat} (h : i < xs.length) : (xs.take (i + 1)).map f = (xs.take i).map f ++ [f (rowN xs i)] := by
  rw [List.take_add_one, List.getElem?_eq_getElem h, List.map_append, rowN_lt h]; rfl
end

/-! What is taken at some places. -/
def pickN {β : Type} (c : Nat → Bool) (f : Nat → β) : Nat → List β
  | 0 => []
  | n + 1 => pickN c f n ++ (if c n = true then [f n] else [])
theorem pickN_len {β : Type} (c : Nat → Bool) (f : Nat → β) : ∀ n, (pickN c f n).length ≤ n
  | 0 => Nat.le_refl _
  | n + 1 => by
    have := pickN_len c f n
    simp only [pickN, List.length_append]
    split <;> simp <;> omega
theorem pickN_map {β γ : Type} (c : Nat → Bool) (f : Nat → β) (h : β → γ) : ∀ n, (pickN c f n).map h = pickN c (fun i => h (f i)) n
  | 0 => rfl
  | n + 1 => by
    simp only [pickN, List.map_append, pickN_map c f h n]
    split <;> simp
theorem pickN_mem {β : Type} {c : Nat → Bool} {f : Nat → β} {x : β} : ∀ {n : Nat}, x ∈ pickN c f n → ∃ i, i < n ∧ c i = true ∧ x = f i
  | 0, h => by cases h
  | n + 1, h => by
    rw [pickN] at h
    rcases List.mem_append.1 h with h | h
    · obtain ⟨i, h1, h2⟩ := pickN_mem h
      exact ⟨i, by omega, h2⟩
    · split at h
      · rename_i hc
        exact ⟨n, by omega, hc, by simpa using h⟩
      · cases h
theorem pickN_sum {p : List D → Nat} {c : Nat → Bool} {f : Nat → List D} {xs : List (List D)} (h : ∀ i, i < xs.length → p (f i) ≤ p (rowN xs i)) : ∀ n, n ≤ xs.length → sumR p (pickN c f n) ≤ sumR p (xs.take n)
  | 0, _ => by simp [pickN, sumR]
  | n + 1, hn => by
    have h1 := pickN_sum (c := c) h n (by omega)
    have h2 := h n (by omega)
    rw [pickN, sumR_append, sumR_take _ (by omega)]
    split
    · simp only [sumR]; omega
    · simp only [sumR]; omega
theorem stS_perm {β : Type} [Inhabited β] (lt : β → β → Bool) (l : List β) : (stS lt l).Perm l := by
  have : ∀ (l acc : List β), (l.foldl (insR lt) acc).Perm (acc ++ l) := by
    intro l
    induction l with
    | nil => intro acc; simp
    | cons x l ih =>
      intro acc
      rw [List.foldl_cons]
      refine (ih _).trans ?_
      refine ((insR_perm lt acc x).append_right l).trans ?_
      simp only [List.cons_append]
      exact (List.perm_middle (l₁ := acc) (l₂ := l) (a := x)).symm
  simpa [stS] using this l []
end Go.Vx

/-
  Vx, part 53: what two variables hold, one of them an array of the call's own.
-/
namespace Go.Vx
open Go.RowKit (Below)

section
variable {Φ : Fns} {env : List D} {C : Cx} {g : Gh} {s : SSt} {a : Act} {w : World}
end
end Go.Vx

/-
  Vx, part 54: what a function's code computes is one value: a contract by properties alone.
-/
namespace Go.Vx
open Classical

/-- A loop, run: at most so many rounds. -/
noncomputable def roundsE (step : (List D → Option (List D)) → List D → Option (List D)) : Nat → List D → Option (List D)
  | 0, _ => none
  | n + 1, vs => step (roundsE step n) vs
def setE (B : Nat → List D → Option (List D)) (l : Nat) (p : List D → Option (List D)) (j : Nat) : List D → Option (List D) := if j = l then p else B j

/-- What is asked of the values of a loop. -/
def kindsOk (env : List D) (fs : List (K × Nat)) : Prop := ∀ q ∈ fs, WFD q.1 (env.getD q.2 default)

/-- The code, run: at most so many rounds of each loop. -/
noncomputable def VC.ev (Φ : Fns) (N : Nat) : VC → List D → (Nat → List D → Option (List D)) → Option (List D)
  | .req _ t, env, B => t.ev Φ N env B
  | .ite c x y, env, B => if (c.den Φ env).asBool = true then x.ev Φ N env B else y.ev Φ N env B
  | .loop _ l m fs init body, env, B => roundsE (fun go vs => if vs.length = m ∧ kindsOk (env ++ vs) fs then body.ev Φ N (env ++ vs) (setE B l go) else some []) N (init.map (E.den Φ env))
  | .back l es, env, B => B l (es.map (E.den Φ env))
  | .ret es, env, _ => some (es.map (E.den Φ env))

section
variable {Φ : Fns}

def leE (B B' : Nat → List D → Option (List D)) : Prop := ∀ l v r, B l v = some r → B' l v = some r
theorem leE_set {B B' : Nat → List D → Option (List D)} (h : leE B B') {l : Nat} {p p' : List D → Option (List D)} (hp : ∀ v r, p v = some r → p' v = some r) : leE (setE B l p) (setE B' l p') := fun j v r hr => by
  unfold setE at hr ⊢
  split
  · rename_i e; rw [if_pos e] at hr; exact hp v r hr
  · rename_i e; rw [if_neg e] at hr; exact h j v r hr

theorem VC.ev_mono : ∀ (t : VC) {N N' : Nat} (_ : N ≤ N') {env : List D} {B B' : Nat → List D → Option (List D)} (_ : leE B B') {r : List D}, t.ev Φ N env B = some r → t.ev Φ N' env B' = some r
  | .req _ t, _, _, hN, _, _, _, hB, _, h => VC.ev_mono t hN hB h
  | .ite c x y, _, _, hN, env, _, _, hB, _, h => by
    simp only [VC.ev] at h ⊢
    split
    · rename_i hc; rw [if_pos hc] at h; exact VC.ev_mono x hN hB h
    · rename_i hc; rw [if_neg hc] at h; exact VC.ev_mono y hN hB h
  | .loop _ l m fs init body, N, N', hN, env, B, B', hB, r, h => by
    simp only [VC.ev] at h ⊢
    have key : ∀ (n n' : Nat), n ≤ n' → ∀ vs r, roundsE (fun go vs => if vs.length = m ∧ kindsOk (env ++ vs) fs then body.ev Φ N (env ++ vs) (setE B l go) else some []) n vs = some r →
        roundsE (fun go vs => if vs.length = m ∧ kindsOk (env ++ vs) fs then body.ev Φ N' (env ++ vs) (setE B' l go) else some []) n' vs = some r := by
      intro n
      induction n with
      | zero => intro n' _ vs r h; simp [roundsE] at h
      | succ n ih =>
        intro n' hn vs r h
        obtain ⟨k, rfl⟩ : ∃ k, n' = k + 1 := ⟨n' - 1, by omega⟩
        simp only [roundsE] at h ⊢
        split
        · rename_i hc
          rw [if_pos hc] at h
          exact VC.ev_mono body hN (leE_set hB fun v r hr => ih k (by omega) v r hr) h
        · rename_i hc
          rw [if_neg hc] at h
          exact h
    exact key N N' hN _ _ h
  | .back l es, _, _, _, _, _, _, hB, _, h => hB _ _ _ h
  | .ret _, _, _, _, _, _, _, _, _, h => h

/-- A family of endings that grows. -/
def growE (B : Nat → Nat → List D → Option (List D)) : Prop := ∀ N N', N ≤ N' → leE (B N) (B N')

noncomputable abbrev bodyE (Φ : Fns) (N : Nat) (env : List D) (l m : Nat) (fs : List (K × Nat)) (body : VC) (B : Nat → List D → Option (List D)) (go : List D → Option (List D)) (vs : List D) : Option (List D) :=
  if vs.length = m ∧ kindsOk (env ++ vs) fs then body.ev Φ N (env ++ vs) (setE B l go) else some []
theorem rounds_mono {N N' n n' l m : Nat} {fs : List (K × Nat)} {body : VC} {env : List D} {B B' : Nat → List D → Option (List D)} (hN : N ≤ N') (hB : leE B B') : n ≤ n' → ∀ vs r, roundsE (bodyE Φ N env l m fs body B) n vs = some r → roundsE (bodyE Φ N' env l m fs body B') n' vs = some r := by
  induction n generalizing n' with
  | zero => intro _ vs r h; simp [roundsE] at h
  | succ n ih =>
    intro hn vs r h
    obtain ⟨k, rfl⟩ : ∃ k, n' = k + 1 := ⟨n' - 1, by omega⟩
    simp only [roundsE, bodyE] at h ⊢
    split
    · rename_i hc
      rw [if_pos hc] at h
      exact VC.ev_mono body hN (leE_set hB fun v r hr => ih (by omega) v r hr) h
    · rename_i hc
      rw [if_neg hc] at h
      exact h

/-- What is shown to end, ends. -/
theorem VC.ev_ends {post : List D → Prop} : ∀ (t : VC) {env : List D} {B : Nat → List D → Prop} {BE : Nat → Nat → List D → Option (List D)}, growE BE → (∀ l v, B l v → ∃ N r, BE N l v = some r) → t.wp Φ post env B → ∃ N r, t.ev Φ N env (BE N) = some r
  | .req _ t, _, _, _, hg, hB, h => VC.ev_ends t hg hB h.2
  | .ite c x y, env, _, _, hg, hB, h => by
    cases hc : (c.den Φ env).asBool with
    | true =>
      obtain ⟨N, r, hr⟩ := VC.ev_ends x hg hB (h.1 hc)
      exact ⟨N, r, by simp only [VC.ev]; rw [if_pos hc]; exact hr⟩
    | false =>
      obtain ⟨N, r, hr⟩ := VC.ev_ends y hg hB (h.2 hc)
      exact ⟨N, r, by simp only [VC.ev]; rw [if_neg (by rw [hc]; simp)]; exact hr⟩
  | .loop _ l m fs init body, env, B, BE, hg, hB, h => by
    obtain ⟨I, μ, h0, hI⟩ := h
    have key : ∀ k vs, μ vs < k → I vs → ∃ N r, roundsE (bodyE Φ N env l m fs body (BE N)) N vs = some r := by
      intro k
      induction k with
      | zero => intro vs h; omega
      | succ k ih =>
        intro vs hk hv
        by_cases hc : vs.length = m ∧ kindsOk (env ++ vs) fs
        · have hw := kinds_elim (allN_iff hI vs hc.1) hc.2 hv
          obtain ⟨N, r, hr⟩ := VC.ev_ends body (BE := fun N => setE (BE N) l (roundsE (bodyE Φ N env l m fs body (BE N)) N)) (fun N N' hN => leE_set (hg N N' hN) fun v r hr => rounds_mono hN (hg N N' hN) hN v r hr) (fun j v hj => by
            unfold setB at hj
            unfold setE
            by_cases e : j = l
            · rw [if_pos e] at hj
              obtain ⟨N, r, hr⟩ := ih v (by omega) hj.1
              exact ⟨N, r, by rw [if_pos e]; exact hr⟩
            · rw [if_neg e] at hj
              obtain ⟨N, r, hr⟩ := hB j v hj
              exact ⟨N, r, by rw [if_neg e]; exact hr⟩) hw
          refine ⟨N + 1, r, ?_⟩
          simp only [roundsE, bodyE]
          rw [if_pos hc]
          exact VC.ev_mono body (Nat.le_succ N) (leE_set (hg N (N + 1) (Nat.le_succ N)) fun v r hr => rounds_mono (Nat.le_succ N) (hg N (N + 1) (Nat.le_succ N)) (Nat.le_refl _) v r hr) hr
        · exact ⟨1, [], by simp only [roundsE, bodyE]; rw [if_neg hc]⟩
    obtain ⟨N, r, hr⟩ := key _ _ (Nat.lt_succ_self _) h0
    exact ⟨N, r, hr⟩
  | .back l es, env, _, _, _, hB, h => hB _ _ h
  | .ret es, env, _, _, _, _, _ => ⟨0, _, rfl⟩

theorem allN_of : ∀ {n : Nat} {p : List D → Prop}, (∀ l : List D, l.length = n → p l) → allN n p
  | 0, p, h => h [] rfl
  | n + 1, p, h => fun d => allN_of fun l hl => h (d :: l) (by simp [hl])
theorem kinds_of {env : List D} : ∀ {l : List (K × Nat)} {p : Prop}, (kindsOk env l → p) → kinds env l p
  | [], p, h => h fun q hq => by simp at hq
  | (k, i) :: l, p, h => fun hw => kinds_of fun hq => h fun q hm => by
      rcases List.mem_cons.1 hm with rfl | hm
      · exact hw
      · exact hq q hm

/-- .. with that value. -/
theorem VC.wp_det {post : List D → Prop} {r : List D} : ∀ (t : VC) {env : List D} {B : Nat → List D → Prop} {BE : Nat → Nat → List D → Option (List D)}, growE BE → (∃ N, t.ev Φ N env (BE N) = some r) → t.wp Φ post env B →
    t.wp Φ (fun l => post l ∧ l = r) env fun l v => B l v ∧ ∃ N, BE N l v = some r
  | .req _ t, _, _, _, hg, he, h => ⟨h.1, VC.wp_det t hg he h.2⟩
  | .ite c x y, env, _, BE, hg, ⟨N, he⟩, h => by
    simp only [VC.ev] at he
    refine ⟨fun hc => ?_, fun hc => ?_⟩
    · rw [if_pos hc] at he; exact VC.wp_det x hg ⟨N, he⟩ (h.1 hc)
    · rw [if_neg (by rw [hc]; simp)] at he; exact VC.wp_det y hg ⟨N, he⟩ (h.2 hc)
  | .loop _ l m fs init body, env, B, BE, hg, ⟨N, he⟩, h => by
    obtain ⟨I, μ, h0, hI⟩ := h
    refine ⟨fun vs => I vs ∧ ∃ N, roundsE (bodyE Φ N env l m fs body (BE N)) N vs = some r, μ, ⟨h0, N, he⟩, allN_of fun vs hl => kinds_of fun hk ⟨hv, N, hr⟩ => ?_⟩
    have hw := kinds_elim (allN_iff hI vs hl) hk hv
    have hb : ∃ N, body.ev Φ N (env ++ vs) (setE (BE N) l (roundsE (bodyE Φ N env l m fs body (BE N)) N)) = some r := by
      cases N with
      | zero => simp [roundsE] at hr
      | succ n =>
        simp only [roundsE, bodyE] at hr
        rw [if_pos ⟨hl, hk⟩] at hr
        exact ⟨n + 1, VC.ev_mono body (Nat.le_refl _) (leE_set (fun _ _ _ h => h) fun v r hr => rounds_mono (Nat.le_refl _) (fun _ _ _ h => h) (Nat.le_succ n) v r hr) hr⟩
    refine VC.wp_mono2 (fun _ h => h) _ _ _ _ (fun j v hj => ?_) (VC.wp_det body (BE := fun N => setE (BE N) l (roundsE (bodyE Φ N env l m fs body (BE N)) N)) (fun N N' hN => leE_set (hg N N' hN) fun v r hr => rounds_mono hN (hg N N' hN) hN v r hr) hb hw)
    obtain ⟨h1, N, h2⟩ := hj
    unfold setB at h1 ⊢
    unfold setE at h2
    by_cases e : j = l
    · rw [if_pos e] at h1 h2 ⊢
      exact ⟨⟨h1.1, N, h2⟩, h1.2⟩
    · rw [if_neg e] at h1 h2 ⊢
      exact ⟨h1, N, h2⟩
  | .back l es, env, _, BE, _, ⟨N, he⟩, h => ⟨h, N, he⟩
  | .ret es, env, _, _, _, ⟨N, he⟩, h => ⟨h, by simpa [VC.ev] using he⟩

/-- Code that is shown to end with a property ends with one value of that property. -/
theorem VC.one {post : List D → Prop} {t : VC} {env : List D} (h : t.wp Φ post env fun _ _ => False) {l0 : List D} (h0 : post l0) : ∃ r, post r ∧ t.wp Φ (fun l => l = r) env fun _ _ => False := by
  obtain ⟨N, r, hr⟩ := VC.ev_ends t (BE := fun _ _ _ => none) (fun _ _ _ _ _ _ h => h) (fun _ _ h => h.elim) h
  have hw := VC.wp_det t (BE := fun _ _ _ => none) (fun _ _ _ _ _ _ h => h) ⟨N, hr⟩ h
  by_cases hp : post r
  · exact ⟨r, hp, VC.wp_mono2 (fun _ h => h.2) _ _ _ _ (fun _ _ h => h.1) hw⟩
  · exact ⟨l0, h0, VC.wp_mono2 (fun l h => absurd (h.2 ▸ h.1) hp) _ _ _ _ (fun _ _ h => h.1) hw⟩
end
end Go.Vx

/-
  Vx, part 55: a verification condition hangs on the models of the functions that it names; models that are chosen.
-/
namespace Go.Vx

/-! The functions that are named are of these. -/
def Opn.uses (S : Nat → Bool) : Opn → Bool
  | .fn f _ => S f
  | .map f _ => S f
  | _ => true
mutual
def E.uses (S : Nat → Bool) : E → Bool
  | .op o es => o.uses S && E.usesL S es
  | _ => true
def E.usesL (S : Nat → Bool) : List E → Bool
  | [] => true
  | e :: es => e.uses S && E.usesL S es
end
def VC.uses (S : Nat → Bool) : VC → Bool
  | .req cs t => E.usesL S cs && t.uses S
  | .ite c x y => c.uses S && (x.uses S && y.uses S)
  | .loop _ _ _ _ init body => E.usesL S init && body.uses S
  | .back _ es => E.usesL S es
  | .ret es => E.usesL S es

section
variable {Φ Φ' : Fns} {S : Nat → Bool} (hS : ∀ f, S f = true → Φ f = Φ' f)
include hS
theorem opD_uses {o : Opn} (h : o.uses S = true) (ds : List D) : opD Φ o ds = opD Φ' o ds := by
  cases o with
  | fn f c => show Φ f c ds = Φ' f c ds; rw [hS f h]
  | map f c => simp only [opD]; rw [hS f h]
  | _ => rfl
omit hS in
mutual
theorem E.den_uses (hS : ∀ f, S f = true → Φ f = Φ' f) : ∀ (e : E) (_ : e.uses S = true) (env : List D), e.den Φ env = e.den Φ' env
  | .var _, _, _ => rfl
  | .int _, _, _ => rfl
  | .bool _, _, _ => rfl
  | .str _, _, _ => rfl
  | .nl, _, _ => rfl
  | .op o es, h, env => by
    simp only [E.uses, Bool.and_eq_true] at h
    show opD Φ o (E.dens Φ env es) = opD Φ' o (E.dens Φ' env es)
    rw [E.dens_uses hS es h.2 env, opD_uses hS h.1]
theorem E.dens_uses (hS : ∀ f, S f = true → Φ f = Φ' f) : ∀ (es : List E) (_ : E.usesL S es = true) (env : List D), E.dens Φ env es = E.dens Φ' env es
  | [], _, _ => rfl
  | e :: es, h, env => by
    simp only [E.usesL, Bool.and_eq_true] at h
    show e.den Φ env :: E.dens Φ env es = _
    rw [E.den_uses hS e h.1 env, E.dens_uses hS es h.2 env]
    rfl
end
theorem E.map_uses (es : List E) (h : E.usesL S es = true) (env : List D) : es.map (E.den Φ env) = es.map (E.den Φ' env) := by
  rw [← E.dens_map, ← E.dens_map, E.dens_uses hS es h env]
theorem conj_uses : ∀ (cs : List E) (_ : E.usesL S cs = true) (env : List D), conj Φ env cs = conj Φ' env cs
  | [], _, _ => rfl
  | c :: cs, h, env => by
    simp only [E.usesL, Bool.and_eq_true] at h
    show ((c.den Φ env).asBool = true ∧ conj Φ env cs) = ((c.den Φ' env).asBool = true ∧ conj Φ' env cs)
    rw [E.den_uses hS c h.1 env, conj_uses cs h.2 env]
theorem VC.wp_uses {post : List D → Prop} : ∀ (t : VC) (_ : t.uses S = true) (env : List D) (B : Nat → List D → Prop), t.wp Φ post env B = t.wp Φ' post env B
  | .req cs t, h, env, B => by
    simp only [VC.uses, Bool.and_eq_true] at h
    simp only [VC.wp]
    rw [conj_uses hS cs h.1 env, VC.wp_uses t h.2 env B]
  | .ite c x y, h, env, B => by
    simp only [VC.uses, Bool.and_eq_true] at h
    simp only [VC.wp]
    rw [E.den_uses hS c h.1 env, VC.wp_uses x h.2.1 env B, VC.wp_uses y h.2.2 env B]
  | .loop _ l m fs init body, h, env, B => by
    simp only [VC.uses, Bool.and_eq_true] at h
    simp only [VC.wp]
    rw [E.map_uses hS init h.1 env]
    simp only [VC.wp_uses body h.2]
  | .back l es, h, env, B => by
    simp only [VC.wp]
    rw [E.map_uses hS es h env]
  | .ret es, h, env, B => by
    simp only [VC.wp]
    rw [E.map_uses hS es h env]
end

open Classical in
/-- The value that the code ends with, where it is shown to end with this property; else any. -/
noncomputable def pickV (Φ : Fns) (t : VC) (post : List D → Prop) (ds : List D) : List D :=
  if h : ∃ r, post r ∧ t.wp Φ (fun l => l = r) ds fun _ _ => False then Classical.choose h else []
theorem pickV_ok {Φ : Fns} {t : VC} {post : List D → Prop} {ds : List D} (h : t.wp Φ post ds fun _ _ => False) {l0 : List D} (h0 : post l0) : post (pickV Φ t post ds) ∧ t.wp Φ (fun l => l = pickV Φ t post ds) ds fun _ _ => False := by
  have hx := VC.one h h0
  unfold pickV
  rw [dif_pos hx]
  exact Classical.choose_spec hx
end Go.Vx

/-
  Vx, part 56: contracts by properties alone: the model of a function is chosen once its code is shown to end with a property.
-/
namespace Go.Vx

/-- Results, and boxes afterwards, out of the values that the code ends with. -/
def rcomp : List RSh → List D → Nat → D
  | [], _, _ => default
  | .one _ :: _, l, 0 => l.headD default
  | .agg cs :: _, l, 0 => .sl [l.take cs.length]
  | r :: rs, l, n + 1 => rcomp rs (l.drop r.cells.length) n
def bcomp : List BSh → List D → Nat → D
  | [], _, _ => default
  | .box _ cs :: _, l, 0 => .sl [l.take cs.length]
  | .box _ cs :: ss, l, n + 1 => bcomp ss (l.drop cs.length) n
  | .im _ :: ss, l, n => bcomp ss l n
  | .one _ :: ss, l, n => bcomp ss l n
  | .agg _ :: ss, l, n => bcomp ss l n

theorem range_id {cs : List RC} {l : List D} (h : cs.length ≤ l.length) : (List.range cs.length).map (fun j => (l.take cs.length).getD j default) = l.take cs.length := by
  apply List.ext_getElem
  · simp; omega
  · intro i h1 h2
    simp at h1 h2
    simp [List.getD_eq_getElem?_getD, h1, List.getElem?_take, show i < l.length by omega]

theorem ret_comp : ∀ (rs : List RSh) (l : List D) (c0 : Nat) (φ : Nat → D), l.length = (rs.flatMap RSh.cells).length → (∀ c, c < rs.length → φ (c0 + c) = rcomp rs l c) → retDs φ c0 rs = l
  | [], l, c0, φ, hl, _ => by simp at hl; subst hl; rfl
  | r :: rs, l, c0, φ, hl, h => by
    simp only [List.flatMap_cons, List.length_append] at hl
    have h0 := h 0 (by simp)
    rw [Nat.add_zero] at h0
    have ih := ret_comp rs (l.drop r.cells.length) (c0 + 1) φ (by rw [List.length_drop]; omega) fun c hc => by
      have := h (c + 1) (by simpa using hc)
      rw [show c0 + 1 + c = c0 + (c + 1) by omega, this]
      cases r <;> rfl
    show r.ds (φ c0) ++ retDs φ (c0 + 1) rs = l
    rw [ih, h0]
    have : r.ds (rcomp (r :: rs) l 0) = l.take r.cells.length := by
      cases r with
      | one c =>
        cases l with
        | nil => simp [RSh.cells] at hl; omega
        | cons x l => simp [RSh.ds, rcomp, RSh.cells]
      | agg cs =>
        show (List.range cs.length).map (fun j => (l.take cs.length).getD j default) = l.take cs.length
        exact range_id (by simp only [RSh.cells] at hl; omega)
    rw [this, List.take_append_drop]

theorem rcomp_take : ∀ (rs : List RSh) (l : List D) (c : Nat), c < rs.length → rcomp rs l c = rcomp rs (l.take (rs.flatMap RSh.cells).length) c
  | [], _, _, h => by simp at h
  | .one c :: rs, l, 0, _ => by
    show l.headD default = (l.take _).headD default
    cases l with
    | nil => simp
    | cons x l =>
      rw [show ((RSh.one c :: rs).flatMap RSh.cells).length = (rs.flatMap RSh.cells).length + 1 by simp only [List.flatMap_cons, RSh.cells, List.length_append, List.length_cons, List.length_nil]; omega]
      rfl
  | .agg cs :: rs, l, 0, _ => by
    show D.sl [l.take cs.length] = .sl [(l.take _).take cs.length]
    rw [List.take_take, Nat.min_eq_left (by simp [RSh.cells])]
  | r :: rs, l, n + 1, h => by
    have ih := rcomp_take rs (l.drop r.cells.length) n (by simpa using h)
    have e : ∀ l, rcomp (r :: rs) l (n + 1) = rcomp rs (l.drop r.cells.length) n := fun l => by cases r <;> rfl
    rw [e, e, ih]
    congr 1
    rw [List.drop_take]
    congr 1
    simp

theorem out_comp : ∀ (ss : List BSh) (l : List D) (n0 : Nat) (φ : Nat → D), l.length = (boxRC ss).length → (∀ n, φ (n0 + n) = bcomp ss l n) → outDs φ n0 ss = l
  | [], l, n0, φ, hl, _ => by simp [boxRC] at hl; subst hl; rfl
  | .im _ :: ss, l, n0, φ, hl, h => out_comp ss l n0 φ hl h
  | .one _ :: ss, l, n0, φ, hl, h => out_comp ss l n0 φ hl h
  | .agg _ :: ss, l, n0, φ, hl, h => out_comp ss l n0 φ hl h
  | .box T cs :: ss, l, n0, φ, hl, h => by
    simp only [boxRC, List.length_append, List.length_map] at hl
    have h0 := h 0
    rw [Nat.add_zero] at h0
    have ih := out_comp ss (l.drop cs.length) (n0 + 1) φ (by rw [List.length_drop]; omega) fun n => by
      rw [show n0 + 1 + n = n0 + (n + 1) by omega, h (n + 1)]; rfl
    show (List.range cs.length).map (fun j => (φ n0).row.getD j default) ++ outDs φ (n0 + 1) ss = l
    rw [ih, h0]
    have := range_id (cs := cs.map BC.rc) (l := l) (by simp; omega)
    rw [List.length_map] at this
    show (List.range cs.length).map (fun j => (l.take cs.length).getD j default) ++ _ = l
    rw [this, List.take_append_drop]

theorem Good1.tr {P : Program} {Φ Φ' : Fns} {t : Told1} (h : Φ' t.f = Φ t.f) (g : Good1 P Φ t) : Good1 P Φ' t := by
  unfold Good1 at *
  rw [h]
  exact g
/-- The same models but for one function. -/
def But (Φ Φ' : Fns) (f : Nat) : Prop := ∀ g, g ≠ f → Φ' g = Φ g
theorem But.wp {Φ Φ' : Fns} {f : Nat} (h : But Φ Φ' f) {t : VC} (hu : t.uses (fun g => !(g == f)) = true) {post : List D → Prop} {env : List D} {B : Nat → List D → Prop} : t.wp Φ' post env B = t.wp Φ post env B :=
  VC.wp_uses (S := fun g => !(g == f)) (fun g hg => h g (by simpa using hg)) t hu env B
theorem But.goods {P : Program} {Φ Φ' : Fns} {f : Nat} (h : But Φ Φ' f) {l : List Told1} (hl : ∀ t ∈ l, Good1 P Φ t) (hn : (l.all fun t => !(t.f == f)) = true) : ∀ t ∈ l, Good1 P Φ' t := fun t ht =>
  (hl t ht).tr (h _ (by have := List.all_eq_true.1 hn t ht; simpa using this))

open Classical in
/-- The chosen model. -/
noncomputable def picked (t : Told1) (Φ : Fns) (vc : VC) (pre : List D → Prop) (post : List D → List D → Prop) (c : Nat) (ds : List D) : D :=
  if c = 1000 then .bool (decide (pre ds)) else
    if 2000 ≤ c then bcomp (t.bs.getD []) ((pickV Φ vc (post ds) ds).drop (t.rets.flatMap RSh.cells).length) (c - 2000) else
      match t.nb with
      | some _ => .sl [pickV Φ vc (post ds) ds]
      | none => rcomp t.rets (pickV Φ vc (post ds) ds) c
noncomputable def putΦ (Φ : Fns) (f : Nat) (φ : Nat → List D → D) : Fns := fun g => if g = f then φ else Φ g
theorem putΦ_same (Φ : Fns) (f : Nat) (φ : Nat → List D → D) : putΦ Φ f φ f = φ := if_pos rfl
theorem putΦ_but (Φ : Fns) (f : Nat) (φ : Nat → List D → D) : But Φ (putΦ Φ f φ) f := fun _ h => if_neg h

section
variable {P : Program} {Φ : Fns} {T : TypeId → TI} (tok : ∀ t, (T t).ok = true → TOk P T t) (hm : P.follows .mixedOrders = true) {l : List Told1} (hl : ∀ t ∈ l, Good1 P Φ t) {t : Told1} {fn : Func} {hs : List Hint} {vc : VC}
  (hf : P.funcs[t.f]? = some fn) (hn : fn.name ≠ "runtime.NumGoroutine")
  (hu : vc.uses (fun g => !(g == t.f)) = true) (ha : (l.all fun s => !(s.f == t.f)) = true)
  (pre : List D → Prop) (post : List D → List D → Prop)
include tok hm hl hf hn hu ha

/-- A function that is handed boxes, by a property of what its code ends with. -/
theorem stageB {args : List BSh} (hlen : args.length ≤ fn.ntmps) (hk : nodupB ((argBs 0 args).2.map (·.1)) = true) (hv : vcB T (sigs l) hs fn args t.rets = some vc)
    (hw : ∀ ds, ds.length = args.length → pre ds → vc.wp Φ (post ds) ds fun _ _ => False) (h0 : ∀ ds, ds.length = args.length → pre ds → ∃ r, post ds r)
    (hp : ∀ ds r, post ds r → r.length = (t.rets.flatMap RSh.cells).length + (boxRC args).length) (hr : t.rets.length ≤ 1000)
    (hx : t.xs = none := by rfl) (hbs : t.bs = some args := by rfl) (hso : t.so = none := by rfl) (hnb : t.nb = none := by rfl) :
    ∃ Φ', But Φ Φ' t.f ∧ Good1 P Φ' t ∧ ∀ ds, ds.length = args.length → pre ds → (Φ' t.f 1000 ds).asBool = true ∧ post ds (retDs (fun c => Φ' t.f c ds) 0 t.rets ++ outDs (fun n => Φ' t.f (2000 + n) ds) 0 args) := by
  let φ := picked t Φ vc pre post
  have hb := putΦ_but Φ t.f φ
  have hs' : putΦ Φ t.f φ t.f = φ := putΦ_same Φ t.f φ
  have key : ∀ ds, ds.length = args.length → pre ds → post ds (pickV Φ vc (post ds) ds) ∧ vc.wp Φ (fun l => l = pickV Φ vc (post ds) ds) ds (fun _ _ => False) := fun ds hd hp' =>
    let ⟨r0, hr0⟩ := h0 ds hd hp'
    pickV_ok (hw ds hd hp') hr0
  have hval : ∀ ds, ds.length = args.length → pre ds → retDs (fun c => φ c ds) 0 t.rets ++ outDs (fun n => φ (2000 + n) ds) 0 args = pickV Φ vc (post ds) ds := fun ds hd hp' => by
    have hlen := hp ds _ (key ds hd hp').1
    rw [ret_comp t.rets ((pickV Φ vc (post ds) ds).take (t.rets.flatMap RSh.cells).length) 0 (fun c => φ c ds) (by rw [List.length_take]; omega), out_comp args ((pickV Φ vc (post ds) ds).drop (t.rets.flatMap RSh.cells).length) 0 (fun n => φ (2000 + n) ds) (by rw [List.length_drop]; omega), List.take_append_drop]
    · intro n
      simp only [φ, picked, Nat.zero_add]
      rw [if_neg (by omega), if_pos (by omega), hbs, Nat.add_sub_cancel_left]
      rfl
    · intro c hc
      simp only [φ, picked, Nat.zero_add]
      rw [if_neg (by omega), if_neg (by omega), hnb]
      simp only
      exact rcomp_take t.rets _ c hc
  refine ⟨putΦ Φ t.f φ, hb, ?_, fun ds hd hp' => ?_⟩
  · refine goodB tok hm (hb.goods hl ha) hf hn hlen hk hv (fun ds hd hpre => ?_) hx hbs hso
    rw [hs'] at hpre ⊢
    have hpre : pre ds := by simpa [φ, picked, D.asBool] using hpre
    rw [hb.wp hu, hval ds hd hpre]
    exact (key ds hd hpre).2
  · rw [hs', hval ds hd hp']
    exact ⟨by simp [φ, picked, hp', D.asBool], (key ds hd hp').1⟩

/-- A plain function. -/
theorem stageR (hlen : t.args.length ≤ fn.ntmps) (hv : vcOf T (sigs l) hs fn t.args t.rets = some vc)
    (hw : ∀ ds, ds.length = t.args.length → WFAs t.args ds → pre ds → vc.wp Φ (post ds) ds fun _ _ => False) (h0 : ∀ ds, ds.length = t.args.length → pre ds → ∃ r, post ds r)
    (hp : ∀ ds r, post ds r → r.length = (t.rets.flatMap RSh.cells).length) (hr : t.rets.length ≤ 1000)
    (hx : t.xs = none := by rfl) (hbs : t.bs = none := by rfl) (hso : t.so = none := by rfl) (hnb : t.nb = none := by rfl) :
    ∃ Φ', But Φ Φ' t.f ∧ Good1 P Φ' t ∧ ∀ ds, ds.length = t.args.length → WFAs t.args ds → pre ds → (Φ' t.f 1000 ds).asBool = true ∧ post ds (retDs (fun c => Φ' t.f c ds) 0 t.rets) := by
  let φ := picked t Φ vc pre post
  have hb := putΦ_but Φ t.f φ
  have hs' : putΦ Φ t.f φ t.f = φ := putΦ_same Φ t.f φ
  have key : ∀ ds, ds.length = t.args.length → WFAs t.args ds → pre ds → post ds (pickV Φ vc (post ds) ds) ∧ vc.wp Φ (fun l => l = pickV Φ vc (post ds) ds) ds (fun _ _ => False) := fun ds hd hwf hp' =>
    let ⟨r0, hr0⟩ := h0 ds hd hp'
    pickV_ok (hw ds hd hwf hp') hr0
  have hval : ∀ ds, ds.length = t.args.length → WFAs t.args ds → pre ds → retDs (fun c => φ c ds) 0 t.rets = pickV Φ vc (post ds) ds := fun ds hd hwf hp' => by
    have hlen := hp ds _ (key ds hd hwf hp').1
    rw [ret_comp t.rets (pickV Φ vc (post ds) ds) 0 (fun c => φ c ds) (by omega)]
    intro c hc
    simp only [φ, picked, Nat.zero_add]
    rw [if_neg (by omega), if_neg (by omega), hnb]
  refine ⟨putΦ Φ t.f φ, hb, ?_, fun ds hd hwf hp' => ?_⟩
  · refine good1 tok hm (hb.goods hl ha) hf hn hlen hv (fun ds hd hwf hpre => ?_) hx hbs hso hnb
    rw [hs'] at hpre ⊢
    have hpre : pre ds := by simpa [φ, picked, D.asBool] using hpre
    rw [hb.wp hu, hval ds hd hwf hpre]
    exact (key ds hd hwf hpre).2
  · rw [hs', hval ds hd hwf hp']
    exact ⟨by simp [φ, picked, hp', D.asBool], (key ds hd hwf hp').1⟩

/-- A function that makes a variable. -/
theorem stageN {q : TypeId × List K} (hlen : t.args.length ≤ fn.ntmps) (hv : vcN T (sigs l) hs fn t.args q.1 q.2 = some vc)
    (hw : ∀ ds, ds.length = t.args.length → WFAs t.args ds → pre ds → vc.wp Φ (post ds) ds fun _ _ => False) (h0 : ∀ ds, ds.length = t.args.length → pre ds → ∃ r, post ds r)
    (hx : t.xs = none := by rfl) (hbs : t.bs = none := by rfl) (hso : t.so = none := by rfl) (hnb : t.nb = some q := by rfl) :
    ∃ Φ', But Φ Φ' t.f ∧ Good1 P Φ' t ∧ ∀ ds, ds.length = t.args.length → WFAs t.args ds → pre ds → (Φ' t.f 1000 ds).asBool = true ∧ post ds (Φ' t.f 0 ds).row := by
  let φ := picked t Φ vc pre post
  have hb := putΦ_but Φ t.f φ
  have hs' : putΦ Φ t.f φ t.f = φ := putΦ_same Φ t.f φ
  have key : ∀ ds, ds.length = t.args.length → WFAs t.args ds → pre ds → post ds (pickV Φ vc (post ds) ds) ∧ vc.wp Φ (fun l => l = pickV Φ vc (post ds) ds) ds (fun _ _ => False) := fun ds hd hwf hp' =>
    let ⟨r0, hr0⟩ := h0 ds hd hp'
    pickV_ok (hw ds hd hwf hp') hr0
  have hval : ∀ ds, (φ 0 ds).row = pickV Φ vc (post ds) ds := fun ds => by
    simp only [φ, picked]
    rw [if_neg (by omega), if_neg (by omega), hnb]
    rfl
  refine ⟨putΦ Φ t.f φ, hb, ?_, fun ds hd hwf hp' => ?_⟩
  · refine goodN tok hm (hb.goods hl ha) hf hn hlen hv (fun ds hd hwf hpre => ?_) hx hbs hso hnb
    rw [hs'] at hpre ⊢
    have hpre : pre ds := by simpa [φ, picked, D.asBool] using hpre
    rw [hb.wp hu, hval ds]
    exact (key ds hd hwf hpre).2
  · rw [hs', hval ds]
    exact ⟨by simp [φ, picked, hp', D.asBool], (key ds hd hwf hp').1⟩
end
end Go.Vx

/-
  Vx, part 57: functions that draw: a cursor is handed about; chosen models, one after the other.
-/
namespace Go.Vx

/-- A cursor. -/
def curR (r : List D) : Prop := (cell r 0).asList.length ≤ 1048576 ∧ 0 ≤ (cell r 1).asInt
abbrev curOk (c : D) : Prop := curR c.row
@[simp] theorem curR_cells (r : List D) : curR [cell r 0, cell r 1, cell r 2] = curR r := rfl

/-- What is told of a function's model. -/
abbrev Fact := Nat × ((Nat → List D → D) → Prop)
/-- Models that keep to what is told; all others as they were. -/
structure Kept (Φ0 : Fns) (fs : List Fact) (Φ : Fns) : Prop where
  holds : ∀ x ∈ fs, x.2 (Φ x.1)
  base : ∀ f, (fs.any fun x => x.1 == f) = false → Φ f = Φ0 f
theorem Kept.nil (Φ0 : Fns) : Kept Φ0 [] Φ0 := ⟨fun x hx => by simp at hx, fun _ _ => rfl⟩
theorem Kept.step {Φ0 Φ : Fns} {fs : List Fact} (h : Kept Φ0 fs Φ) {f : Nat} {p : (Nat → List D → D) → Prop} (hf : (fs.any fun x => x.1 == f) = false) (hp : ∃ φ, p φ) : ∃ Φ', Kept Φ0 ((f, p) :: fs) Φ' := by
  obtain ⟨φ, hp⟩ := hp
  refine ⟨putΦ Φ f φ, fun x hx => ?_, fun g hg => ?_⟩
  · rcases List.mem_cons.1 hx with rfl | hx
    · show p (putΦ Φ f φ f)
      rw [putΦ_same]
      exact hp
    · have : x.1 ≠ f := fun e => by
        have := List.any_eq_false.1 hf x hx
        simp [e] at this
      rw [putΦ_but Φ f φ x.1 this]
      exact h.holds x hx
  · simp only [List.any_cons, Bool.or_eq_false_iff, beq_eq_false_iff_ne, ne_eq] at hg
    rw [putΦ_but Φ f φ g (fun e => hg.1 e.symm)]
    exact h.base g hg.2
theorem Kept.add {Φ0 Φ : Fns} {fs : List Fact} (h : Kept Φ0 fs Φ) (x : Fact) (hf : (fs.any fun y => y.1 == x.1) = false) (hp : ∃ φ, x.2 φ) : ∃ Φ', Kept Φ0 (x :: fs) Φ' := h.step hf hp
theorem Kept.at' {Φ0 Φ : Fns} {fs : List Fact} (h : Kept Φ0 fs Φ) (n : Nat) {x : Fact} (hx : fs[n]? = some x) : x.2 (Φ x.1) := h.holds x (List.mem_of_getElem? hx)

/-- What the code of a draw ends with: so many results, and the cursor. -/
def dpost (n : Nat) (Q : List D → Prop) (l : List D) : Prop := ∃ r b i h, l = r ++ [b, i, h] ∧ r.length = n ∧ Q r ∧ curR [b, i, h]
theorem dpost_of {n : Nat} {Q : List D → Prop} {r : List D} {b i h : D} (hr : r.length = n) : dpost n Q (r ++ [b, i, h]) = (Q r ∧ curR [b, i, h]) := by
  apply propext
  constructor
  · rintro ⟨r', b', i', h', e, e2, q1, q2⟩
    obtain ⟨e3, e4⟩ := List.append_inj e (by omega)
    subst e3
    simp only [List.cons.injEq, and_true] at e4
    obtain ⟨rfl, rfl, rfl⟩ := e4
    exact ⟨q1, q2⟩
  · rintro ⟨q1, q2⟩
    exact ⟨r, b, i, h, rfl, hr, q1, q2⟩
section
variable {Q : List D → Prop} {x y z u b i h : D}
@[simp] theorem dpost_0 : dpost 0 Q [b, i, h] = (Q [] ∧ curR [b, i, h]) := dpost_of (r := []) rfl
@[simp] theorem dpost_1 : dpost 1 Q [x, b, i, h] = (Q [x] ∧ curR [b, i, h]) := dpost_of (r := [x]) rfl
@[simp] theorem dpost_2 : dpost 2 Q [x, y, b, i, h] = (Q [x, y] ∧ curR [b, i, h]) := dpost_of (r := [x, y]) rfl
@[simp] theorem dpost_4 : dpost 4 Q [x, y, z, u, b, i, h] = (Q [x, y, z, u] ∧ curR [b, i, h]) := dpost_of (r := [x, y, z, u]) rfl
end

/-- What a draw gives: its results, and the cursor goes on. -/
def DrawF (rs : List RSh) (pre : List D → Prop) (post : List D → List D → Prop) (φ : Nat → List D → D) : Prop :=
  ∀ c rest, curOk c → pre rest → (φ 1000 (c :: rest)).asBool = true ∧ post rest (retDs (fun n => φ n (c :: rest)) 0 rs) ∧ curOk (φ 2000 (c :: rest))
abbrev PlainF (t : Told1) (pre : List D → Prop) (post : List D → List D → Prop) (φ : Nat → List D → D) : Prop :=
  ∀ ds, ds.length = t.args.length → WFAs t.args ds → pre ds → (φ 1000 ds).asBool = true ∧ post ds (retDs (fun c => φ c ds) 0 t.rets)

def BSh.noBox : BSh → Bool
  | .box _ _ => false
  | _ => true
theorem noBox_rc : ∀ {ss : List BSh}, ss.all BSh.noBox = true → boxRC ss = []
  | [], _ => rfl
  | .im _ :: ss, h => noBox_rc (ss := ss) (by simpa [BSh.noBox] using h)
  | .one _ :: ss, h => noBox_rc (ss := ss) (by simpa [BSh.noBox] using h)
  | .agg _ :: ss, h => noBox_rc (ss := ss) (by simpa [BSh.noBox] using h)
  | .box _ _ :: ss, h => by simp [BSh.noBox] at h
theorem noBox_out {φ : Nat → D} : ∀ {ss : List BSh} {n : Nat}, ss.all BSh.noBox = true → outDs φ n ss = []
  | [], _, _ => rfl
  | .im _ :: ss, n, h => noBox_out (ss := ss) (n := n) (by simpa [BSh.noBox] using h)
  | .one _ :: ss, n, h => noBox_out (ss := ss) (n := n) (by simpa [BSh.noBox] using h)
  | .agg _ :: ss, n, h => noBox_out (ss := ss) (n := n) (by simpa [BSh.noBox] using h)
  | .box _ _ :: ss, _, h => by simp [BSh.noBox] at h
theorem ds_len (r : RSh) (d : D) : (r.ds d).length = r.cells.length := by cases r <;> simp [RSh.ds, RSh.cells]
theorem retDs_len (φ : Nat → D) : ∀ (rs : List RSh) (c : Nat), (retDs φ c rs).length = (rs.flatMap RSh.cells).length
  | [], _ => rfl
  | r :: rs, c => by
    show (r.ds (φ c) ++ retDs φ (c + 1) rs).length = _
    rw [List.length_append, ds_len, retDs_len φ rs (c + 1), List.flatMap_cons, List.length_append]

section
variable {P : Program} {Φ : Fns} {T : TypeId → TI} (tok : ∀ t, (T t).ok = true → TOk P T t) (hm : P.follows .mixedOrders = true) {l : List Told1} (hl : ∀ t ∈ l, Good1 P Φ t) {t : Told1} {fn : Func} {hs : List Hint} {vc : VC}
  (hf : P.funcs[t.f]? = some fn) (hn : fn.name ≠ "runtime.NumGoroutine")
  (hu : vc.uses (fun g => !(g == t.f)) = true) (ha : (l.all fun s => !(s.f == t.f)) = true)
  (pre : List D → Prop) (post : List D → List D → Prop)
include tok hm hl hf hn hu ha

theorem drawB {bt : TypeId} {k1 k2 k3 : K} {ss : List BSh} (hss : ss.all BSh.noBox = true) (hlen : ss.length + 1 ≤ fn.ntmps) (hk : nodupB ((argBs 0 (.box bt [.im k1, .im k2, .im k3] :: ss)).2.map (·.1)) = true) (hv : vcB T (sigs l) hs fn (.box bt [.im k1, .im k2, .im k3] :: ss) t.rets = some vc)
    (hpl : ∀ rest, pre rest → rest.length = ss.length) (h0 : ∀ rest, pre rest → ∃ r : List D, r.length = (t.rets.flatMap RSh.cells).length ∧ post rest r)
    (hw : ∀ c rest, curOk c → pre rest → vc.wp Φ (dpost (t.rets.flatMap RSh.cells).length (post rest)) (c :: rest) fun _ _ => False)
    (hr : t.rets.length ≤ 1000 := by decide)
    (hx : t.xs = none := by rfl) (hbs : t.bs = some (.box bt [.im k1, .im k2, .im k3] :: ss) := by rfl) (hso : t.so = none := by rfl) (hnb : t.nb = none := by rfl) :
    ∃ φ, Good1 P (fun _ => φ) t ∧ DrawF t.rets pre post φ := by
  obtain ⟨Φ', _, hg, hp⟩ := stageB tok hm hl hf hn hu ha (fun ds => curOk (cell ds 0) ∧ pre ds.tail) (fun ds l => ∃ r b i h, l = r ++ [b, i, h] ∧ r.length = (t.rets.flatMap RSh.cells).length ∧ post ds.tail r ∧ curR [b, i, h])
    (args := .box bt [.im k1, .im k2, .im k3] :: ss) hlen hk hv (fun ds hd ⟨h1, h2⟩ => by
      match ds, hd with
      | c :: rest, _ => exact hw c rest h1 h2) (fun ds hd ⟨h1, h2⟩ => by
      obtain ⟨r, q1, q2⟩ := h0 _ h2
      exact ⟨r ++ [.sl [], .int 0, .int 0], r, _, _, _, rfl, q1, q2, by simp [curR, D.asList, D.asInt]⟩) (fun ds l ⟨r, b, i, h, e, e2, _⟩ => by
      subst e
      simp [boxRC, noBox_rc hss, e2]) hr hx hbs hso hnb
  refine ⟨Φ' t.f, hg, fun c rest hc hpre => ?_⟩
  obtain ⟨q1, r, b, i, h, e, e2, q2, q3⟩ := hp (c :: rest) (by simp [hpl rest hpre]) ⟨hc, hpre⟩
  have e3 := List.append_inj e (by rw [retDs_len, e2])
  refine ⟨q1, by rw [e3.1]; exact q2, ?_⟩
  have e4 := e3.2
  simp only [outDs, noBox_out hss, List.append_nil] at e4
  have e5 : [cell (Φ' t.f 2000 (c :: rest)).row 0, cell (Φ' t.f 2000 (c :: rest)).row 1, cell (Φ' t.f 2000 (c :: rest)).row 2] = [b, i, h] := e4
  rw [← e5, curR_cells] at q3
  exact q3

theorem drawR (hlen : t.args.length ≤ fn.ntmps) (hv : vcOf T (sigs l) hs fn t.args t.rets = some vc)
    (hw : ∀ ds, ds.length = t.args.length → WFAs t.args ds → pre ds → vc.wp Φ (post ds) ds fun _ _ => False) (h0 : ∀ ds, ds.length = t.args.length → pre ds → ∃ r, post ds r)
    (hp : ∀ ds r, post ds r → r.length = (t.rets.flatMap RSh.cells).length) (hr : t.rets.length ≤ 1000 := by decide)
    (hx : t.xs = none := by rfl) (hbs : t.bs = none := by rfl) (hso : t.so = none := by rfl) (hnb : t.nb = none := by rfl) :
    ∃ φ, Good1 P (fun _ => φ) t ∧ PlainF t pre post φ := by
  obtain ⟨Φ', _, hg, hq⟩ := stageR tok hm hl hf hn hu ha pre post hlen hv hw h0 hp hr hx hbs hso hnb
  exact ⟨Φ' t.f, hg, hq⟩

theorem drawN {q : TypeId × List K} (hlen : t.args.length ≤ fn.ntmps) (hv : vcN T (sigs l) hs fn t.args q.1 q.2 = some vc)
    (hw : ∀ ds, ds.length = t.args.length → WFAs t.args ds → pre ds → vc.wp Φ (post ds) ds fun _ _ => False) (h0 : ∀ ds, ds.length = t.args.length → pre ds → ∃ r, post ds r)
    (hx : t.xs = none := by rfl) (hbs : t.bs = none := by rfl) (hso : t.so = none := by rfl) (hnb : t.nb = some q := by rfl) :
    ∃ φ, Good1 P (fun _ => φ) t ∧ ∀ ds, ds.length = t.args.length → WFAs t.args ds → pre ds → (φ 1000 ds).asBool = true ∧ post ds (φ 0 ds).row := by
  obtain ⟨Φ', _, hg, hq⟩ := stageN tok hm hl hf hn hu ha pre post hlen hv hw h0 hx hbs hso hnb
  exact ⟨Φ' t.f, hg, hq⟩
end

/-- The last eight bits. -/
theorem and255 (x : Int) : ∃ n : Nat, n < 256 ∧ intV .and .i64 x 255 = .int n := by
  refine ⟨(BitVec.ofInt 64 x &&& BitVec.ofInt 64 255).toNat, ?_, ?_⟩
  · rw [BitVec.toNat_and]
    have : (BitVec.ofInt 64 255).toNat = 255 := by decide
    rw [this]
    exact Nat.lt_succ_of_le Nat.and_le_right
  · show D.int (IntKind.i64.wrap _) = _
    have h : (BitVec.ofInt 64 x &&& BitVec.ofInt 64 255).toNat < 256 := by
      rw [BitVec.toNat_and]
      have : (BitVec.ofInt 64 255).toNat = 255 := by decide
      rw [this]
      exact Nat.lt_succ_of_le Nat.and_le_right
    congr 1
    exact w64 (by show -9223372036854775808 ≤ (((BitVec.ofInt 64 x &&& BitVec.ofInt 64 255).toNat : Nat) : Int); omega) (by show (((BitVec.ofInt 64 x &&& BitVec.ofInt 64 255).toNat : Nat) : Int) ≤ _; omega)
theorem rem_range {x y : Int} (hx : 0 ≤ x) (hy : 0 < y) : 0 ≤ x.tmod y ∧ x.tmod y < y := ⟨Int.tmod_nonneg _ hx, Int.tmod_lt_of_pos _ hy⟩
end Go.Vx


import Derived.Sort.LotA
import Derived.Test.YtlkidecpmfhheaaGreatVxd
import Derived.Shelf.GgSortFunc.RowK
import Derived.Lib.ReflectliteSwap
import Derived.Sort.Walk0
set_option linter.all false
namespace Go.Vx
open Go.Sort
variable {α : Type} [Inhabited α]
def swpR (d : Array α) (a b : Nat) : Nat → Array α
 | 0 => d
 | n + 1 => swp (swpR d a b n) (a + n) (b + n)
def rotF (m : Nat) : Nat → Nat → Nat → Array α → Array α
 | 0, _, _, d => d
 | f + 1, i, j, d => if i = j then swpR d (m - i) m i else if j < i then rotF m f (i - j) j (swpR d (m - i) m j) else rotF m f i (j - i) (swpR d (m - i) (m + j - i) i)
def bsF (p : Nat → Bool) : Nat → Nat → Nat → Nat
 | 0, i, _ => i
 | f + 1, i, j => if i < j then (bif p ((i + j) / 2) then bsF p f ((i + j) / 2 + 1) j else bsF p f i ((i + j) / 2)) else i
def upF (d : Array α) (a : Nat) : Nat → Array α
 | 0 => d
 | n + 1 => swp (upF d a n) (a + n) (a + n + 1)
def dnF (d : Array α) (m : Nat) : Nat → Array α
 | 0 => d
 | n + 1 => swp (dnF d m n) (m - n) (m - n - 1)
def startF (lt : α → α → Bool) (a m b : Nat) (d : Array α) : Nat :=
 if (a + b) / 2 < m then bsF (fun c => !lt d[(a + b) / 2 + m - 1 - c]! d[c]!) ((a + b) / 2 - ((a + b) / 2 + m - b)) ((a + b) / 2 + m - b) ((a + b) / 2)
 else bsF (fun c => !lt d[(a + b) / 2 + m - 1 - c]! d[c]!) (m - a) a m
def symF (lt : α → α → Bool) : Nat → Nat → Nat → Nat → Array α → Array α
 | 0, _, _, _, d => d
 | f + 1, a, m, b, d =>
   if m = a + 1 then upF d a (bsF (fun h => lt d[h]! d[a]!) (b - (a + 1)) (a + 1) b - 1 - a)
   else if b = m + 1 then dnF d m (m - bsF (fun h => !lt d[m]! d[h]!) (m - a) a m)
   else
     let s := startF lt a m b d
     let e := (a + b) / 2 + m - s
     let d1 := if s < m ∧ m < e then rotF m (e - s) (m - s) (e - m) d else d
     let d2 := if a < s ∧ s < (a + b) / 2 then symF lt f a s ((a + b) / 2) d1 else d1
     if (a + b) / 2 < e ∧ e < b then symF lt f ((a + b) / 2) e b d2 else d2
def blkF (lt : α → α → Bool) (n : Nat) : Nat → Nat → Array α → Array α
 | 0, _, d => d
 | f + 1, a, d => if a + 20 ≤ n then blkF lt n f (a + 20) (insertionSort lt d a (a + 20)) else insertionSort lt d a n
def mrgF (lt : α → α → Bool) (n bs : Nat) : Nat → Nat → Array α → Array α
 | 0, _, d => d
 | f + 1, a, d => if a + 2 * bs ≤ n then mrgF lt n bs f (a + 2 * bs) (symF lt (2 * bs) a (a + bs) (a + 2 * bs) d) else if a + bs < n then symF lt (n - a) a (a + bs) n d else d
def stbF (lt : α → α → Bool) (n : Nat) : Nat → Nat → Array α → Array α
 | 0, _, d => d
 | f + 1, bs, d => if bs < n then stbF lt n f (2 * bs) (mrgF lt n bs (n + 1) 0 d) else d
def stableF (lt : α → α → Bool) (n : Nat) (d : Array α) : Array α := stbF lt n (n + 1) 20 (blkF lt n (n + 1) 0 d)
theorem at_eq (d : Array α) {x y : Nat} (h : x = y) : d[x]! = d[y]! := by rw [h]
theorem size_swpR (d : Array α) (a b : Nat) : ∀ n, (swpR d a b n).size = d.size
 | 0 => rfl
 | n + 1 => by rw [swpR, swp_size, size_swpR d a b n]
theorem swpR_get (d : Array α) (a b : Nat) : ∀ n, a + n ≤ b → b + n ≤ d.size → ∀ k, (swpR d a b n)[k]! = if a ≤ k ∧ k < a + n then d[k - a + b]! else if b ≤ k ∧ k < b + n then d[k - b + a]! else d[k]!
 | 0, _, _, k => by rw [swpR, if_neg (by omega), if_neg (by omega)]
 | n + 1, h1, h2, k => by
   have ih := swpR_get d a b n (by omega) (by omega)
   rw [swpR, swp_get _ (by rw [size_swpR]; omega) (by rw [size_swpR]; omega), ih, ih, ih]
   repeat' split
   all_goals first | (exfalso; omega) | exact at_eq d (by omega)
theorem swpR_perm (d : Array α) (a b lo hi : Nat) : ∀ n, lo ≤ a → lo ≤ b → a + n ≤ hi → b + n ≤ hi → hi ≤ d.size → PermIn lo hi d (swpR d a b n)
 | 0, _, _, _, _, _ => permIn_refl _ _ _
 | n + 1, h1, h2, h3, h4, h5 => permIn_trans _ _ _ _ _ (swpR_perm d a b lo hi n h1 h2 (by omega) (by omega) h5) (swp_permIn _ _ _ _ _ (by omega) (by omega) (by omega) (by omega) (by rw [size_swpR]; exact h5))
theorem rotF_get (m : Nat) : ∀ (f i j : Nat) (d : Array α), 1 ≤ i → 1 ≤ j → i ≤ m → m + j ≤ d.size → i + j ≤ f → ∀ k,
   (rotF m f i j d)[k]! = if m - i ≤ k ∧ k < m - i + j then d[k + i]! else if m - i + j ≤ k ∧ k < m + j then d[k - j]! else d[k]!
 | 0, i, j, d, h1, h2, _, _, h5, _ => by omega
 | f + 1, i, j, d, h1, h2, h3, h4, h5, k => by
   rw [rotF]
   by_cases hij : i = j
   · rw [if_pos hij, swpR_get d _ _ _ (by omega) (by omega)]
     repeat' split
     all_goals first | (exfalso; omega) | exact at_eq d (by omega)
   · rw [if_neg hij]
     by_cases hji : j < i
     · rw [if_pos hji, rotF_get m f (i - j) j _ (by omega) h2 (by omega) (by rw [size_swpR]; omega) (by omega)]
       have g := swpR_get d (m - i) m j (by omega) (by omega)
       simp only [g]
       repeat' split
       all_goals first | (exfalso; omega) | exact at_eq d (by omega)
     · rw [if_neg hji, rotF_get m f i (j - i) _ h1 (by omega) h3 (by rw [size_swpR]; omega) (by omega)]
       have g := swpR_get d (m - i) (m + j - i) i (by omega) (by omega)
       simp only [g]
       repeat' split
       all_goals first | (exfalso; omega) | exact at_eq d (by omega)
theorem rotF_perm (m lo hi : Nat) : ∀ (f i j : Nat) (d : Array α), i ≤ m → lo ≤ m - i → m + j ≤ hi → hi ≤ d.size → PermIn lo hi d (rotF m f i j d)
 | 0, _, _, _, _, _, _, _ => permIn_refl _ _ _
 | f + 1, i, j, d, h1, h2, h3, h4 => by
   rw [rotF]
   split
   · exact swpR_perm d _ _ lo hi i h2 (by omega) (by omega) (by omega) h4
   split
   · exact permIn_trans _ _ _ _ _ (swpR_perm d _ _ lo hi j h2 (by omega) (by omega) (by omega) h4) (rotF_perm m lo hi f _ _ _ (by omega) (by omega) (by omega) (by rw [size_swpR]; exact h4))
   · exact permIn_trans _ _ _ _ _ (swpR_perm d _ _ lo hi i h2 (by omega) (by omega) (by omega) h4) (rotF_perm m lo hi f _ _ _ (by omega) (by omega) (by omega) (by rw [size_swpR]; exact h4))
theorem size_upF (d : Array α) (a : Nat) : ∀ n, (upF d a n).size = d.size
 | 0 => rfl
 | n + 1 => by rw [upF, swp_size, size_upF d a n]
theorem upF_get (d : Array α) (a : Nat) : ∀ n, a + n < d.size → ∀ k, (upF d a n)[k]! = if a ≤ k ∧ k < a + n then d[k + 1]! else if k = a + n then d[a]! else d[k]!
 | 0, _, k => by
   rw [upF, if_neg (by omega)]
   split
   · exact at_eq d (by omega)
   · rfl
 | n + 1, h, k => by
   have ih := upF_get d a n (by omega)
   rw [upF, swp_get _ (by rw [size_upF]; omega) (by rw [size_upF]; omega), ih, ih, ih]
   repeat' split
   all_goals first | (exfalso; omega) | exact at_eq d (by omega)
theorem upF_perm (d : Array α) (a lo hi : Nat) : ∀ n, lo ≤ a → a + n < hi → hi ≤ d.size → PermIn lo hi d (upF d a n)
 | 0, _, _, _ => permIn_refl _ _ _
 | n + 1, h1, h2, h3 => permIn_trans _ _ _ _ _ (upF_perm d a lo hi n h1 (by omega) h3) (swp_permIn _ _ _ _ _ (by omega) (by omega) (by omega) (by omega) (by rw [size_upF]; exact h3))
theorem size_dnF (d : Array α) (m : Nat) : ∀ n, (dnF d m n).size = d.size
 | 0 => rfl
 | n + 1 => by rw [dnF, swp_size, size_dnF d m n]
theorem dnF_get (d : Array α) (m : Nat) : ∀ n, n ≤ m → m < d.size → ∀ k, (dnF d m n)[k]! = if m - n < k ∧ k ≤ m then d[k - 1]! else if k = m - n then d[m]! else d[k]!
 | 0, _, _, k => by
   rw [dnF, if_neg (by omega)]
   split
   · exact at_eq d (by omega)
   · rfl
 | n + 1, h, h2, k => by
   have ih := dnF_get d m n (by omega) h2
   rw [dnF, swp_get _ (by rw [size_dnF]; omega) (by rw [size_dnF]; omega), ih, ih, ih]
   repeat' split
   all_goals first | (exfalso; omega) | exact at_eq d (by omega)
theorem dnF_perm (d : Array α) (m lo hi : Nat) : ∀ n, n ≤ m → lo ≤ m - n → m < hi → hi ≤ d.size → PermIn lo hi d (dnF d m n)
 | 0, _, _, _, _ => permIn_refl _ _ _
 | n + 1, h0, h1, h2, h3 => permIn_trans _ _ _ _ _ (dnF_perm d m lo hi n (by omega) (by omega) h2 h3) (swp_permIn _ _ _ _ _ (by omega) (by omega) (by omega) (by omega) (by rw [size_dnF]; exact h3))
theorem bsF_range (p : Nat → Bool) : ∀ (f i j : Nat), i ≤ j → i ≤ bsF p f i j ∧ bsF p f i j ≤ j
 | 0, _, _, h => ⟨Nat.le_refl _, h⟩
 | f + 1, i, j, h => by
   rw [bsF]
   by_cases hlt : i < j
   · rw [if_pos hlt]
     cases p ((i + j) / 2) with
     | true => rw [cond_true]; have := bsF_range p f ((i + j) / 2 + 1) j (by omega); omega
     | false => rw [cond_false]; have := bsF_range p f i ((i + j) / 2) (by omega); omega
   · rw [if_neg hlt]; exact ⟨Nat.le_refl _, h⟩
theorem bsF_spec (p : Nat → Bool) : ∀ (f i j : Nat), i ≤ j → j - i ≤ f → (∀ c c', i ≤ c → c ≤ c' → c' < j → p c' = true → p c = true) →
   (∀ c, i ≤ c → c < bsF p f i j → p c = true) ∧ ∀ c, bsF p f i j ≤ c → c < j → p c = false
 | 0, i, j, h, hf, _ => ⟨fun c h1 h2 => by rw [bsF] at h2; omega, fun c h1 h2 => by rw [bsF] at h1; omega⟩
 | f + 1, i, j, h, hf, hm => by
   rw [bsF]
   by_cases hlt : i < j
   · rw [if_pos hlt]
     cases hp : p ((i + j) / 2) with
     | true =>
       rw [cond_true]
       obtain ⟨h1, h2⟩ := bsF_spec p f ((i + j) / 2 + 1) j (by omega) (by omega) (fun c c' q1 q2 q3 q4 => hm c c' (by omega) q2 q3 q4)
       refine ⟨fun c q1 q2 => ?_, h2⟩
       by_cases hc : c ≤ (i + j) / 2
       · exact hm c _ q1 hc (by omega) hp
       · exact h1 c (by omega) q2
     | false =>
       rw [cond_false]
       obtain ⟨h1, h2⟩ := bsF_spec p f i ((i + j) / 2) (by omega) (by omega) (fun c c' q1 q2 q3 q4 => hm c c' q1 q2 (by omega) q4)
       refine ⟨h1, fun c q1 q2 => ?_⟩
       by_cases hc : c < (i + j) / 2
       · exact h2 c q1 hc
       · have hr := bsF_range p f i ((i + j) / 2) (by omega)
         cases hpc : p c with
         | false => rfl
         | true => rw [hm ((i + j) / 2) c (by omega) (by omega) q2 hpc] at hp; cases hp
   · rw [if_neg hlt]; exact ⟨fun c h1 h2 => by omega, fun c h1 h2 => by omega⟩
theorem startF_range (lt : α → α → Bool) (a m b : Nat) (d : Array α) (ham : a < m) (hmb : m < b) :
   a ≤ startF lt a m b d ∧ startF lt a m b d ≤ m ∧ startF lt a m b d ≤ (a + b) / 2 ∧ m ≤ (a + b) / 2 + m - startF lt a m b d ∧ (a + b) / 2 + m - startF lt a m b d ≤ b := by
 unfold startF
 by_cases h : (a + b) / 2 < m
 · rw [if_pos h]
   have := bsF_range (fun c => !lt d[(a + b) / 2 + m - 1 - c]! d[c]!) ((a + b) / 2 - ((a + b) / 2 + m - b)) ((a + b) / 2 + m - b) ((a + b) / 2) (by omega)
   omega
 · rw [if_neg h]
   have := bsF_range (fun c => !lt d[(a + b) / 2 + m - 1 - c]! d[c]!) (m - a) a m (by omega)
   omega
variable {lt L : α → α → Bool}
def Cross (lt L : α → α → Bool) (a m b : Nat) (d : Array α) : Prop := ∀ i j, a ≤ i → i < m → m ≤ j → j < b → lt d[j]! d[i]! = L d[j]! d[i]!
theorem start_ok (hL : SWO L) {a m b : Nat} {d : Array α} (ham : a < m) (hmb : m < b) (hx : Cross lt L a m b d) (h1 : SortedIn L a m d) (h2 : SortedIn L m b d) :
   (a < startF lt a m b d → (a + b) / 2 + m - startF lt a m b d < b → L d[(a + b) / 2 + m - startF lt a m b d]! d[startF lt a m b d - 1]! = false) ∧
   (startF lt a m b d < m → m < (a + b) / 2 + m - startF lt a m b d → L d[(a + b) / 2 + m - startF lt a m b d - 1]! d[startF lt a m b d]! = true) := by
 have mono : ∀ lo hi, a ≤ lo → hi ≤ m → hi ≤ (a + b) / 2 → (a + b) / 2 + m - 1 - lo < b → ∀ c c', lo ≤ c → c ≤ c' → c' < hi → (fun c => !lt d[(a + b) / 2 + m - 1 - c]! d[c]!) c' = true → (fun c => !lt d[(a + b) / 2 + m - 1 - c]! d[c]!) c = true := by
   intro lo hi q1 q2 q3 q4 c c' q5 q6 q7 q8
   simp only [Bool.not_eq_true'] at q8 ⊢
   by_cases hc : c = c'
   · subst hc; exact q8
   rw [hx c' ((a + b) / 2 + m - 1 - c') (by omega) (by omega) (by omega) (by omega)] at q8
   rw [hx c ((a + b) / 2 + m - 1 - c) (by omega) (by omega) (by omega) (by omega)]
   refine hL.ntrans _ d[(a + b) / 2 + m - 1 - c']! _ (h2 _ _ (by omega) (by omega) (by omega)) (hL.ntrans _ d[c']! _ q8 (h1 _ _ (by omega) (by omega) (by omega)))
 unfold startF
 by_cases h : (a + b) / 2 < m
 · rw [if_pos h]
   have hr := bsF_range (fun c => !lt d[(a + b) / 2 + m - 1 - c]! d[c]!) ((a + b) / 2 - ((a + b) / 2 + m - b)) ((a + b) / 2 + m - b) ((a + b) / 2) (by omega)
   obtain ⟨s1, s2⟩ := bsF_spec (fun c => !lt d[(a + b) / 2 + m - 1 - c]! d[c]!) ((a + b) / 2 - ((a + b) / 2 + m - b)) ((a + b) / 2 + m - b) ((a + b) / 2) (by omega) (by omega) (mono _ _ (by omega) (by omega) (by omega) (by omega))
   generalize bsF (fun c => !lt d[(a + b) / 2 + m - 1 - c]! d[c]!) ((a + b) / 2 - ((a + b) / 2 + m - b)) ((a + b) / 2 + m - b) ((a + b) / 2) = s at hr s1 s2 ⊢
   refine ⟨fun q1 q2 => ?_, fun q1 q2 => ?_⟩
   · have := s1 (s - 1) (by omega) (by omega)
     simp only [Bool.not_eq_true'] at this
     rw [hx (s - 1) _ (by omega) (by omega) (by omega) (by omega)] at this
     rw [at_eq d (show (a + b) / 2 + m - s = (a + b) / 2 + m - 1 - (s - 1) by omega)]
     exact this
   · have := s2 s (Nat.le_refl _) (by omega)
     simp only [Bool.not_eq_false'] at this
     rw [hx s _ (by omega) (by omega) (by omega) (by omega)] at this
     rw [at_eq d (show (a + b) / 2 + m - s - 1 = (a + b) / 2 + m - 1 - s by omega)]
     exact this
 · rw [if_neg h]
   have hr := bsF_range (fun c => !lt d[(a + b) / 2 + m - 1 - c]! d[c]!) (m - a) a m (by omega)
   obtain ⟨s1, s2⟩ := bsF_spec (fun c => !lt d[(a + b) / 2 + m - 1 - c]! d[c]!) (m - a) a m (by omega) (by omega) (mono _ _ (by omega) (by omega) (by omega) (by omega))
   generalize bsF (fun c => !lt d[(a + b) / 2 + m - 1 - c]! d[c]!) (m - a) a m = s at hr s1 s2 ⊢
   refine ⟨fun q1 q2 => ?_, fun q1 q2 => ?_⟩
   · have := s1 (s - 1) (by omega) (by omega)
     simp only [Bool.not_eq_true'] at this
     rw [hx (s - 1) _ (by omega) (by omega) (by omega) (by omega)] at this
     rw [at_eq d (show (a + b) / 2 + m - s = (a + b) / 2 + m - 1 - (s - 1) by omega)]
     exact this
   · have := s2 s (Nat.le_refl _) (by omega)
     simp only [Bool.not_eq_false'] at this
     rw [hx s _ (by omega) (by omega) (by omega) (by omega)] at this
     rw [at_eq d (show (a + b) / 2 + m - s - 1 = (a + b) / 2 + m - 1 - s by omega)]
     exact this
theorem cross_perm {p : α → α → Prop} {a m b : Nat} {d d1 d2 : Array α} (ham : a ≤ m) (hmb : m ≤ b) (hb : b ≤ d.size) (h1 : PermIn a m d d1) (h2 : PermIn m b d1 d2)
   (h : ∀ i j, a ≤ i → i < m → m ≤ j → j < b → p d[i]! d[j]!) : ∀ i j, a ≤ i → i < m → m ≤ j → j < b → p d2[i]! d2[j]! := by
 intro i j q1 q2 q3 q4
 have e1 : d2[i]! = d1[i]! := h2.2.1 i (.inl q2)
 rw [e1]
 refine permIn_all d1 d2 m b (fun y => p d1[i]! y) (by rw [h1.1]; exact hb) h2 (fun j' r1 r2 => ?_) j q3 q4
 rw [h1.2.1 j' (.inr r1)]
 exact permIn_all d d1 a m (fun x => p x d[j']!) (by omega) h1 (fun i' t1 t2 => h i' j' t1 t2 r1 r2) i q1 q2
theorem sorted_join {a m b : Nat} {d : Array α} (h1 : SortedIn L a m d) (h2 : SortedIn L m b d) (h : ∀ i j, a ≤ i → i < m → m ≤ j → j < b → L d[j]! d[i]! = false) : SortedIn L a b d := by
 intro i j q1 q2 q3
 by_cases hj : j < m
 · exact h1 i j q1 q2 hj
 by_cases hi : i < m
 · exact h i j q1 hi (by omega) q3
 · exact h2 i j (by omega) q2 q3
theorem symF_ok (hL : SWO L) : ∀ (f a m b : Nat) (d : Array α), b - a ≤ f → a < m → m < b → b ≤ d.size → Cross lt L a m b d → SortedIn L a m d → SortedIn L m b d →
   PermIn a b d (symF lt f a m b d) ∧ SortedIn L a b (symF lt f a m b d)
 | 0, a, m, b, d, hf, ham, hmb, _, _, _, _ => by omega
 | f + 1, a, m, b, d, hf, ham, hmb, hb, hx, h1, h2 => by
   rw [symF]
   by_cases hA : m = a + 1
   · rw [if_pos hA]
     have hr := bsF_range (fun h => lt d[h]! d[a]!) (b - (a + 1)) (a + 1) b (by omega)
     obtain ⟨s1, s2⟩ := bsF_spec (fun h => lt d[h]! d[a]!) (b - (a + 1)) (a + 1) b (by omega) (by omega) (fun c c' q1 q2 q3 q4 => by
       by_cases hc : c = c'
       · subst hc; exact q4
       have e1 := hx a c (Nat.le_refl _) (by omega) (by omega) (by omega)
       have e2 := hx a c' (Nat.le_refl _) (by omega) (by omega) (by omega)
       rw [e2] at q4
       rw [e1]
       cases hq : L d[c]! d[a]! with
       | true => rfl
       | false => rw [hL.ntrans _ _ _ (h2 c c' (by omega) (by omega) q3) hq] at q4; cases q4)
     generalize bsF (fun h => lt d[h]! d[a]!) (b - (a + 1)) (a + 1) b = k at hr s1 s2 ⊢
     refine ⟨upF_perm d a a b _ (Nat.le_refl _) (by omega) hb, fun i j q1 q2 q3 => ?_⟩
     have lo : ∀ c, m ≤ c → c < k → L d[c]! d[a]! = true := fun c r1 r2 => by rw [← hx a c (Nat.le_refl _) (by omega) r1 (by omega)]; exact s1 c (by omega) r2
     have up : ∀ c, k ≤ c → c < b → L d[c]! d[a]! = false := fun c r1 r2 => by rw [← hx a c (Nat.le_refl _) (by omega) (by omega) r2]; exact s2 c r1 r2
     rw [upF_get d a _ (by omega), upF_get d a _ (by omega)]
     by_cases hj : j < k - 1
     · rw [if_pos (by omega), if_pos (by omega)]; exact h2 _ _ (by omega) (by omega) (by omega)
     by_cases hj2 : j = k - 1
     · rw [if_neg (by omega), if_pos (by omega), if_pos (by omega)]; exact hL.asymmA (lo _ (by omega) (by omega))
     rw [if_neg (show ¬ (a ≤ j ∧ j < a + (k - 1 - a)) by omega), if_neg (show ¬ j = a + (k - 1 - a) by omega)]
     by_cases hi : i < k - 1
     · rw [if_pos (by omega)]; exact h2 _ _ (by omega) (by omega) q3
     rw [if_neg (show ¬ (a ≤ i ∧ i < a + (k - 1 - a)) by omega)]
     by_cases hi2 : i = k - 1
     · rw [if_pos (by omega)]; exact up j (by omega) q3
     · rw [if_neg (show ¬ i = a + (k - 1 - a) by omega)]; exact h2 _ _ (by omega) q2 q3
   rw [if_neg hA]
   by_cases hB : b = m + 1
   · rw [if_pos hB]
     have hr := bsF_range (fun h => !lt d[m]! d[h]!) (m - a) a m (by omega)
     obtain ⟨s1, s2⟩ := bsF_spec (fun h => !lt d[m]! d[h]!) (m - a) a m (by omega) (by omega) (fun c c' q1 q2 q3 q4 => by
       by_cases hc : c = c'
       · subst hc; exact q4
       simp only [Bool.not_eq_true'] at q4 ⊢
       rw [hx c' m (by omega) q3 (Nat.le_refl _) hmb] at q4
       rw [hx c m q1 (by omega) (Nat.le_refl _) hmb]
       exact hL.ntrans _ _ _ q4 (h1 c c' q1 (by omega) q3))
     generalize bsF (fun h => !lt d[m]! d[h]!) (m - a) a m = k at hr s1 s2 ⊢
     refine ⟨dnF_perm d m a b _ (by omega) (by omega) hmb hb, fun i j q1 q2 q3 => ?_⟩
     have lo : ∀ c, a ≤ c → c < k → L d[m]! d[c]! = false := fun c r1 r2 => by
       rw [← hx c m r1 (by omega) (Nat.le_refl _) hmb]; have := s1 c r1 r2; simpa using this
     have up : ∀ c, k ≤ c → c < m → L d[m]! d[c]! = true := fun c r1 r2 => by
       rw [← hx c m (by omega) r2 (Nat.le_refl _) hmb]; have := s2 c r1 r2; simpa using this
     rw [dnF_get d m _ (by omega) (by omega), dnF_get d m _ (by omega) (by omega)]
     by_cases hj : j < k
     · rw [if_neg (by omega), if_neg (by omega), if_neg (by omega), if_neg (by omega)]; exact h1 _ _ q1 q2 (by omega)
     by_cases hj2 : j = k
     · rw [if_neg (show ¬ (m - (m - k) < j ∧ j ≤ m) by omega), if_pos (show j = m - (m - k) by omega), if_neg (by omega), if_neg (by omega)]; exact lo i q1 (by omega)
     rw [if_pos (show m - (m - k) < j ∧ j ≤ m by omega)]
     by_cases hi : i < k
     · rw [if_neg (by omega), if_neg (by omega)]; exact h1 _ _ q1 (by omega) (by omega)
     by_cases hi2 : i = k
     · rw [if_neg (by omega), if_pos (by omega)]; exact hL.asymmA (up _ (by omega) (by omega))
     · rw [if_pos (by omega)]; exact h1 _ _ (by omega) (by omega) (by omega)
   rw [if_neg hB]
   dsimp only
   obtain ⟨p2, p3⟩ := start_ok hL ham hmb hx h1 h2
   have hr := startF_range lt a m b d ham hmb
   generalize startF lt a m b d = s at hr p2 p3 ⊢
   obtain ⟨r1, r2, r3, r4, r5⟩ := hr
   generalize hmid : (a + b) / 2 = mid at *
   generalize he : mid + m - s = e at *
   have hd1 : ∃ d1, (if s < m ∧ m < e then rotF m (e - s) (m - s) (e - m) d else d) = d1 ∧ PermIn a b d d1 ∧ ∀ k, d1[k]! = if s ≤ k ∧ k < mid then d[k + (m - s)]! else if mid ≤ k ∧ k < e then d[k - (e - m)]! else d[k]! := by
     refine ⟨_, rfl, ?_, fun k => ?_⟩
     · split
       · exact rotF_perm m a b _ _ _ d (by omega) (by omega) (by omega) hb
       · exact permIn_refl _ _ _
     · split
       · rename_i hc
         rw [rotF_get m _ _ _ d (by omega) (by omega) (by omega) (by omega) (by omega)]
         repeat' split
         all_goals first | (exfalso; omega) | exact at_eq d (by omega)
       · repeat' split
         all_goals first | (exfalso; omega) | exact at_eq d (by omega)
   obtain ⟨d1, e1, P1, G1⟩ := hd1
   rw [e1]
   have z1 : d1.size = d.size := P1.1
   have gl : ∀ k, a ≤ k → k < s → d1[k]! = d[k]! := fun k q1 q2 => by rw [G1, if_neg (by omega), if_neg (by omega)]
   have gr : ∀ k, s ≤ k → k < mid → d1[k]! = d[k + (m - s)]! := fun k q1 q2 => by rw [G1, if_pos (by omega)]
   have gm : ∀ k, mid ≤ k → k < e → d1[k]! = d[k - (e - m)]! := fun k q1 q2 => by rw [G1, if_neg (by omega), if_pos (by omega)]
   have ge : ∀ k, e ≤ k → k < b → d1[k]! = d[k]! := fun k q1 q2 => by rw [G1, if_neg (by omega), if_neg (by omega)]
   have S1 : SortedIn L a s d1 := fun i j q1 q2 q3 => by rw [gl i q1 (by omega), gl j (by omega) q3]; exact h1 _ _ q1 q2 (by omega)
   have S2 : SortedIn L s mid d1 := fun i j q1 q2 q3 => by rw [gr i q1 (by omega), gr j (by omega) q3]; exact h2 _ _ (by omega) (by omega) (by omega)
   have S3 : SortedIn L mid e d1 := fun i j q1 q2 q3 => by rw [gm i q1 (by omega), gm j (by omega) q3]; exact h1 _ _ (by omega) (by omega) (by omega)
   have S4 : SortedIn L e b d1 := fun i j q1 q2 q3 => by rw [ge i q1 (by omega), ge j (by omega) q3]; exact h2 _ _ (by omega) q2 q3
   have X1 : Cross lt L a s mid d1 := fun i j q1 q2 q3 q4 => by rw [gl i q1 q2, gr j q3 q4]; exact hx _ _ q1 (by omega) (by omega) (by omega)
   have X2 : Cross lt L mid e b d1 := fun i j q1 q2 q3 q4 => by rw [gm i q1 q2, ge j q3 q4]; exact hx _ _ (by omega) (by omega) (by omega) q4
   have sep : ∀ i j, a ≤ i → i < mid → mid ≤ j → j < b → L d1[j]! d1[i]! = false := fun i j q1 q2 q3 q4 => by
     by_cases hi : i < s
     · rw [gl i q1 hi]
       by_cases hj : j < e
       · rw [gm j q3 hj]; exact h1 _ _ q1 (by omega) (by omega)
       · rw [ge j (by omega) q4]
         have b0 := p2 (by omega) (by omega)
         have b1 : L d[j]! d[e]! = false := by
           by_cases hje : j = e
           · rw [hje]; exact hL.irrefl _
           · exact h2 _ _ (by omega) (by omega) q4
         have b2 : L d[s - 1]! d[i]! = false := by
           by_cases hje : i = s - 1
           · rw [hje]; exact hL.irrefl _
           · exact h1 _ _ q1 (by omega) (by omega)
         exact hL.ntrans _ _ _ b1 (hL.ntrans _ _ _ b0 b2)
     · rw [gr i (by omega) q2]
       by_cases hj : j < e
       · rw [gm j q3 hj]
         have b0 := hL.asymmA (p3 (by omega) (by omega))
         have b1 : L d[j - (e - m)]! d[s]! = false := by
           by_cases hje : j - (e - m) = s
           · rw [hje]; exact hL.irrefl _
           · exact h1 _ _ (by omega) (by omega) (by omega)
         have b2 : L d[e - 1]! d[i + (m - s)]! = false := by
           by_cases hje : i + (m - s) = e - 1
           · rw [hje]; exact hL.irrefl _
           · exact h2 _ _ (by omega) (by omega) (by omega)
         exact hL.ntrans _ _ _ b1 (hL.ntrans _ _ _ b0 b2)
       · rw [ge j (by omega) q4]; exact h2 _ _ (by omega) (by omega) q4
   have hd2 : ∃ d2, (if a < s ∧ s < mid then symF lt f a s mid d1 else d1) = d2 ∧ PermIn a mid d1 d2 ∧ SortedIn L a mid d2 := by
     refine ⟨_, rfl, ?_⟩
     split
     · exact symF_ok hL f a s mid d1 (by omega) (by omega) (by omega) (by omega) X1 S1 S2
     · refine ⟨permIn_refl _ _ _, ?_⟩
       by_cases hs : a < s
       · have : s = mid := by omega
         subst this; exact S1
       · have : a = s := by omega
         subst this; exact S2
   obtain ⟨d2, e2, P2, S5⟩ := hd2
   rw [e2]
   have g2 : ∀ k, mid ≤ k → d2[k]! = d1[k]! := fun k q => P2.2.1 k (.inr q)
   have S3' : SortedIn L mid e d2 := fun i j q1 q2 q3 => by rw [g2 i q1, g2 j (by omega)]; exact S3 i j q1 q2 q3
   have S4' : SortedIn L e b d2 := fun i j q1 q2 q3 => by rw [g2 i (by omega), g2 j (by omega)]; exact S4 i j q1 q2 q3
   have X2' : Cross lt L mid e b d2 := fun i j q1 q2 q3 q4 => by rw [g2 i q1, g2 j (by omega)]; exact X2 i j q1 q2 q3 q4
   have z2 : d2.size = d1.size := P2.1
   have hd3 : ∃ d3, (if mid < e ∧ e < b then symF lt f mid e b d2 else d2) = d3 ∧ PermIn mid b d2 d3 ∧ SortedIn L mid b d3 := by
     refine ⟨_, rfl, ?_⟩
     split
     · exact symF_ok hL f mid e b d2 (by omega) (by omega) (by omega) (by omega) X2' S3' S4'
     · refine ⟨permIn_refl _ _ _, ?_⟩
       by_cases hs : mid < e
       · have : e = b := by omega
         subst this; exact S3'
       · have : mid = e := by omega
         subst this; exact S4'
   obtain ⟨d3, e3, P3, S6⟩ := hd3
   rw [e3]
   refine ⟨?_, ?_⟩
   · refine permIn_trans _ _ _ _ _ P1 (permIn_trans _ d2 _ _ _ (permIn_mono _ _ a mid a b (Nat.le_refl _) (by omega) (by omega) P2) (permIn_mono _ _ mid b a b (by omega) (Nat.le_refl _) (by omega) P3))
   · refine sorted_join (m := mid) (fun i j q1 q2 q3 => ?_) S6 (cross_perm (p := fun x y => L y x = false) (by omega) (by omega) (by omega) P2 P3 sep)
     rw [P3.2.1 i (.inl (by omega)), P3.2.1 j (.inl q3)]
     exact S5 i j q1 q2 q3
end Go.Vx
namespace Go.Vx
open Go.Sort
variable {α : Type} [Inhabited α] {lt L : α → α → Bool}
theorem insInner_perm (lt : α → α → Bool) (a b : Nat) : ∀ (j : Nat) (d : Array α), a ≤ j → j < b → b ≤ d.size → PermIn a b d (insInner lt a j d)
 | 0, d, _, _, _ => permIn_refl _ _ _
 | j + 1, d, h1, h2, h3 => by
   unfold insInner
   split
   · rename_i hc
     simp only [Bool.and_eq_true, decide_eq_true_eq] at hc
     exact permIn_trans _ _ _ _ _ (swp_permIn d a b (j + 1) j h1 h2 (by omega) (by omega) h3) (insInner_perm lt a b j _ (by omega) (by omega) (by rw [swp_size]; exact h3))
   · exact permIn_refl _ _ _
theorem insInner_congr (a : Nat) : ∀ (j : Nat) (d : Array α), j < d.size → (∀ p, a ≤ p → p < j → lt d[j]! d[p]! = L d[j]! d[p]!) → insInner lt a j d = insInner L a j d
 | 0, d, _, _ => rfl
 | j + 1, d, hs, h => by
   unfold insInner
   by_cases ha : j + 1 > a
   · rw [h j (by omega) (by omega)]
     have hr : insInner lt a j (swp d (j + 1) j) = insInner L a j (swp d (j + 1) j) := insInner_congr a j _ (by rw [swp_size]; omega) fun p q1 q2 => by
       rw [swp_get d hs (show j < d.size by omega), swp_get d hs (show j < d.size by omega), if_pos rfl, if_neg (by omega), if_neg (by omega)]
       exact h p q1 (by omega)
     rw [hr]
   · have : ∀ x : Bool, (decide (j + 1 > a) && x) = false := fun x => by simp [ha]
     rw [this, this]
     rfl
theorem insOuter_congr (a b : Nat) : ∀ (n i : Nat) (d : Array α), b - i = n → a < i → b ≤ d.size → (∀ p q, a ≤ p → p < q → i ≤ q → q < b → lt d[q]! d[p]! = L d[q]! d[p]!) → insOuter lt a b i d = insOuter L a b i d
 | 0, i, d, hn, _, _, _ => by rw [insOuter, if_neg (by omega), insOuter, if_neg (by omega)]
 | n + 1, i, d, hn, hai, hb, h => by
   rw [insOuter, if_pos (show i < b by omega)]
   conv => rhs; rw [insOuter, if_pos (show i < b by omega)]
   rw [insInner_congr a i d (by omega) fun p q1 q2 => h p i q1 q2 (Nat.le_refl _) (by omega)]
   have hP := insInner_perm L a (i + 1) i d (by omega) (by omega) (by omega)
   refine insOuter_congr a b n (i + 1) _ (by omega) (by omega) (by rw [hP.1]; exact hb) fun p q q1 q2 q3 q4 => ?_
   rw [hP.2.1 q (.inr q3)]
   by_cases hp : p < i + 1
   · exact permIn_all d _ a (i + 1) (fun x => lt d[q]! x = L d[q]! x) (by omega) hP (fun p' r1 r2 => h p' q r1 (by omega) (by omega) q4) p q1 hp
   · rw [hP.2.1 p (.inr (by omega))]; exact h p q q1 q2 (by omega) q4
theorem insertion_ok (hL : SWO L) {a b : Nat} {d : Array α} (hab : a ≤ b) (hb : b ≤ d.size) (h : ∀ p q, a ≤ p → p < q → q < b → lt d[q]! d[p]! = L d[q]! d[p]!) :
   PermIn a b d (insertionSort lt d a b) ∧ SortedIn L a b (insertionSort lt d a b) := by
 have : insertionSort lt d a b = insertionSort L d a b := insOuter_congr a b _ (a + 1) d rfl (by omega) hb fun p q q1 q2 _ q4 => h p q q1 q2 q4
 rw [this]
 exact insertionSort_holds hL d a b hab hb
def Unl (lt L : α → α → Bool) (n bs : Nat) (d : Array α) : Prop := ∀ i j, i / bs < j / bs → j < n → lt d[j]! d[i]! = L d[j]! d[i]!
theorem div_mid {bs k i lo hi : Nat} (hlo : lo = bs * k) (hhi : hi ≤ bs * (k + 1)) (h1 : lo ≤ i) (h2 : i < hi) : i / bs = k := by
 have hb : 0 < bs := by
   rcases Nat.eq_zero_or_pos bs with h | h
   · subst h; simp at hlo hhi; omega
   · exact h
 rw [Nat.div_eq_iff hb]
 rw [Nat.mul_add] at hhi
 rw [Nat.mul_comm k bs]
 omega
theorem Unl.perm {n bs k lo hi : Nat} {d d' : Array α} (h : Unl lt L n bs d) (hP : PermIn lo hi d d') (hlo : lo = bs * k) (hhi : hi ≤ bs * (k + 1)) (hn : hi ≤ n) (hs : n ≤ d.size) : Unl lt L n bs d' := by
 intro i j hij hj
 by_cases hii : lo ≤ i ∧ i < hi
 · have ei := div_mid hlo hhi hii.1 hii.2
   by_cases hjj : lo ≤ j ∧ j < hi
   · have ej := div_mid hlo hhi hjj.1 hjj.2
     omega
   · rw [hP.2.1 j (by omega)]
     exact permIn_all d d' lo _ (fun x => lt d[j]! x = L d[j]! x) (by omega) hP (fun i' r1 r2 => h i' j (by rw [div_mid hlo hhi r1 r2]; omega) hj) i hii.1 hii.2
 · rw [hP.2.1 i (by omega)]
   by_cases hjj : lo ≤ j ∧ j < hi
   · have ej := div_mid hlo hhi hjj.1 hjj.2
     exact permIn_all d d' lo _ (fun y => lt y d[i]! = L y d[i]!) (by omega) hP (fun j' r1 r2 => h i j' (by rw [div_mid hlo hhi r1 r2]; omega) (by omega)) j hjj.1 hjj.2
   · rw [hP.2.1 j (by omega)]; exact h i j hij hj
def BlkS (L : α → α → Bool) (n bs : Nat) (P : Nat → Prop) (d : Array α) : Prop := ∀ k, P k → SortedIn L (bs * k) (min (bs * (k + 1)) n) d
theorem SortedIn.other {lo hi a b : Nat} {d d' : Array α} (h : SortedIn L a b d) (hP : PermIn lo hi d d') (hd : b ≤ lo ∨ hi ≤ a) : SortedIn L a b d' := fun i j q1 q2 q3 => by
 rw [hP.2.1 i (by omega), hP.2.1 j (by omega)]; exact h i j q1 q2 q3
theorem blkF_ok (hL : SWO L) {n : Nat} : ∀ (f k : Nat) (d : Array α), 20 * k ≤ n → n - 20 * k < f → n ≤ d.size → Unl lt L n 20 d → BlkS L n 20 (fun j => j < k) d → (∀ p q, 20 * k ≤ p → p < q → q < n → lt d[q]! d[p]! = L d[q]! d[p]!) →
   PermIn 0 n d (blkF lt n f (20 * k) d) ∧ Unl lt L n 20 (blkF lt n f (20 * k) d) ∧ BlkS L n 20 (fun _ => True) (blkF lt n f (20 * k) d)
 | 0, k, d, h1, h2, _, _, _, _ => by omega
 | f + 1, k, d, h1, h2, hs, hu, hb, hr => by
   rw [blkF]
   by_cases hlt : 20 * k + 20 ≤ n
   · rw [if_pos hlt]
     obtain ⟨hP, hS⟩ := insertion_ok (lt := lt) hL (a := 20 * k) (b := 20 * k + 20) (d := d) (by omega) (by omega) fun p q q1 q2 q3 => hr p q q1 q2 (by omega)
     generalize insertionSort lt d (20 * k) (20 * k + 20) = d' at hP hS ⊢
     have ih := blkF_ok hL (n := n) f (k + 1) d' (by omega) (by omega) (by rw [hP.1]; exact hs) (hu.perm hP (k := k) rfl (by omega) hlt hs) (fun j hj => by
         by_cases hjk : j < k
         · exact SortedIn.other (hb j hjk) hP (.inl (by omega))
         · have : j = k := by omega
           subst this
           rw [show min (20 * (j + 1)) n = 20 * j + 20 by omega]; exact hS) (fun p q q1 q2 q3 => by rw [hP.2.1 p (by omega), hP.2.1 q (by omega)]; exact hr p q (by omega) q2 q3)
     rw [show 20 * (k + 1) = 20 * k + 20 by omega] at ih
     exact ⟨permIn_trans _ _ _ _ _ (permIn_mono _ _ _ _ 0 n (by omega) hlt hs hP) ih.1, ih.2⟩
   · rw [if_neg hlt]
     obtain ⟨hP, hS⟩ := insertion_ok (lt := lt) hL (a := 20 * k) (b := n) (d := d) (by omega) (by omega) fun p q q1 q2 q3 => hr p q q1 q2 q3
     refine ⟨permIn_mono _ _ _ _ 0 n (by omega) (Nat.le_refl _) hs hP, hu.perm hP (k := k) rfl (by omega) (Nat.le_refl _) hs, fun j _ => ?_⟩
     by_cases hjk : j < k
     · exact SortedIn.other (hb j hjk) hP (.inl (by omega))
     · by_cases hj : j = k
       · subst hj
         intro x y q1 q2 q3
         exact hS x y q1 q2 (by omega)
       · intro x y q1 q2 q3; omega
theorem mul2 (bs k : Nat) : 2 * bs * k = bs * (2 * k) := by rw [Nat.mul_comm 2 bs, Nat.mul_assoc]
theorem mrgF_ok (hL : SWO L) {n bs : Nat} (hbs : 1 ≤ bs) : ∀ (f k : Nat) (d : Array α), 2 * bs * k ≤ n → n - 2 * bs * k < f → n ≤ d.size → Unl lt L n (2 * bs) d → BlkS L n (2 * bs) (fun j => j < k) d → BlkS L n bs (fun j => 2 * k ≤ j) d →
   (∀ i j, 2 * bs * k ≤ i → i / bs < j / bs → j < n → lt d[j]! d[i]! = L d[j]! d[i]!) →
   PermIn 0 n d (mrgF lt n bs f (2 * bs * k) d) ∧ Unl lt L n (2 * bs) (mrgF lt n bs f (2 * bs * k) d) ∧ BlkS L n (2 * bs) (fun _ => True) (mrgF lt n bs f (2 * bs * k) d)
 | 0, k, d, h1, h2, _, _, _, _, _ => by omega
 | f + 1, k, d, h1, h2, hs, hu, hb, hc, hx => by
   rw [mrgF]
   have ek : 2 * bs * (k + 1) = 2 * bs * k + 2 * bs := by rw [Nat.mul_add, Nat.mul_one]
   have e0 : bs * (2 * k) = 2 * bs * k := (mul2 bs k).symm
   have e1 : bs * (2 * k + 1) = 2 * bs * k + bs := by rw [Nat.mul_add, e0, Nat.mul_one]
   have e2 : bs * (2 * k + 1 + 1) = 2 * bs * k + 2 * bs := by rw [Nat.mul_add, e1, Nat.mul_one]; omega
   have dl : ∀ i, 2 * bs * k ≤ i → i < 2 * bs * k + bs → i / bs = 2 * k := fun i q1 q2 => div_mid (lo := 2 * bs * k) (hi := 2 * bs * k + bs) e0.symm (by rw [e1]; exact Nat.le_refl _) q1 q2
   have dr : ∀ i, 2 * bs * k + bs ≤ i → i < 2 * bs * k + 2 * bs → i / bs = 2 * k + 1 := fun i q1 q2 => div_mid (lo := 2 * bs * k + bs) (hi := 2 * bs * k + 2 * bs) e1.symm (by rw [e2]; exact Nat.le_refl _) q1 q2
   have hl := hc (2 * k) (Nat.le_refl _)
   have hr := hc (2 * k + 1) (by omega)
   rw [e0, e1] at hl
   rw [e1, e2] at hr
   have old : ∀ (hi : Nat) (d' : Array α), PermIn (2 * bs * k) hi d d' → ∀ j, j < k → SortedIn L (2 * bs * j) (min (2 * bs * (j + 1)) n) d' := fun hi d' hP j hj => by
     refine SortedIn.other (hb j hj) hP (.inl ?_)
     have : 2 * bs * (j + 1) ≤ 2 * bs * k := Nat.mul_le_mul_left _ (by omega)
     omega
   by_cases hlt : 2 * bs * k + 2 * bs ≤ n
   · rw [if_pos hlt]
     obtain ⟨hP, hS⟩ := symF_ok (lt := lt) hL (2 * bs) (2 * bs * k) (2 * bs * k + bs) (2 * bs * k + 2 * bs) d (by omega) (by omega) (by omega) (by omega)
       (fun i j q1 q2 q3 q4 => hx i j q1 (by rw [dl i q1 q2, dr j q3 q4]; omega) (by omega)) (by rwa [Nat.min_eq_left (by omega)] at hl) (by rwa [Nat.min_eq_left (by omega)] at hr)
     generalize symF lt (2 * bs) (2 * bs * k) (2 * bs * k + bs) (2 * bs * k + 2 * bs) d = d' at hP hS ⊢
     have ih := mrgF_ok hL hbs (n := n) f (k + 1) d' (by rw [ek]; exact hlt) (by rw [ek]; omega) (by rw [hP.1]; exact hs) (hu.perm hP (k := k) rfl (by rw [ek]; exact Nat.le_refl _) hlt hs) (fun j hj => by
         by_cases hjk : j < k
         · exact old _ _ hP j hjk
         · have : j = k := by omega
           subst this
           rw [ek, Nat.min_eq_left hlt]; exact hS) (fun j hj => by
         refine SortedIn.other (hc j (by omega)) hP (.inr ?_)
         have : bs * (2 * k + 1 + 1) ≤ bs * j := Nat.mul_le_mul_left _ (by omega)
         omega) (fun i j q1 q2 q3 => by
         rw [ek] at q1
         have : i < j := by
           rcases Nat.lt_or_ge i j with h | h
           · exact h
           · have := Nat.div_le_div_right (c := bs) h; omega
         rw [hP.2.1 i (by omega), hP.2.1 j (by omega)]; exact hx i j (by omega) q2 q3)
     rw [ek] at ih
     exact ⟨permIn_trans _ _ _ _ _ (permIn_mono _ _ _ _ 0 n (by omega) hlt hs hP) ih.1, ih.2⟩
   · rw [if_neg hlt]
     by_cases hm : 2 * bs * k + bs < n
     · rw [if_pos hm]
       obtain ⟨hP, hS⟩ := symF_ok (lt := lt) hL (n - 2 * bs * k) (2 * bs * k) (2 * bs * k + bs) n d (by omega) (by omega) (by omega) (by omega)
         (fun i j q1 q2 q3 q4 => hx i j q1 (by rw [dl i q1 q2, dr j q3 (by omega)]; omega) (by omega)) (by rwa [Nat.min_eq_left (by omega)] at hl) (by rwa [Nat.min_eq_right (by omega)] at hr)
       refine ⟨permIn_mono _ _ _ _ 0 n (by omega) (Nat.le_refl _) hs hP, hu.perm hP (k := k) rfl (by rw [ek]; omega) (Nat.le_refl _) hs, fun j _ => ?_⟩
       by_cases hjk : j < k
       · exact old _ _ hP j hjk
       · by_cases hj : j = k
         · subst hj
           intro x y q1 q2 q3
           exact hS x y q1 q2 (by omega)
         · have : 2 * bs * (k + 1) ≤ 2 * bs * j := Nat.mul_le_mul_left _ (by omega)
           intro x y q1 q2 q3; omega
     · rw [if_neg hm]
       refine ⟨permIn_refl _ _ _, hu, fun j _ => ?_⟩
       by_cases hjk : j < k
       · exact hb j hjk
       · by_cases hj : j = k
         · subst hj
           intro x y q1 q2 q3
           exact hl x y q1 q2 (by omega)
         · have : 2 * bs * (k + 1) ≤ 2 * bs * j := Nat.mul_le_mul_left _ (by omega)
           intro x y q1 q2 q3; omega
theorem stbF_ok (hL : SWO L) {n : Nat} : ∀ (f bs : Nat) (d : Array α), 1 ≤ bs → n - bs < f → n ≤ d.size → Unl lt L n bs d → BlkS L n bs (fun _ => True) d → PermIn 0 n d (stbF lt n f bs d) ∧ SortedIn L 0 n (stbF lt n f bs d)
 | 0, bs, d, _, h, _, _, _ => by omega
 | f + 1, bs, d, h1, hf, hs, hu, hb => by
   rw [stbF]
   by_cases hlt : bs < n
   · rw [if_pos hlt]
     obtain ⟨m1, m2, m3⟩ := mrgF_ok (lt := lt) hL h1 (n := n) (n + 1) 0 d (by omega) (by omega) hs (fun i j q1 q2 => hu i j (by
         rw [Nat.mul_comm 2 bs, ← Nat.div_div_eq_div_mul, ← Nat.div_div_eq_div_mul] at q1; omega) q2) (fun j hj => by omega) (fun j _ => hb j trivial) (fun i j _ q2 q3 => hu i j q2 q3)
     rw [Nat.mul_zero] at m1 m2 m3
     obtain ⟨p1, p2⟩ := stbF_ok hL (n := n) f (2 * bs) _ (by omega) (by omega) (by rw [m1.1]; exact hs) m2 m3
     exact ⟨permIn_trans _ _ _ _ _ m1 p1, p2⟩
   · rw [if_neg hlt]
     refine ⟨permIn_refl _ _ _, ?_⟩
     have := hb 0 trivial
     rw [Nat.mul_zero, Nat.min_eq_right (by omega)] at this
     exact this
theorem stable_ok (hL : SWO L) {n : Nat} {d : Array α} (hs : n ≤ d.size) (h : ∀ i j, i < j → j < n → lt d[j]! d[i]! = L d[j]! d[i]!) : PermIn 0 n d (stableF lt n d) ∧ SortedIn L 0 n (stableF lt n d) := by
 unfold stableF
 obtain ⟨b1, b2, b3⟩ := blkF_ok (lt := lt) hL (n := n) (n + 1) 0 d (by omega) (by omega) hs (fun i j q1 q2 => h i j (by
     rcases Nat.lt_or_ge i j with h | h
     · exact h
     · have := Nat.div_le_div_right (c := 20) h; omega) q2) (fun j hj => by omega) (fun p q _ q2 q3 => h p q q2 q3)
 rw [Nat.mul_zero] at b1 b2 b3
 obtain ⟨p1, p2⟩ := stbF_ok (lt := lt) hL (n := n) (n + 1) 20 _ (by omega) (by omega) (by rw [b1.1]; exact hs) b2 b3
 exact ⟨permIn_trans _ _ _ _ _ b1 p1, p2⟩
end Go.Vx
namespace Go.Vx
open Go.RowKit Go.Sort
variable {α : Type} [Inhabited α]
structure Srt (P : Program) (I : World → Array α → Prop) (blk sz : Nat) (lt : α → α → Bool) (g : Nat) (lb : Array Value) (sf : Nat) (sb : Array Value) : Prop where
 eg : ∀ args w, (callFunc g args).run P w = .ok (.enter g args) w
 small : sz < 4611686018427387904
 inw : ∀ {w d}, I w d → blk < w.heap.size
 size : ∀ {w d}, I w d → d.size = sz
 alloc : ∀ {w d} (o : Obj), I w d → I (w.alloc o) d
 drew : ∀ {w d} (q : Nat), I w d → I (w.drewN q) d
 less : ∀ {w d}, I w d → ∀ i j : Nat, i < sz → j < sz → Calls P g (#[.int .i64 i, .int .i64 j] ++ lb) w fun e w' => e = .returned (.bool (lt d[i]! d[j]!)) ∧ I w' d ∧ Below w.heap.size w w'
 swap : ∀ {w d}, I w d → ∀ i j : Nat, i < sz → j < sz → i ≠ j → ∃ w', (callFunc sf (#[.int .i64 i, .int .i64 j] ++ sb)).run P w = .ok (.value (.tuple #[])) w' ∧ I w' (swp d i j) ∧ Fr w [blk] w' ∧ w'.heap.size = w.heap.size
section
variable {P : Program} {I : World → Array α → Prop} {blk sz : Nat} {lt : α → α → Bool} {g : Nat} {lb : Array Value} {sf : Nat} {sb : Array Value}
theorem fr_refl (w : World) (X : List Nat) : Fr w X w := ⟨rfl, rfl, rfl, Nat.le_refl _, fun _ _ _ => rfl⟩
theorem fr_trans {w w' w'' : World} {X : List Nat} (h : Fr w X w') (h' : Fr w' X w'') : Fr w X w'' :=
 ⟨h'.os.trans h.os, h'.tape.trans h.tape, h'.output.trans h.output, Nat.le_trans h.size h'.size, fun k hk hx => (h'.block k (Nat.lt_of_lt_of_le hk h.size) hx).trans (h.block k hk hx)⟩
theorem fr_below {w w' : World} {X : List Nat} (h : Below w.heap.size w w') : Fr w X w' := ⟨h.os, h.tape, h.output, h.size, fun k hk _ => h.block k hk⟩
theorem fr_alloc' (w : World) (o : Obj) (X : List Nat) : Fr w X (w.alloc o) := fr_below ((Below.refl _ _).alloc (Nat.le_refl _) o)
theorem fr_drew (w : World) (q : Nat) (X : List Nat) : Fr w X (w.drewN q) := ⟨rfl, rfl, rfl, Nat.le_refl _, fun _ _ _ => rfl⟩
theorem fr_cell {w w' : World} {X : List Nat} (h : Fr w X w') {b o : Nat} {v : Value} (hb : b ∉ X) (hc : w.cell? ⟨b, o, none⟩ = some v) : w'.cell? ⟨b, o, none⟩ = some v := by
 rw [World.cell?_of_block (w := w) (h.block b (cell_lt hc) hb)]; exact hc
structure Bx (blk bx : Nat) (lb : Array Value) (g sf : Nat) (sb : Array Value) (W w : World) : Prop where
 ne : bx ≠ blk
 fr : Fr W [blk] w
 c0 : w.cell? ⟨bx, 0, none⟩ = some (.func (.func g) #[] lb)
 c1 : w.cell? ⟨bx, 1, none⟩ = some (.func (.func sf) #[] sb)
theorem Bx.start (S : Srt P I blk sz lt g lb sf sb) {w : World} {d : Array α} (h : I w d) (t : TypeId) : Bx blk w.heap.size lb g sf sb w (w.alloc (.cells #[.func (.func g) #[] lb, .func (.func sf) #[] sb] t)) :=
 ⟨Nat.ne_of_gt (S.inw h), fr_alloc' _ _ _, by simp, by simp⟩
theorem Bx.on {bx : Nat} {W w w' : World} (h : Bx blk bx lb g sf sb W w) (hf : Fr w [blk] w') : Bx blk bx lb g sf sb W w' :=
 ⟨h.ne, fr_trans h.fr hf, fr_cell hf (by simpa using h.ne) h.c0, fr_cell hf (by simpa using h.ne) h.c1⟩
end
section
variable {β : Type} [Inhabited β]
def posR (p : β → Bool) (l : List β) : Nat → Nat
 | 0 => 0
 | k + 1 => if p (l.getD k default) = true then posR p l k else k + 1
def insR (lt : β → β → Bool) (l : List β) (x : β) : List β := l.take (posR (lt x) l l.length) ++ x :: l.drop (posR (lt x) l l.length)
def stS (lt : β → β → Bool) (l : List β) : List β := l.foldl (insR lt) []
theorem posR_le (p : β → Bool) (l : List β) : ∀ k, posR p l k ≤ k
 | 0 => Nat.le_refl _
 | k + 1 => by
   rw [posR]
   split
   · have := posR_le p l k; omega
   · exact Nat.le_refl _
theorem posR_up (p : β → Bool) (l : List β) : ∀ k j, posR p l k ≤ j → j < k → p (l.getD j default) = true
 | 0, j, _, h => by omega
 | k + 1, j, h1, h2 => by
   rw [posR] at h1
   split at h1
   · rename_i hp
     by_cases hj : j = k
     · rw [hj]; exact hp
     · exact posR_up p l k j h1 (by omega)
   · omega
theorem posR_at (p : β → Bool) (l : List β) : ∀ k, 0 < posR p l k → p (l.getD (posR p l k - 1) default) = false
 | 0, h => by simp [posR] at h
 | k + 1, h => by
   rw [posR] at h ⊢
   split
   · rename_i hp
     rw [if_pos hp] at h
     exact posR_at p l k h
   · rename_i hp
     simpa using hp
theorem length_insR (lt : β → β → Bool) (l : List β) (x : β) : (insR lt l x).length = l.length + 1 := by
 have := posR_le (lt x) l l.length
 unfold insR
 simp only [List.length_append, List.length_take, List.length_cons, List.length_drop]
 omega
theorem insR_perm (lt : β → β → Bool) (l : List β) (x : β) : (insR lt l x).Perm (x :: l) := by
 unfold insR
 refine List.perm_middle.trans ?_
 rw [List.take_append_drop]
theorem insR_sorted {lt L : β → β → Bool} (hL : SWO L) {l : List β} {x : β} (hs : l.Pairwise fun a b => L b a = false) (hx : ∀ y, y ∈ l → lt x y = L x y) : (insR lt l x).Pairwise fun a b => L b a = false := by
 have hle := posR_le (lt x) l l.length
 have hup := posR_up (lt x) l l.length
 have hat := posR_at (lt x) l l.length
 unfold insR
 generalize posR (lt x) l l.length = k at *
 have hsp := hs
 rw [← List.take_append_drop k l] at hsp
 obtain ⟨s1, s2, s3⟩ := List.pairwise_append.1 hsp
 have hd : ∀ b, b ∈ l.drop k → L x b = true := fun b hb => by
   obtain ⟨j, hj, rfl⟩ := List.getElem_of_mem hb
   rw [List.getElem_drop]
   rw [List.length_drop] at hj
   have := hup (k + j) (by omega) (by omega)
   rw [List.getD_eq_getElem?_getD, List.getElem?_eq_getElem (by omega), Option.getD_some] at this
   rw [← hx _ (List.getElem_mem _)]
   exact this
 have ht : ∀ a, a ∈ l.take k → L x a = false := fun a ha => by
   obtain ⟨j, hj, rfl⟩ := List.getElem_of_mem ha
   rw [List.getElem_take]
   rw [List.length_take] at hj
   have h0 := hat (by omega)
   rw [List.getD_eq_getElem?_getD, List.getElem?_eq_getElem (by omega), Option.getD_some, hx _ (List.getElem_mem _)] at h0
   by_cases hjk : j = k - 1
   · subst hjk; exact h0
   · exact hL.ntrans _ _ _ h0 (List.pairwise_iff_getElem.1 hs j (k - 1) (by omega) (by omega) (by omega))
 refine List.pairwise_append.2 ⟨s1, List.pairwise_cons.2 ⟨fun b hb => hL.asymmA (hd b hb), s2⟩, fun a ha b hb => ?_⟩
 rcases List.mem_cons.1 hb with rfl | hb
 · exact ht a ha
 · exact s3 a ha b hb
theorem stS_all {lt L : β → β → Bool} (hL : SWO L) : ∀ (l acc : List β), (acc.Pairwise fun a b => L b a = false) → (l.Pairwise fun a b => lt b a = L b a) → (∀ x, x ∈ l → ∀ y, y ∈ acc → lt x y = L x y) →
   (l.foldl (insR lt) acc).Perm (acc ++ l) ∧ (l.foldl (insR lt) acc).Pairwise fun a b => L b a = false
 | [], acc, hs, _, _ => ⟨by simp, hs⟩
 | x :: l, acc, hs, hl, hx => by
   rw [List.foldl_cons]
   obtain ⟨h1, h2⟩ := List.pairwise_cons.1 hl
   have hp := insR_perm lt acc x
   obtain ⟨q1, q2⟩ := stS_all hL l (insR lt acc x) (insR_sorted hL hs (hx x (by simp))) h2 fun y hy z hz => by
     rcases List.mem_cons.1 (hp.mem_iff.1 hz) with rfl | hz
     · exact h1 y hy
     · exact hx y (by simp [hy]) z hz
   refine ⟨q1.trans ?_, q2⟩
   exact (hp.append_right l).trans (List.perm_middle.symm)
theorem posR_map {γ : Type} [Inhabited γ] (f : β → γ) (p : γ → Bool) (l : List β) : ∀ k, k ≤ l.length → posR p (l.map f) k = posR (fun x => p (f x)) l k
 | 0, _ => rfl
 | k + 1, h => by
   have e : (l.map f).getD k default = f (l.getD k default) := by
     rw [List.getD_eq_getElem?_getD, List.getD_eq_getElem?_getD, List.getElem?_map, List.getElem?_eq_getElem (by omega)]
     rfl
   rw [posR, posR, e, posR_map f p l k (by omega)]
theorem insR_map {γ : Type} [Inhabited γ] (f : β → γ) (lt : γ → γ → Bool) (l : List β) (x : β) : (insR (fun a b => lt (f a) (f b)) l x).map f = insR lt (l.map f) (f x) := by
 unfold insR
 rw [List.length_map, posR_map f _ l _ (Nat.le_refl _)]
 simp only [List.map_append, List.map_take, List.map_cons, List.map_drop]
theorem stS_map {γ : Type} [Inhabited γ] (f : β → γ) (lt : γ → γ → Bool) (l : List β) : (stS (fun a b => lt (f a) (f b)) l).map f = stS lt (l.map f) := by
 unfold stS
 have : ∀ (l acc : List β), (l.foldl (insR fun a b => lt (f a) (f b)) acc).map f = (l.map f).foldl (insR lt) (acc.map f) := by
   intro l
   induction l with
   | nil => intro acc; rfl
   | cons x l ih => intro acc; rw [List.foldl_cons, ih, List.map_cons, List.foldl_cons, insR_map]
 exact this l []
end
def tagL {β : Type} (lt : β → β → Bool) (p q : β × Nat) : Bool := lt p.1 q.1 || (!lt q.1 p.1 && decide (p.2 < q.2))
theorem tagL_swo {β : Type} {lt : β → β → Bool} (h : SWO lt) : SWO (tagL lt) := by
 refine ⟨fun x => by simp [tagL, h.irrefl], fun x y z hxy hyz => ?_, fun x y z hxy hyz => ?_⟩
 · simp only [tagL, Bool.or_eq_true, Bool.and_eq_true, Bool.not_eq_true', decide_eq_true_eq] at *
   rcases hxy with hxy | ⟨hxy, h1⟩
   · rcases hyz with hyz | ⟨hyz, h2⟩
     · exact .inl (h.trans _ _ _ hxy hyz)
     · left
       cases hxz : lt x.1 z.1 with
       | true => rfl
       | false =>
         have := h.ntrans _ _ _ hxz hyz
         rw [this] at hxy; cases hxy
   · rcases hyz with hyz | ⟨hyz, h2⟩
     · left
       cases hxz : lt x.1 z.1 with
       | true => rfl
       | false =>
         have := h.ntrans _ _ _ hxy hxz
         rw [this] at hyz; cases hyz
     · by_cases hxz : lt x.1 z.1 = true
       · exact .inl hxz
       · exact .inr ⟨h.ntrans _ _ _ hyz hxy, by omega⟩
 · simp only [tagL, Bool.or_eq_false_iff, Bool.and_eq_false_imp, Bool.not_eq_true', decide_eq_false_iff_not] at *
   refine ⟨h.ntrans _ _ _ hxy.1 hyz.1, fun hzx => ?_⟩
   have h1 : lt y.1 x.1 = false := by
     cases hyx : lt y.1 x.1 with
     | false => rfl
     | true =>
       have : lt z.1 x.1 = true := by
         cases hq : lt z.1 x.1 with
         | true => rfl
         | false =>
           have := h.ntrans _ _ _ hyz.1 hq
           rw [this] at hyx; cases hyx
       rw [this] at hzx; cases hzx
   have h2 : lt z.1 y.1 = false := by
     cases hzy : lt z.1 y.1 with
     | false => rfl
     | true =>
       have := h.ntrans _ _ _ hzx hxy.1
       rw [this] at hzy; cases hzy
   have h3 := hxy.2 h1
   have h4 := hyz.2 h2
   omega
theorem stable_stS {β : Type} [Inhabited β] {lt : β → β → Bool} (h : SWO lt) {d : Array (β × Nat)} (ht : ∀ i j, i < j → j < d.size → d[i]!.2 < d[j]!.2) :
   ((stableF (fun p q => lt p.1 q.1) d.size d).toList.map Prod.fst) = stS lt (d.toList.map Prod.fst) := by
 have hL := tagL_swo h
 have hag : ∀ i j, i < j → j < d.size → (fun p q : β × Nat => lt p.1 q.1) d[j]! d[i]! = tagL lt d[j]! d[i]! := fun i j hij hj => by
   have := ht i j hij hj
   have hn : decide (d[j]!.2 < d[i]!.2) = false := by simp; omega
   simp only [tagL, hn, Bool.and_false, Bool.or_false]
 obtain ⟨hP, hS⟩ := stable_ok (lt := fun p q : β × Nat => lt p.1 q.1) hL (n := d.size) (d := d) (Nat.le_refl _) hag
 have hsz : (stableF (fun p q : β × Nat => lt p.1 q.1) d.size d).size = d.size := hP.1
 have hget : ∀ (e : Array (β × Nat)) (i : Nat) (hi : i < e.size), e.toList[i]'(by simpa using hi) = e[i]! := fun e i hi => by
   rw [getElem!_pos e i hi]; simp
 have hperm : (stableF (fun p q : β × Nat => lt p.1 q.1) d.size d).toList.Perm d.toList := by
   have := hP.2.2
   have e1 : (stableF (fun p q : β × Nat => lt p.1 q.1) d.size d).extract 0 d.size = stableF (fun p q : β × Nat => lt p.1 q.1) d.size d := by
     have := Array.extract_size (xs := stableF (fun p q : β × Nat => lt p.1 q.1) d.size d)
     rwa [hsz] at this
   rwa [e1, Array.extract_size] at this
 have hsort : (stableF (fun p q : β × Nat => lt p.1 q.1) d.size d).toList.Pairwise fun a b => tagL lt b a = false := by
   rw [List.pairwise_iff_getElem]
   intro i j hi hj hij
   have hi' : i < (stableF (fun p q : β × Nat => lt p.1 q.1) d.size d).size := by simpa using hi
   have hj' : j < (stableF (fun p q : β × Nat => lt p.1 q.1) d.size d).size := by simpa using hj
   rw [hget _ i hi', hget _ j hj']
   exact hS i j (Nat.zero_le _) hij (by rw [← hsz]; exact hj')
 obtain ⟨q1, q2⟩ := stS_all (lt := fun p q : β × Nat => lt p.1 q.1) hL d.toList [] List.Pairwise.nil (by
   rw [List.pairwise_iff_getElem]
   intro i j hi hj hij
   have hi' : i < d.size := by simpa using hi
   have hj' : j < d.size := by simpa using hj
   rw [hget _ i hi', hget _ j hj']
   exact hag i j hij hj') (fun x _ y hy => by simp at hy)
 rw [List.nil_append] at q1
 have heq : (stableF (fun p q : β × Nat => lt p.1 q.1) d.size d).toList = stS (fun p q : β × Nat => lt p.1 q.1) d.toList := by
   refine List.Perm.eq_of_pairwise (le := fun x y => tagL lt y x = false) (fun a b ha hb h1 h2 => ?_) hsort q2 (hperm.trans q1.symm)
   have ha' := hperm.mem_iff.1 ha
   have hb' := q1.mem_iff.1 hb
   obtain ⟨i, hi, rfl⟩ := List.getElem_of_mem ha'
   obtain ⟨j, hj, rfl⟩ := List.getElem_of_mem hb'
   have hi' : i < d.size := by simpa using hi
   have hj' : j < d.size := by simpa using hj
   rw [hget _ i hi', hget _ j hj'] at h1 h2 ⊢
   simp only [tagL, Bool.or_eq_false_iff, Bool.and_eq_false_imp, Bool.not_eq_true', decide_eq_false_iff_not] at h1 h2
   have a1 := h1.2 h2.1
   have a2 := h2.2 h1.1
   rcases Nat.lt_trichotomy i j with hij | hij | hij
   · have := ht i j hij hj'; omega
   · rw [hij]
   · have := ht j i hij hi'; omega
 rw [heq]
 exact stS_map Prod.fst lt d.toList
end Go.Vx
namespace Go.Vx
open Go.RowKit Go.Sort
theorem cell_in {w : World} {b : Nat} {cur : Array Value} {e : TypeId} (h : w.heap[b]? = some (.cells cur e (0, 0))) (p : Nat) : w.cell? ⟨b, p, none⟩ = cur[p]? := by
 simp [World.cell?, h]
theorem frozen_in {w : World} {b : Nat} {cur : Array Value} {e : TypeId} (h : w.heap[b]? = some (.cells cur e (0, 0))) (p : Nat) : w.frozen? ⟨b, p, none⟩ = false := by
 simp [World.frozen?, h]
theorem setCells_in {b : Nat} {e : TypeId} : ∀ (vs : List Value) (s : Nat) {w : World} {cur : Array Value}, w.heap[b]? = some (.cells cur e (0, 0)) →
   (w.setCells b s vs).heap[b]? = some (.cells (setMany cur s vs) e (0, 0)) ∧ (∀ k, k ≠ b → (w.setCells b s vs).heap[k]? = w.heap[k]?) ∧ (w.setCells b s vs).heap.size = w.heap.size ∧ (w.setCells b s vs).os = w.os ∧ (w.setCells b s vs).tape = w.tape ∧ (w.setCells b s vs).output = w.output
 | [], s, w, cur, h => ⟨h, fun _ _ => rfl, rfl, rfl, rfl, rfl⟩
 | v :: r, s, w, cur, h => by
   have h1 : (w.setCell ⟨b, s, none⟩ v).heap[b]? = some (.cells (cur.setIfInBounds s v) e (0, 0)) := by
     simp only [World.setCell, Array.getElem?_modify, if_pos, h, Option.map_some]
     rfl
   obtain ⟨q1, q2, q3, q4, q5, q6⟩ := setCells_in (e := e) r (s + 1) h1
   refine ⟨q1, fun k hk => (q2 k hk).trans (Below.heap_setCell w ⟨b, s, none⟩ v k hk), q3.trans (by simp [World.setCell]), q4, q5, q6⟩
abbrev El := (List Value × List D × List Nat) × Nat
def encE (k : Nat) (x : El) : List Value := (x.1.1 ++ List.replicate k undef).take k
theorem encE_len (k : Nat) (x : El) : (encE k x).length = k := by simp [encE]
theorem encE_eq {k : Nat} {x : El} (h : x.1.1.length = k) : encE k x = x.1.1 := by
 unfold encE
 rw [List.take_append_of_le_length (by omega), List.take_of_length_le (by omega)]
structure RowsIn (w0 : World) (b cap n k : Nat) (e : TypeId) (Q : El → Prop) (w : World) (d : Array El) : Prop where
 fr : Fr w0 [b] w
 size : d.size = n
 all : ∀ i, i < n → Q d[i]!
 mem : ∃ cur, w.heap[b]? = some (.cells cur e (0, 0)) ∧ cur.size = cap * k ∧ ∀ t, t < n * k → cur[t]! = (flatK (encE k) k d)[t]!
theorem RowsIn.below {w0 : World} {b cap n k : Nat} {e : TypeId} {Q : El → Prop} {w w' : World} {d : Array El} (h : RowsIn w0 b cap n k e Q w d) (hb : Below w.heap.size w w') : RowsIn w0 b cap n k e Q w' d := by
 obtain ⟨cur, h1, h2, h3⟩ := h.mem
 exact ⟨fr_trans h.fr (fr_below hb), h.size, h.all, cur, by rw [hb.block b (Array.getElem?_eq_some_iff.1 h1).1]; exact h1, h2, h3⟩
theorem RowsIn.cell {w0 : World} {b cap n k : Nat} {e : TypeId} {Q : El → Prop} {w : World} {d : Array El} (h : RowsIn w0 b cap n k e Q w d) (hn : n ≤ cap) {i c : Nat} (hi : i < n) (hc : c < k) : w.cell? ⟨b, i * k + c, none⟩ = (encE k d[i]!)[c]? := by
 obtain ⟨cur, h1, h2, h3⟩ := h.mem
 have lt : i * k + c < n * k := by
   have := Nat.mul_le_mul_right k (show i + 1 ≤ n from hi); rw [Nat.add_mul, Nat.one_mul] at this; omega
 have lt' : i * k + c < cur.size := by rw [h2]; exact Nat.lt_of_lt_of_le lt (Nat.mul_le_mul_right k hn)
 have e1 : (i * k + c) / k = i := (blk_iff k i _ (by omega)).1 ⟨by omega, by omega⟩
 have e2 : (i * k + c) % k = c := by rw [Nat.mod_eq_sub_div_mul, e1]; omega
 have := h3 _ lt
 rw [get_flatK _ _ _ _ (by rw [h.size]; exact lt), e1, e2] at this
 rw [cell_in h1, Array.getElem?_eq_getElem lt', ← getElem!_pos cur _ lt', this, List.getElem?_eq_getElem (by rw [encE_len]; exact hc)]
 rw [getElem!_pos _ _ (by rw [encE_len]; exact hc)]
theorem srt_rows {P : Program} {w0 : World} {b cap n k : Nat} {e : TypeId} {Q : El → Prop} (hn : n ≤ cap) (hsm : n < 4611686018427387904) {lt : El → El → Bool} {g : Nat} {lb : Array Value} {sf : Nat} {sb : Array Value}
   (eg : ∀ args w, (callFunc g args).run P w = .ok (.enter g args) w)
   (hone : ∀ x, Q x → ∀ v, v ∈ encE k x → v.oneCell' = true)
   (hless : ∀ {w d}, RowsIn w0 b cap n k e Q w d → ∀ i j : Nat, i < n → j < n → Calls P g (#[.int .i64 i, .int .i64 j] ++ lb) w fun e w' => e = .returned (.bool (lt d[i]! d[j]!)) ∧ Below w.heap.size w w')
   (hswap : ∀ (W : World) (X Y : List Value) (i j : Nat), i < n → j < n → i ≠ j → X.length = k → Y.length = k → (∀ v, v ∈ X → v.oneCell' = true) → (∀ v, v ∈ Y → v.oneCell' = true) →
     (∀ u v, X[u]? = some v → W.cell? ⟨b, i * k + u, none⟩ = some v) → (∀ u v, Y[u]? = some v → W.cell? ⟨b, j * k + u, none⟩ = some v) → (∀ p, W.frozen? ⟨b, p, none⟩ = false) →
     (callFunc sf (#[.int .i64 i, .int .i64 j] ++ sb)).run P W = .ok (.value (.tuple #[])) ((W.setCells b (i * k) Y).setCells b (j * k) X)) :
   Srt P (RowsIn w0 b cap n k e Q) b n lt g lb sf sb where
 eg := eg
 small := hsm
 inw := fun h => by obtain ⟨cur, h1, _⟩ := h.mem; exact (Array.getElem?_eq_some_iff.1 h1).1
 size := fun h => h.size
 alloc := fun {w d} o h => h.below ((Below.refl _ _).alloc (Nat.le_refl _) o)
 drew := fun {w d} q h => h.below ⟨rfl, rfl, rfl, Nat.le_refl _, fun _ _ => rfl⟩
 less := fun {w d} h i j hi hj => (hless h i j hi hj).mono fun _ _ ⟨q1, q2⟩ => ⟨q1, h.below q2, q2⟩
 swap := fun {w d} h i j hi hj hij => by
   obtain ⟨cur, h1, h2, h3⟩ := h.mem
   have hcell : ∀ x, x < n → ∀ u v, (encE k d[x]!)[u]? = some v → w.cell? ⟨b, x * k + u, none⟩ = some v := fun x hx u v hu => by
     rw [h.cell hn hx (by have := (List.getElem?_eq_some_iff.1 hu).1; rwa [encE_len] at this)]; exact hu
   have hr := hswap w (encE k d[i]!) (encE k d[j]!) i j hi hj hij (encE_len _ _) (encE_len _ _) (hone _ (h.all i hi)) (hone _ (h.all j hj)) (hcell i hi) (hcell j hj) (frozen_in h1)
   obtain ⟨a1, a2, a3, a4, a5, a6⟩ := setCells_in (e := e) (encE k d[j]!) (i * k) h1
   obtain ⟨b1, b2, b3, b4, b5, b6⟩ := setCells_in (e := e) (encE k d[i]!) (j * k) a1
   have hf : Fr w [b] ((w.setCells b (i * k) (encE k d[j]!)).setCells b (j * k) (encE k d[i]!)) :=
     ⟨b4.trans a4, b5.trans a5, b6.trans a6, by rw [b3, a3]; exact Nat.le_refl _, fun q _ hq => (b2 q (by simpa using hq)).trans (a2 q (by simpa using hq))⟩
   have hdi : i < d.size := by rw [h.size]; exact hi
   have hdj : j < d.size := by rw [h.size]; exact hj
   refine ⟨_, hr, ⟨fr_trans h.fr hf, by rw [swp_size]; exact h.size, fun q hq => ?_, _, b1, by rw [size_setMany, size_setMany]; exact h2, fun t ht => ?_⟩, hf, by rw [b3, a3]⟩
   · rw [swp_get d hdi hdj]
     split
     · exact h.all i hi
     · split
       · exact h.all j hj
       · exact h.all q hq
   · have hts : t < cur.size := by rw [h2]; exact Nat.lt_of_lt_of_le ht (Nat.mul_le_mul_right k hn)
     have htf : t < (flatK (encE k) k d).size := by rw [size_flatK, h.size]; exact ht
     rw [get_setMany _ _ _ t (by rw [size_setMany]; exact hts), get_setMany _ _ _ t hts, ← setMany_swp (encE k) k (encE_len k) d i j hdi hdj, get_setMany _ _ _ t (by rw [size_setMany]; exact htf), get_setMany _ _ _ t htf, h3 t ht]
section
variable {w0 : World} {M : Nat → Nat → Prop} {t : TypeId} {ks : List K} {dp : Bool} {xs : List (List D)} {F : List Nat} {b cap n : Nat}
def ElOk (w0 : World) (M : Nat → Nat → Prop) (ks : List K) (dp : Bool) (b : Nat) (x : El) : Prop := x.1.1.length = ks.length ∧ (if dp then RepDs w0 ks x.1.1 x.1.2.1 x.1.2.2 ∧ b ∉ x.1.2.2 else RepCs w0 M ks x.1.1 x.1.2.1 ∧ x.1.2.2 = [])
theorem own_rows (h : OwnRep w0 M t ks dp (.slice (some ⟨b, 0, none⟩) n cap) xs F) (hF : F.Nodup) : n = xs.length ∧ n ≤ cap ∧ n ≤ lenMax ∧ ∃ d : Array El, RowsIn w0 b cap n ks.length t (ElOk w0 M ks dp b) w0 d ∧ d.toList.map (fun x => x.1.2.1) = xs ∧ F = b :: (d.toList.map fun x => x.1.2.2).flatten ∧
   ∀ i j, i < j → j < d.size → d[i]!.2 < d[j]!.2 := by
 obtain ⟨vss, fps, h1, h2, h3, h4, h5, h6⟩ := h
 rcases h1.2 with ⟨e, _⟩ | ⟨gg, cp, cur, e, _, hg, hnc, hcm, hcs, htk⟩
 · cases e
 simp only [Value.slice.injEq, Option.some.injEq, Addr.mk.injEq, and_true] at e
 obtain ⟨rfl, rfl, rfl⟩ := e
 have hlen : ∀ vs ∈ vss, vs.length = ks.length := by
   intro vs hv
   obtain ⟨i, hi⟩ := List.getElem?_of_mem hv
   have hlt := (List.getElem?_eq_some_iff.1 hi).1
   have := h6 i xs[i] vs fps[i] (List.getElem?_eq_getElem (by omega)) hi (List.getElem?_eq_getElem (by omega))
   split at this
   · exact this.length
   · exact this.1.length
 have hFc : F = b :: fps.flatten := by rw [h5]; rfl
 rw [hFc] at hF
 have hbn := (List.nodup_cons.1 hF).1
 let d : Array El := (Array.range xs.length).map fun i => ((vss.getD i [], xs.getD i [], fps.getD i []), i)
 have hds : d.size = xs.length := by simp [d]
 have hdg : ∀ i, i < xs.length → d[i]! = ((vss.getD i [], xs.getD i [], fps.getD i []), i) := fun i hi => by
   rw [getElem!_pos d i (by rw [hds]; exact hi)]; simp [d]
 have hdl : d.toList = (List.range xs.length).map fun i => ((vss.getD i [], xs.getD i [], fps.getD i []), i) := by simp [d, Array.toList_range]
 refine ⟨rfl, hnc, h2, d, ⟨fr_refl _ _, hds, fun i hi => ?_, cur, hg, hcs, fun q hq => ?_⟩, ?_, ?_, fun i j hij hj => ?_⟩
 · rw [hdg i hi]
   have e1 : vss[i]? = some (vss.getD i []) := by rw [List.getD_eq_getElem?_getD, List.getElem?_eq_getElem (by omega)]; rfl
   have e2 : xs[i]? = some (xs.getD i []) := by rw [List.getD_eq_getElem?_getD, List.getElem?_eq_getElem (by omega)]; rfl
   have e3 : fps[i]? = some (fps.getD i []) := by rw [List.getD_eq_getElem?_getD, List.getElem?_eq_getElem (by omega)]; rfl
   refine ⟨hlen _ (List.mem_of_getElem? e1), ?_⟩
   have := h6 i _ _ _ e2 e1 e3
   split at this
   · rename_i hd
     rw [if_pos hd]
     exact ⟨this, fun hb => hbn (List.mem_flatten.2 ⟨_, List.mem_of_getElem? e3, hb⟩)⟩
   · rename_i hd
     rw [if_neg hd]
     exact this
 · have hk : 0 < ks.length := by
     rcases Nat.eq_zero_or_pos ks.length with h | h
     · rw [h] at hq; simp at hq
     · exact h
   have hq1 : q / ks.length < xs.length := (Nat.div_lt_iff_lt_mul hk).2 hq
   have hq2 := Nat.mod_lt q hk
   rw [get_flatK _ _ _ _ (by rw [hds]; exact hq), hdg _ hq1]
   have e1 : vss[q / ks.length]? = some (vss.getD (q / ks.length) []) := by rw [List.getD_eq_getElem?_getD, List.getElem?_eq_getElem (by omega)]; rfl
   have hl1 := hlen _ (List.mem_of_getElem? e1)
   rw [encE_eq hl1]
   have hqc : q < cur.size := by rw [hcs]; exact Nat.lt_of_lt_of_le hq (Nat.mul_le_mul_right _ hnc)
   have := flatten_get ks.length vss hlen (q / ks.length) _ (q % ks.length) _ e1 (List.getElem?_eq_getElem (by rw [hl1]; exact hq2))
   rw [show q / ks.length * ks.length + q % ks.length = q by rw [Nat.mul_comm]; exact Nat.div_add_mod q _, ← htk, List.getElem?_take, if_pos hq] at this
   rw [getElem!_pos cur q hqc, getElem!_pos (vss.getD (q / ks.length) []) (q % ks.length) (by rw [hl1]; exact hq2)]
   have h7 : cur[q]? = some ((vss.getD (q / ks.length) [])[q % ks.length]'(by rw [hl1]; exact hq2)) := by rw [← Array.getElem?_toList]; exact this
   rw [Array.getElem?_eq_getElem hqc] at h7
   exact Option.some.inj h7
 · rw [hdl, List.map_map]
   refine List.ext_getElem (by simp) fun i h7 h8 => ?_
   simp only [List.getElem_map, List.getElem_range, Function.comp]
   rw [List.getD_eq_getElem?_getD, List.getElem?_eq_getElem h8]; rfl
 · rw [hFc, hdl, List.map_map]
   congr 2
   refine List.ext_getElem (by simp; omega) fun i h7 h8 => ?_
   simp only [List.getElem_map, List.getElem_range, Function.comp]
   rw [List.getD_eq_getElem?_getD, List.getElem?_eq_getElem h7]; rfl
 · have hj' : j < xs.length := by rw [← hds]; exact hj
   rw [hdg i (by omega), hdg j hj']
   exact hij
theorem rows_own {w : World} {d d' : Array El} (h0 : RowsIn w0 b cap n ks.length t (ElOk w0 M ks dp b) w0 d) (hF : F = b :: (d.toList.map fun x => x.1.2.2).flatten) (hFn : F.Nodup) (hFl : ∀ c, c ∈ F → c < w0.heap.size) (hn : n ≤ cap) (hl : n ≤ lenMax) (hcap : cap ≤ maxLen)
   (h : RowsIn w0 b cap n ks.length t (ElOk w0 M ks dp b) w d') (hp : d'.toList.Perm d.toList) (hM : ∀ o, M b o) (M' : Nat → Nat → Prop) (hM' : ∀ c o, M' c o → M c o) :
   ∃ F', OwnRep w M' t ks dp (.slice (some ⟨b, 0, none⟩) n cap) (d'.toList.map fun x => x.1.2.1) F' ∧ F'.Perm F := by
 obtain ⟨cur, h1, h2, h3⟩ := h.mem
 have hdn : d'.toList.length = n := by rw [Array.length_toList]; exact h.size
 have hget : ∀ i (hi : i < d'.toList.length), d'.toList[i] = d'[i]! := fun i hi => by
   rw [getElem!_pos d' i (by simpa using hi)]; simp
 have hok : ∀ i, i < n → ElOk w0 M ks dp b d'[i]! := fun i hi => h.all i hi
 have hpf : (d'.toList.map fun x => x.1.2.2).flatten.Perm (d.toList.map fun x => x.1.2.2).flatten := (hp.map _).flatten
 have hbn := (List.nodup_cons.1 (by rw [hF] at hFn; exact hFn)).1
 have keep : ∀ {c : Nat}, c < w0.heap.size → c ≠ b → w.heap[c]? = w0.heap[c]? := fun hc hb => h.fr.block _ hc (by simpa using hb)
 have hK : Keeps w0 M w M' := fun c o v hcell hn => by
   have hcb : c ≠ b := fun e => hn (by rw [e]; exact hM o)
   have hclt := cell_lt hcell
   exact ⟨by rw [World.cell?_of_block (w := w0) (keep hclt hcb)]; exact hcell, fun hm => hn (hM' _ _ hm)⟩
 refine ⟨b :: (d'.toList.map fun x => x.1.2.2).flatten, ⟨d'.toList.map fun x => x.1.1, d'.toList.map fun x => x.1.2.2, ⟨?_, .inr ⟨b, cap, cur, by simp [h.size], Nat.zero_le _, h1, by simp only [List.length_map, Array.length_toList, h.size]; exact hn, hcap, h2, ?_⟩⟩, by simp only [List.length_map, Array.length_toList, h.size]; exact hl, by simp, by simp, rfl, fun i row vs f e1 e2 e3 => ?_⟩, ?_⟩
 · rw [length_of_flatten (n := ks.length) (fun vs hv => ?_)]
   · simp
   · obtain ⟨x, hx, rfl⟩ := List.mem_map.1 hv
     obtain ⟨i, hi, rfl⟩ := List.getElem_of_mem hx
     rw [hget i hi]
     exact (hok i (by omega)).1
 · have hvl : ∀ vs ∈ d'.toList.map (fun x => x.1.1), vs.length = ks.length := fun vs hv => by
     obtain ⟨x, hx, rfl⟩ := List.mem_map.1 hv
     obtain ⟨i, hi, rfl⟩ := List.getElem_of_mem hx
     rw [hget i hi]
     exact (hok i (by omega)).1
   refine List.ext_getElem ?_ fun q hq1 hq2 => ?_
   · rw [List.length_take, length_of_flatten hvl]
     simp only [List.length_map, Array.length_toList, h.size, h2]
     exact Nat.min_eq_left (Nat.mul_le_mul_right _ hn)
   · rw [length_of_flatten hvl] at hq2
     simp only [List.length_map, Array.length_toList, h.size] at hq2
     have hk : 0 < ks.length := by
       rcases Nat.eq_zero_or_pos ks.length with h | h
       · rw [h] at hq2; simp at hq2
       · exact h
     have hqi : q / ks.length < n := (Nat.div_lt_iff_lt_mul hk).2 hq2
     have hqm := Nat.mod_lt q hk
     have hqc : q < cur.size := by rw [h2]; exact Nat.lt_of_lt_of_le hq2 (Nat.mul_le_mul_right _ hn)
     have e0 := h3 q hq2
     rw [get_flatK _ _ _ _ (by rw [h.size]; exact hq2), encE_eq (hok _ hqi).1] at e0
     have hl0 : q % ks.length < (d'[q / ks.length]!).1.1.length := by rw [(hok _ hqi).1]; exact hqm
     have e1 : (d'.toList.map fun x => x.1.1)[q / ks.length]? = some (d'[q / ks.length]!).1.1 := by
       rw [List.getElem?_map, List.getElem?_eq_getElem (by omega), hget]; rfl
     have e2 := flatten_get ks.length _ hvl (q / ks.length) _ (q % ks.length) _ e1 (List.getElem?_eq_getElem hl0)
     rw [show q / ks.length * ks.length + q % ks.length = q by rw [Nat.mul_comm]; exact Nat.div_add_mod q _] at e2
     have e3 := (List.getElem?_eq_some_iff.1 e2).2
     rw [e3, List.getElem_take]
     rw [getElem!_pos cur q hqc, getElem!_pos (d'[q / ks.length]!).1.1 (q % ks.length) hl0] at e0
     rw [← e0]; simp
 · rw [List.getElem?_map] at e1 e2 e3
   obtain ⟨x, hx, rfl⟩ := Option.map_eq_some_iff.1 e1
   rw [hx] at e2 e3
   simp only [Option.map_some, Option.some.injEq] at e2 e3
   subst e2 e3
   have hi := (List.getElem?_eq_some_iff.1 hx).1
   have hxe : x = d'[i]! := by rw [List.getElem?_eq_getElem hi, hget i hi] at hx; exact (Option.some.inj hx).symm
   have := (hok i (by omega)).2
   rw [← hxe] at this
   split at this
   · rename_i hd
     rw [if_pos hd]
     refine this.1.keeps fun c hc => keep (hFl c ?_) fun e => this.2 (e ▸ hc)
     rw [hF]
     exact List.mem_cons_of_mem _ (hpf.mem_iff.1 (List.mem_flatten.2 ⟨_, List.mem_map.2 ⟨x, List.mem_of_getElem? hx, rfl⟩, hc⟩))
   · rename_i hd
     rw [if_neg hd]
     exact ⟨this.1.keeps hK, this.2⟩
 · rw [hF]
   exact List.Perm.cons _ hpf
end
end Go.Vx
namespace Go.Vx
open Go.RowKit Go.Sort
def setLt : List (List D) → List (List D) → Bool
 | _, [] => false
 | [], _ :: _ => true
 | r :: a, s :: b => if (cell r 0).asStr = (cell s 0).asStr then (if (cell r 1).asStr = (cell s 1).asStr then setLt a b else Op.bytesLess (cell r 1).asStr.toList (cell s 1).asStr.toList) else Op.bytesLess (cell r 0).asStr.toList (cell s 0).asStr.toList
def flatS (l : List (List D)) : List (List UInt8) := l.flatMap fun r => [(cell r 0).asStr.toList, (cell r 1).asStr.toList]
theorem toList_inj' {a b : ByteArray} : a.toList = b.toList ↔ a = b := by
 refine ⟨fun h => ?_, fun h => by rw [h]⟩
 rw [Lib.toList_data, Lib.toList_data] at h
 cases a; cases b
 simp only [ByteArray.mk.injEq]
 exact Array.ext' h
theorem setLt_eq : ∀ (a b : List (List D)), setLt a b = decide (flatS a < flatS b)
 | [], [] => by simp [setLt, flatS]
 | _ :: _, [] => by simp [setLt, flatS]
 | [], _ :: _ => by simp [setLt, flatS]
 | r :: a, s :: b => by
   have ih := setLt_eq a b
   have e : ∀ (q : List D) (l : List (List D)), flatS (q :: l) = (cell q 0).asStr.toList :: (cell q 1).asStr.toList :: flatS l := fun _ _ => rfl
   rw [e, e, setLt]
   simp only [List.cons_lt_cons_iff, ← toList_inj', Go.Proofs.bytesLess_eq, ih]
   by_cases h1 : (cell r 0).asStr.toList = (cell s 0).asStr.toList
   · rw [if_pos h1]
     by_cases h2 : (cell r 1).asStr.toList = (cell s 1).asStr.toList
     · rw [if_pos h2, h1, h2]
       simp [List.lt_irrefl]
     · rw [if_neg h2, h1]
       simp [List.lt_irrefl, h2]
   · rw [if_neg h1]
     simp [h1]
theorem swo_of {α β : Type} {lt : β → β → Bool} (f : α → β) (h : SWO lt) : SWO fun a b => lt (f a) (f b) :=
 ⟨fun _ => h.irrefl _, fun _ _ _ => h.trans _ _ _, fun _ _ _ => h.ntrans _ _ _⟩
theorem setLt_swo : SWO setLt where
 irrefl := fun x => by rw [setLt_eq]; simp [List.lt_irrefl]
 trans := fun x y z h1 h2 => by
   simp only [setLt_eq, decide_eq_true_eq] at *
   exact List.lt_trans h1 h2
 ntrans := fun x y z h1 h2 => by
   simp only [setLt_eq, decide_eq_false_iff_not, List.not_lt] at *
   exact List.le_trans h2 h1
theorem row_of {w : World} {b : Nat} : ∀ {vs : List Value} {o : Nat}, (∀ (j : Nat) v, vs[j]? = some v → w.cell? ⟨b, o + j, none⟩ = some v) → Row w b o vs
 | [], _, _ => trivial
 | v :: vs, o, h => ⟨by have := h 0 v rfl; simpa using this, row_of fun j u hj => by have := h (j + 1) u (by simpa using hj); rw [show o + 1 + j = o + (j + 1) by omega]; exact this⟩
theorem stable_perm {β : Type} [Inhabited β] {lt : β → β → Bool} (h : SWO lt) {d : Array (β × Nat)} (ht : ∀ i j, i < j → j < d.size → d[i]!.2 < d[j]!.2) :
   (stableF (fun p q => lt p.1 q.1) d.size d).toList.Perm d.toList := by
 have hL := tagL_swo h
 have hag : ∀ i j, i < j → j < d.size → (fun p q : β × Nat => lt p.1 q.1) d[j]! d[i]! = tagL lt d[j]! d[i]! := fun i j hij hj => by
   have := ht i j hij hj
   have hn : decide (d[j]!.2 < d[i]!.2) = false := by simp; omega
   simp only [tagL, hn, Bool.and_false, Bool.or_false]
 obtain ⟨hP, hS⟩ := stable_ok (lt := fun p q : β × Nat => lt p.1 q.1) hL (n := d.size) (d := d) (Nat.le_refl _) hag
 have hsz : (stableF (fun p q : β × Nat => lt p.1 q.1) d.size d).size = d.size := hP.1
 have := hP.2.2
 have e1 : (stableF (fun p q : β × Nat => lt p.1 q.1) d.size d).extract 0 d.size = stableF (fun p q : β × Nat => lt p.1 q.1) d.size d := by
   have := Array.extract_size (xs := stableF (fun p q : β × Nat => lt p.1 q.1) d.size d)
   rwa [hsz] at this
 rwa [e1, Array.extract_size] at this
theorem stS_length {β : Type} [Inhabited β] (lt : β → β → Bool) (xs : List β) : (stS lt xs).length = xs.length := by
 have : ∀ (l acc : List β), (l.foldl (insR lt) acc).length = acc.length + l.length := by
   intro l
   induction l with
   | nil => intro acc; rfl
   | cons x l ih => intro acc; rw [List.foldl_cons, ih, length_insR]; simp; omega
 rw [stS, this]; simp
section
variable {w0 : World} {M : Nat → Nat → Prop} {t : TypeId} {ks : List K} {dp : Bool} {b cap n : Nat}
theorem RowsIn.dat {w : World} {d : Array El} (h : RowsIn w0 b cap n ks.length t (ElOk w0 M ks dp b) w d) (hn : n ≤ cap) (hl : n ≤ lenMax) (hM : ∀ o, M b o) :
   RepC w (fun _ _ => False) (.sl t ks) (.slice (some ⟨b, 0, none⟩) n cap) (.sl (d.toList.map fun x => x.1.2.1)) := by
 have hdn : d.toList.length = n := by rw [Array.length_toList]; exact h.size
 have hget : ∀ i (hi : i < d.toList.length), d.toList[i] = d[i]! := fun i hi => by
   rw [getElem!_pos d i (by simpa using hi)]; simp
 have keep : ∀ {c : Nat}, c < w0.heap.size → c ≠ b → w.heap[c]? = w0.heap[c]? := fun hc hb => h.fr.block _ hc (by simpa using hb)
 have hK : Keeps w0 M w (fun _ _ => False) := fun c o v hcell hn => by
   have hcb : c ≠ b := fun e => hn (by rw [e]; exact hM o)
   have hclt := cell_lt hcell
   exact ⟨by rw [World.cell?_of_block (w := w0) (keep hclt hcb)]; exact hcell, fun hm => hm⟩
 have hlen : (D.sl (d.toList.map fun x => x.1.2.1)).asList.length = n := by simp only [D.asList_sl, List.length_map, hdn]
 refine ⟨some ⟨b, 0, none⟩, cap, by rw [hlen], by rw [hlen]; exact hn, by rw [hlen]; exact hl, .inr ⟨b, 0, rfl, fun i row hi => ?_⟩⟩
 rw [D.asList_sl, List.getElem?_map] at hi
 obtain ⟨x, hx, rfl⟩ := Option.map_eq_some_iff.1 hi
 have hlt := (List.getElem?_eq_some_iff.1 hx).1
 have hxe : x = d[i]! := by rw [List.getElem?_eq_getElem hlt, hget i hlt] at hx; exact (Option.some.inj hx).symm
 have hin : i < n := by omega
 have hok := h.all i hin
 rw [← hxe] at hok
 refine ⟨x.1.1, ?_, fun _ _ h => h, ?_⟩
 · refine row_of fun j v hj => ?_
   have hjk : j < ks.length := by rw [← hok.1]; exact (List.getElem?_eq_some_iff.1 hj).1
   rw [Nat.zero_add, h.cell hn hin hjk, ← hxe, encE_eq hok.1]
   exact hj
 · have := hok.2
   split at this
   · exact (this.1.keeps fun c hc => keep (this.1.lt c hc) fun e => this.2 (e ▸ hc)).toC fun _ _ _ h => h
   · exact this.1.keeps hK
end
section
variable {Φ : Fns} {post : List D → Prop} {env : List D} {B : Nat → List D → Prop}
theorem ins_wp {id l n : Nat} {fs : List (K × Nat)} {cs : List E} {c e0 : E} {body : VC} {L : List (List D)} (hn : env.length = n) (hN : (L.length : Int) ≤ 140737488355328) (p : List D → Bool) (h0 : e0.den Φ env = .int L.length)
   (hq : ∀ k : Nat, k ≤ L.length → conj Φ (env ++ [.int k]) cs)
   (hc : ∀ k : Nat, k ≤ L.length → (c.den Φ (env ++ [.int k])).asBool = (decide (0 < k) && p (rowN L (k - 1))))
   (hb : ∀ q, body.wp Φ post (env ++ [.int (posR p L L.length : Nat)]) (setB B l q)) :
   (VC.loop id l 1 fs [e0] (.req cs (.ite c (.back l [.op (.bin .sub .i64) [.var n, .int 1]]) body))).wp Φ post env B := by
 refine wp_loop' (fun v => ∃ k : Nat, v = [.int k] ∧ k ≤ L.length ∧ posR p L L.length = posR p L k) (fun v => (cell v 0).asInt.toNat) ⟨L.length, by simp [h0], by omega, rfl⟩ ?_
 simp only [allN_succ, allN_zero]
 intro d
 refine kinds_intro fun _ => ?_
 rintro ⟨k, hd, hk, hp⟩
 simp only [List.cons.injEq, and_true] at hd
 subst hd
 have hv : cell (env ++ [.int k]) n = .int k := by subst hn; simp [cell]
 rw [wp_req']
 refine ⟨hq k hk, ?_⟩
 rw [wp_ite', hc k hk]
 refine ⟨fun h => ?_, fun h => ?_⟩
 · simp only [Bool.and_eq_true, decide_eq_true_eq] at h
   simp only [wp_back', List.map_cons, List.map_nil, setB_eq, den_op, dens_cons, dens_nil, den_var, den_int, hv, op_bin, intV_sub, D.asInt_int, cell_zero]
   rw [w64 (by omega) (by omega)]
   obtain ⟨k', rfl⟩ : ∃ k', k = k' + 1 := ⟨k - 1, by omega⟩
   refine ⟨⟨k', by simp, by omega, ?_⟩, by simp⟩
   rw [hp, posR, if_pos]
   exact h.2
 · have : posR p L k = k := by
     cases k with
     | zero => rfl
     | succ k =>
       rw [posR, if_neg]
       simp only [Nat.zero_lt_succ, decide_true, Bool.true_and, Nat.add_sub_cancel] at h
       have h' : p (L.getD k default) = false := h
       rw [h']; simp
   rw [this] at hp
   rw [← hp]
   exact hb _
theorem stS_snoc {β : Type} [Inhabited β] (lt : β → β → Bool) (l : List β) (x : β) : stS lt (l ++ [x]) = insR lt (stS lt l) x := by simp [stS]
theorem map_take_succ {γ : Type} (f : List D → γ) {xs : List (List D)} {i : Nat} (h : i < xs.length) : (xs.take (i + 1)).map f = (xs.take i).map f ++ [f (rowN xs i)] := by
 rw [List.take_add_one, List.getElem?_eq_getElem h, List.map_append, rowN_lt h]; rfl
end
end Go.Vx

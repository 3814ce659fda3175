/-
  A program logic of our own, parts 48 to 57.
-/
import Derived.Sort.LotA
import Derived.Test.YthibophjhdoooaaDoorVxd
import Derived.Shelf.GgSortFunc.RowK
import Derived.Lib.ReflectliteSwap
import Derived.Sort.Walk0
set_option linter.unusedVariables false
set_option linter.unusedSimpArgs false
/-
  Vx, part 48: the library's stable sort in plain Lean: what its functions do, and that they sort.
-/
namespace Go.Vx
open Go.Sort
variable {α : Type} [Inhabited α]

/-! What the functions do. -/
/-! Where what is lies. -/
/-! The search. -/
/-! It sorts. L: the order in which nothing is like anything else; at what is compared, it is what is asked. -/
variable {lt L : α → α → Bool}

end Go.Vx

/-
  Vx, part 49: the library's stable sort sorts, in plain Lean.
-/
namespace Go.Vx
open Go.Sort
variable {α : Type} [Inhabited α] {lt L : α → α → Bool}

/-! Insertion. -/
/-! Blocks. -/
theorem SortedIn.other {lo hi a b : Nat} {d d' : Array α} (h : SortedIn L a b d) (hP : PermIn lo hi d d') (hd : b ≤ lo ∨ hi ≤ a) : SortedIn L a b d' := fun i j q1 q2 q3 => by
  rw [hP.2.1 i (by omega), hP.2.1 j (by omega)]; exact h i j q1 q2 q3

end Go.Vx

/-
  Vx, part 50: what a sort is asked of the memory; an array of the call's own, sorted.
-/
namespace Go.Vx
open Go.RowKit Go.Sort
variable {α : Type} [Inhabited α]

/-- The memory, as a sort needs it: I w d: the row of the block blk holds d. -/
structure Srt (P : Program) (I : World → Array α → Prop) (blk sz : Nat) (lt : α → α → Bool) (g : Nat) (lb : Array Value) (sf : Nat) (sb : Array Value) : Prop where
  eg : ∀ args w, (callFunc g args).run P w = .ok (.enter g args) w
  small : sz < 4611686018427387904
  inw : ∀ {w d}, I w d → blk < w.heap.size
  size : ∀ {w d}, I w d → d.size = sz
  alloc : ∀ {w d} (o : Obj), I w d → I (w.alloc o) d
  drew : ∀ {w d} (q : Nat), I w d → I (w.drewN q) d
  less : ∀ {w d}, I w d → ∀ i j : Nat, i < sz → j < sz → Calls P g (#[.int .i64 i, .int .i64 j] ++ lb) w fun e w' => e = .returned (.bool (lt d[i]! d[j]!)) ∧ I w' d ∧ Below w.heap.size w w'
  swap : ∀ {w d}, I w d → ∀ i j : Nat, i < sz → j < sz → i ≠ j → ∃ w', (callFunc sf (#[.int .i64 i, .int .i64 j] ++ sb)).run P w = .ok (.value (.tuple #[])) w' ∧ I w' (swp d i j) ∧ Fr w [blk] w' ∧ w'.heap.size = w.heap.size

section
variable {P : Program} {I : World → Array α → Prop} {blk sz : Nat} {lt : α → α → Bool} {g : Nat} {lb : Array Value} {sf : Nat} {sb : Array Value}
theorem fr_trans {w w' w'' : World} {X : List Nat} (h : Fr w X w') (h' : Fr w' X w'') : Fr w X w'' :=
  ⟨h'.os.trans h.os, h'.tape.trans h.tape, h'.output.trans h.output, Nat.le_trans h.size h'.size, fun k hk hx => (h'.block k (Nat.lt_of_lt_of_le hk h.size) hx).trans (h.block k hk hx)⟩
theorem fr_below {w w' : World} {X : List Nat} (h : Below w.heap.size w w') : Fr w X w' := ⟨h.os, h.tape, h.output, h.size, fun k hk _ => h.block k hk⟩
theorem fr_alloc' (w : World) (o : Obj) (X : List Nat) : Fr w X (w.alloc o) := fr_below ((Below.refl _ _).alloc (Nat.le_refl _) o)
theorem fr_cell {w w' : World} {X : List Nat} (h : Fr w X w') {b o : Nat} {v : Value} (hb : b ∉ X) (hc : w.cell? ⟨b, o, none⟩ = some v) : w'.cell? ⟨b, o, none⟩ = some v := by
  rw [World.cell?_of_block (w := w) (h.block b (cell_lt hc) hb)]; exact hc

/-- The box of 'data': its place, its two cells. -/
structure Bx (blk bx : Nat) (lb : Array Value) (g sf : Nat) (sb : Array Value) (W w : World) : Prop where
  ne : bx ≠ blk
  fr : Fr W [blk] w
  c0 : w.cell? ⟨bx, 0, none⟩ = some (.func (.func g) #[] lb)
  c1 : w.cell? ⟨bx, 1, none⟩ = some (.func (.func sf) #[] sb)
theorem Bx.start (S : Srt P I blk sz lt g lb sf sb) {w : World} {d : Array α} (h : I w d) (t : TypeId) : Bx blk w.heap.size lb g sf sb w (w.alloc (.cells #[.func (.func g) #[] lb, .func (.func sf) #[] sb] t)) :=
  ⟨Nat.ne_of_gt (S.inw h), fr_alloc' _ _ _, by simp, by simp⟩
theorem Bx.on {bx : Nat} {W w w' : World} (h : Bx blk bx lb g sf sb W w) (hf : Fr w [blk] w') : Bx blk bx lb g sf sb W w' :=
  ⟨h.ne, fr_trans h.fr hf, fr_cell hf (by simpa using h.ne) h.c0, fr_cell hf (by simpa using h.ne) h.c1⟩
end






/-! The stable sort of a list. -/
section
variable {β : Type} [Inhabited β]
end

end Go.Vx

/-
  Vx, part 51: an array of rows of the call's own, sorted in memory.
-/
namespace Go.Vx
open Go.RowKit Go.Sort

theorem cell_in {w : World} {b : Nat} {cur : Array Value} {e : TypeId} (h : w.heap[b]? = some (.cells cur e (0, 0))) (p : Nat) : w.cell? ⟨b, p, none⟩ = cur[p]? := by
  simp [World.cell?, h]
/-- An element: its cells, its row, its blocks, and where it was. -/
abbrev El := (List Value × List D × List Nat) × Nat
/-- Its cells, k of them. -/
def encE (k : Nat) (x : El) : List Value := (x.1.1 ++ List.replicate k undef).take k
theorem encE_len (k : Nat) (x : El) : (encE k x).length = k := by simp [encE]
theorem encE_eq {k : Nat} {x : El} (h : x.1.1.length = k) : encE k x = x.1.1 := by
  unfold encE
  rw [List.take_append_of_le_length (by omega), List.take_of_length_le (by omega)]

/-- The block b holds d, n elements of k cells; the rest of the memory is as it was. -/
structure RowsIn (w0 : World) (b cap n k : Nat) (e : TypeId) (Q : El → Prop) (w : World) (d : Array El) : Prop where
  fr : Fr w0 [b] w
  size : d.size = n
  all : ∀ i, i < n → Q d[i]!
  mem : ∃ cur, w.heap[b]? = some (.cells cur e (0, 0)) ∧ cur.size = cap * k ∧ ∀ t, t < n * k → cur[t]! = (flatK (encE k) k d)[t]!

theorem RowsIn.below {w0 : World} {b cap n k : Nat} {e : TypeId} {Q : El → Prop} {w w' : World} {d : Array El} (h : RowsIn w0 b cap n k e Q w d) (hb : Below w.heap.size w w') : RowsIn w0 b cap n k e Q w' d := by
  obtain ⟨cur, h1, h2, h3⟩ := h.mem
  exact ⟨fr_trans h.fr (fr_below hb), h.size, h.all, cur, by rw [hb.block b (Array.getElem?_eq_some_iff.1 h1).1]; exact h1, h2, h3⟩

/-- The cells of an element. -/
theorem RowsIn.cell {w0 : World} {b cap n k : Nat} {e : TypeId} {Q : El → Prop} {w : World} {d : Array El} (h : RowsIn w0 b cap n k e Q w d) (hn : n ≤ cap) {i c : Nat} (hi : i < n) (hc : c < k) : w.cell? ⟨b, i * k + c, none⟩ = (encE k d[i]!)[c]? := by
  obtain ⟨cur, h1, h2, h3⟩ := h.mem
  have lt : i * k + c < n * k := by
    have := Nat.mul_le_mul_right k (show i + 1 ≤ n from hi); rw [Nat.add_mul, Nat.one_mul] at this; omega
  have lt' : i * k + c < cur.size := by rw [h2]; exact Nat.lt_of_lt_of_le lt (Nat.mul_le_mul_right k hn)
  have e1 : (i * k + c) / k = i := (blk_iff k i _ (by omega)).1 ⟨by omega, by omega⟩
  have e2 : (i * k + c) % k = c := by rw [Nat.mod_eq_sub_div_mul, e1]; omega
  have := h3 _ lt
  rw [get_flatK _ _ _ _ (by rw [h.size]; exact lt), e1, e2] at this
  rw [cell_in h1, Array.getElem?_eq_getElem lt', ← getElem!_pos cur _ lt', this, List.getElem?_eq_getElem (by rw [encE_len]; exact hc)]
  rw [getElem!_pos _ _ (by rw [encE_len]; exact hc)]

section
variable {w0 : World} {M : Nat → Nat → Prop} {t : TypeId} {ks : List K} {dp : Bool} {xs : List (List D)} {F : List Nat} {b cap n : Nat}

/-- What is known of an element of an own array. -/
def ElOk (w0 : World) (M : Nat → Nat → Prop) (ks : List K) (dp : Bool) (b : Nat) (x : El) : Prop := x.1.1.length = ks.length ∧ (if dp then RepDs w0 ks x.1.1 x.1.2.1 x.1.2.2 ∧ b ∉ x.1.2.2 else RepCs w0 M ks x.1.1 x.1.2.1 ∧ x.1.2.2 = [])

end
end Go.Vx

/-
  Vx, part 52: the order of labels; a sorted array's rows as data.
-/
namespace Go.Vx
open Go.RowKit Go.Sort

/-! Labels, one after the other. -/
theorem row_of {w : World} {b : Nat} : ∀ {vs : List Value} {o : Nat}, (∀ (j : Nat) v, vs[j]? = some v → w.cell? ⟨b, o + j, none⟩ = some v) → Row w b o vs
  | [], _, _ => trivial
  | v :: vs, o, h => ⟨by have := h 0 v rfl; simpa using this, row_of fun j u hj => by have := h (j + 1) u (by simpa using hj); rw [show o + 1 + j = o + (j + 1) by omega]; exact this⟩

section
variable {w0 : World} {M : Nat → Nat → Prop} {t : TypeId} {ks : List K} {dp : Bool} {b cap n : Nat}

/-- What the array reads as. -/
theorem RowsIn.dat {w : World} {d : Array El} (h : RowsIn w0 b cap n ks.length t (ElOk w0 M ks dp b) w d) (hn : n ≤ cap) (hl : n ≤ lenMax) (hM : ∀ o, M b o) :
    RepC w (fun _ _ => False) (.sl t ks) (.slice (some ⟨b, 0, none⟩) n cap) (.sl (d.toList.map fun x => x.1.2.1)) := by
  have hdn : d.toList.length = n := by rw [Array.length_toList]; exact h.size
  have hget : ∀ i (hi : i < d.toList.length), d.toList[i] = d[i]! := fun i hi => by
    rw [getElem!_pos d i (by simpa using hi)]; simp
  have keep : ∀ {c : Nat}, c < w0.heap.size → c ≠ b → w.heap[c]? = w0.heap[c]? := fun hc hb => h.fr.block _ hc (by simpa using hb)
  have hK : Keeps w0 M w (fun _ _ => False) := fun c o v hcell hn => by
    have hcb : c ≠ b := fun e => hn (by rw [e]; exact hM o)
    have hclt := cell_lt hcell
    exact ⟨by rw [World.cell?_of_block (w := w0) (keep hclt hcb)]; exact hcell, fun hm => hm⟩
  have hlen : (D.sl (d.toList.map fun x => x.1.2.1)).asList.length = n := by simp only [D.asList_sl, List.length_map, hdn]
  refine ⟨some ⟨b, 0, none⟩, cap, by rw [hlen], by rw [hlen]; exact hn, by rw [hlen]; exact hl, .inr ⟨b, 0, rfl, fun i row hi => ?_⟩⟩
  rw [D.asList_sl, List.getElem?_map] at hi
  obtain ⟨x, hx, rfl⟩ := Option.map_eq_some_iff.1 hi
  have hlt := (List.getElem?_eq_some_iff.1 hx).1
  have hxe : x = d[i]! := by rw [List.getElem?_eq_getElem hlt, hget i hlt] at hx; exact (Option.some.inj hx).symm
  have hin : i < n := by omega
  have hok := h.all i hin
  rw [← hxe] at hok
  refine ⟨x.1.1, ?_, fun _ _ h => h, ?_⟩
  · refine row_of fun j v hj => ?_
    have hjk : j < ks.length := by rw [← hok.1]; exact (List.getElem?_eq_some_iff.1 hj).1
    rw [Nat.zero_add, h.cell hn hin hjk, ← hxe, encE_eq hok.1]
    exact hj
  · have := hok.2
    split at this
    · exact (this.1.keeps fun c hc => keep (this.1.lt c hc) fun e => this.2 (e ▸ hc)).toC fun _ _ _ h => h
    · exact this.1.keeps hK
end

/-! A loop that looks for a place, from the right. -/
section
variable {Φ : Fns} {post : List D → Prop} {env : List D} {B : Nat → List D → Prop}
end

/-! What is taken at some places. -/
end Go.Vx

/-
  Vx, part 53: what two variables hold, one of them an array of the call's own.
-/
namespace Go.Vx
open Go.RowKit (Below)

section
variable {Φ : Fns} {env : List D} {C : Cx} {g : Gh} {s : SSt} {a : Act} {w : World}
end
end Go.Vx

/-
  Vx, part 54: what a function's code computes is one value: a contract by properties alone.
-/
namespace Go.Vx
open Classical

/-- A loop, run: at most so many rounds. -/
noncomputable def roundsE (step : (List D → Option (List D)) → List D → Option (List D)) : Nat → List D → Option (List D)
  | 0, _ => none
  | n + 1, vs => step (roundsE step n) vs
def setE (B : Nat → List D → Option (List D)) (l : Nat) (p : List D → Option (List D)) (j : Nat) : List D → Option (List D) := if j = l then p else B j

/-- What is asked of the values of a loop. -/
def kindsOk (env : List D) (fs : List (K × Nat)) : Prop := ∀ q ∈ fs, WFD q.1 (env.getD q.2 default)

/-- The code, run: at most so many rounds of each loop. -/
noncomputable def VC.ev (Φ : Fns) (N : Nat) : VC → List D → (Nat → List D → Option (List D)) → Option (List D)
  | .req _ t, env, B => t.ev Φ N env B
  | .ite c x y, env, B => if (c.den Φ env).asBool = true then x.ev Φ N env B else y.ev Φ N env B
  | .loop _ l m fs init body, env, B => roundsE (fun go vs => if vs.length = m ∧ kindsOk (env ++ vs) fs then body.ev Φ N (env ++ vs) (setE B l go) else some []) N (init.map (E.den Φ env))
  | .back l es, env, B => B l (es.map (E.den Φ env))
  | .ret es, env, _ => some (es.map (E.den Φ env))
  | .join _ l m fs x y, env, B => x.ev Φ N env (setE B l fun vs => if vs.length = m ∧ kindsOk (env ++ vs) fs then y.ev Φ N (env ++ vs) B else some [])

section
variable {Φ : Fns}

def leE (B B' : Nat → List D → Option (List D)) : Prop := ∀ l v r, B l v = some r → B' l v = some r
theorem leE_set {B B' : Nat → List D → Option (List D)} (h : leE B B') {l : Nat} {p p' : List D → Option (List D)} (hp : ∀ v r, p v = some r → p' v = some r) : leE (setE B l p) (setE B' l p') := fun j v r hr => by
  unfold setE at hr ⊢
  split
  · rename_i e; rw [if_pos e] at hr; exact hp v r hr
  · rename_i e; rw [if_neg e] at hr; exact h j v r hr

theorem VC.ev_mono : ∀ (t : VC) {N N' : Nat} (_ : N ≤ N') {env : List D} {B B' : Nat → List D → Option (List D)} (_ : leE B B') {r : List D}, t.ev Φ N env B = some r → t.ev Φ N' env B' = some r
  | .req _ t, _, _, hN, _, _, _, hB, _, h => VC.ev_mono t hN hB h
  | .ite c x y, _, _, hN, env, _, _, hB, _, h => by
    simp only [VC.ev] at h ⊢
    split
    · rename_i hc; rw [if_pos hc] at h; exact VC.ev_mono x hN hB h
    · rename_i hc; rw [if_neg hc] at h; exact VC.ev_mono y hN hB h
  | .loop _ l m fs init body, N, N', hN, env, B, B', hB, r, h => by
    simp only [VC.ev] at h ⊢
    have key : ∀ (n n' : Nat), n ≤ n' → ∀ vs r, roundsE (fun go vs => if vs.length = m ∧ kindsOk (env ++ vs) fs then body.ev Φ N (env ++ vs) (setE B l go) else some []) n vs = some r →
        roundsE (fun go vs => if vs.length = m ∧ kindsOk (env ++ vs) fs then body.ev Φ N' (env ++ vs) (setE B' l go) else some []) n' vs = some r := by
      intro n
      induction n with
      | zero => intro n' _ vs r h; simp [roundsE] at h
      | succ n ih =>
        intro n' hn vs r h
        obtain ⟨k, rfl⟩ : ∃ k, n' = k + 1 := ⟨n' - 1, by omega⟩
        simp only [roundsE] at h ⊢
        split
        · rename_i hc
          rw [if_pos hc] at h
          exact VC.ev_mono body hN (leE_set hB fun v r hr => ih k (by omega) v r hr) h
        · rename_i hc
          rw [if_neg hc] at h
          exact h
    exact key N N' hN _ _ h
  | .back l es, _, _, _, _, _, _, hB, _, h => hB _ _ _ h
  | .ret _, _, _, _, _, _, _, _, _, h => h
  | .join _ l m fs x y, N, N', hN, env, B, B', hB, r, h => by
    simp only [VC.ev] at h ⊢
    refine VC.ev_mono x hN (leE_set hB fun v r hr => ?_) h
    try dsimp only at hr ⊢
    split
    · rename_i hc
      rw [if_pos hc] at hr
      exact VC.ev_mono y hN hB hr
    · rename_i hc
      rw [if_neg hc] at hr
      exact hr

/-- A family of endings that grows. -/
def growE (B : Nat → Nat → List D → Option (List D)) : Prop := ∀ N N', N ≤ N' → leE (B N) (B N')

noncomputable abbrev bodyE (Φ : Fns) (N : Nat) (env : List D) (l m : Nat) (fs : List (K × Nat)) (body : VC) (B : Nat → List D → Option (List D)) (go : List D → Option (List D)) (vs : List D) : Option (List D) :=
  if vs.length = m ∧ kindsOk (env ++ vs) fs then body.ev Φ N (env ++ vs) (setE B l go) else some []
theorem rounds_mono {N N' n n' l m : Nat} {fs : List (K × Nat)} {body : VC} {env : List D} {B B' : Nat → List D → Option (List D)} (hN : N ≤ N') (hB : leE B B') : n ≤ n' → ∀ vs r, roundsE (bodyE Φ N env l m fs body B) n vs = some r → roundsE (bodyE Φ N' env l m fs body B') n' vs = some r := by
  induction n generalizing n' with
  | zero => intro _ vs r h; simp [roundsE] at h
  | succ n ih =>
    intro hn vs r h
    obtain ⟨k, rfl⟩ : ∃ k, n' = k + 1 := ⟨n' - 1, by omega⟩
    simp only [roundsE, bodyE] at h ⊢
    split
    · rename_i hc
      rw [if_pos hc] at h
      exact VC.ev_mono body hN (leE_set hB fun v r hr => ih (by omega) v r hr) h
    · rename_i hc
      rw [if_neg hc] at h
      exact h

/-- What is shown to end, ends. -/
theorem VC.ev_ends {post : List D → Prop} : ∀ (t : VC) {env : List D} {B : Nat → List D → Prop} {BE : Nat → Nat → List D → Option (List D)}, growE BE → (∀ l v, B l v → ∃ N r, BE N l v = some r) → t.wp Φ post env B → ∃ N r, t.ev Φ N env (BE N) = some r
  | .req _ t, _, _, _, hg, hB, h => VC.ev_ends t hg hB h.2
  | .ite c x y, env, _, _, hg, hB, h => by
    cases hc : (c.den Φ env).asBool with
    | true =>
      obtain ⟨N, r, hr⟩ := VC.ev_ends x hg hB (h.1 hc)
      exact ⟨N, r, by simp only [VC.ev]; rw [if_pos hc]; exact hr⟩
    | false =>
      obtain ⟨N, r, hr⟩ := VC.ev_ends y hg hB (h.2 hc)
      exact ⟨N, r, by simp only [VC.ev]; rw [if_neg (by rw [hc]; simp)]; exact hr⟩
  | .loop _ l m fs init body, env, B, BE, hg, hB, h => by
    obtain ⟨I, μ, h0, hI⟩ := h
    have key : ∀ k vs, μ vs < k → I vs → ∃ N r, roundsE (bodyE Φ N env l m fs body (BE N)) N vs = some r := by
      intro k
      induction k with
      | zero => intro vs h; omega
      | succ k ih =>
        intro vs hk hv
        by_cases hc : vs.length = m ∧ kindsOk (env ++ vs) fs
        · have hw := kinds_elim (allN_iff hI vs hc.1) hc.2 hv
          obtain ⟨N, r, hr⟩ := VC.ev_ends body (BE := fun N => setE (BE N) l (roundsE (bodyE Φ N env l m fs body (BE N)) N)) (fun N N' hN => leE_set (hg N N' hN) fun v r hr => rounds_mono hN (hg N N' hN) hN v r hr) (fun j v hj => by
            unfold setB at hj
            unfold setE
            by_cases e : j = l
            · rw [if_pos e] at hj
              obtain ⟨N, r, hr⟩ := ih v (by omega) hj.1
              exact ⟨N, r, by rw [if_pos e]; exact hr⟩
            · rw [if_neg e] at hj
              obtain ⟨N, r, hr⟩ := hB j v hj
              exact ⟨N, r, by rw [if_neg e]; exact hr⟩) hw
          refine ⟨N + 1, r, ?_⟩
          simp only [roundsE, bodyE]
          rw [if_pos hc]
          exact VC.ev_mono body (Nat.le_succ N) (leE_set (hg N (N + 1) (Nat.le_succ N)) fun v r hr => rounds_mono (Nat.le_succ N) (hg N (N + 1) (Nat.le_succ N)) (Nat.le_refl _) v r hr) hr
        · exact ⟨1, [], by simp only [roundsE, bodyE]; rw [if_neg hc]⟩
    obtain ⟨N, r, hr⟩ := key _ _ (Nat.lt_succ_self _) h0
    exact ⟨N, r, hr⟩
  | .back l es, env, _, _, _, hB, h => hB _ _ h
  | .ret es, env, _, _, _, _, _ => ⟨0, _, rfl⟩
  | .join _ l m fs x y, env, B, BE, hg, hB, h => by
    obtain ⟨I, h1, h2⟩ := h
    refine VC.ev_ends x (BE := fun N => setE (BE N) l fun vs => if vs.length = m ∧ kindsOk (env ++ vs) fs then y.ev Φ N (env ++ vs) (BE N) else some []) (fun N N' hN => leE_set (hg N N' hN) fun v r hr => ?_) (fun j v hj => ?_) h1
    · try dsimp only at hr ⊢
      split
      · rename_i hc
        rw [if_pos hc] at hr
        exact VC.ev_mono y hN (hg N N' hN) hr
      · rename_i hc
        rw [if_neg hc] at hr
        exact hr
    · unfold setB at hj
      unfold setE
      by_cases e : j = l
      · rw [if_pos e] at hj
        simp only [if_pos e]
        by_cases hc : v.length = m ∧ kindsOk (env ++ v) fs
        · obtain ⟨N, r, hr⟩ := VC.ev_ends y hg hB (kinds_elim (allN_iff h2 v hc.1) hc.2 hj)
          exact ⟨N, r, by rw [if_pos hc]; exact hr⟩
        · exact ⟨0, [], by rw [if_neg hc]⟩
      · rw [if_neg e] at hj
        simp only [if_neg e]
        exact hB j v hj

theorem allN_of : ∀ {n : Nat} {p : List D → Prop}, (∀ l : List D, l.length = n → p l) → allN n p
  | 0, p, h => h [] rfl
  | n + 1, p, h => fun d => allN_of fun l hl => h (d :: l) (by simp [hl])
theorem kinds_of {env : List D} : ∀ {l : List (K × Nat)} {p : Prop}, (kindsOk env l → p) → kinds env l p
  | [], p, h => h fun q hq => by simp at hq
  | (k, i) :: l, p, h => fun hw => kinds_of fun hq => h fun q hm => by
      rcases List.mem_cons.1 hm with rfl | hm
      · exact hw
      · exact hq q hm

/-- .. with that value. -/
theorem VC.wp_det {post : List D → Prop} {r : List D} : ∀ (t : VC) {env : List D} {B : Nat → List D → Prop} {BE : Nat → Nat → List D → Option (List D)}, growE BE → (∃ N, t.ev Φ N env (BE N) = some r) → t.wp Φ post env B →
    t.wp Φ (fun l => post l ∧ l = r) env fun l v => B l v ∧ ∃ N, BE N l v = some r
  | .req _ t, _, _, _, hg, he, h => ⟨h.1, VC.wp_det t hg he h.2⟩
  | .ite c x y, env, _, BE, hg, ⟨N, he⟩, h => by
    simp only [VC.ev] at he
    refine ⟨fun hc => ?_, fun hc => ?_⟩
    · rw [if_pos hc] at he; exact VC.wp_det x hg ⟨N, he⟩ (h.1 hc)
    · rw [if_neg (by rw [hc]; simp)] at he; exact VC.wp_det y hg ⟨N, he⟩ (h.2 hc)
  | .loop _ l m fs init body, env, B, BE, hg, ⟨N, he⟩, h => by
    obtain ⟨I, μ, h0, hI⟩ := h
    refine ⟨fun vs => I vs ∧ ∃ N, roundsE (bodyE Φ N env l m fs body (BE N)) N vs = some r, μ, ⟨h0, N, he⟩, allN_of fun vs hl => kinds_of fun hk ⟨hv, N, hr⟩ => ?_⟩
    have hw := kinds_elim (allN_iff hI vs hl) hk hv
    have hb : ∃ N, body.ev Φ N (env ++ vs) (setE (BE N) l (roundsE (bodyE Φ N env l m fs body (BE N)) N)) = some r := by
      cases N with
      | zero => simp [roundsE] at hr
      | succ n =>
        simp only [roundsE, bodyE] at hr
        rw [if_pos ⟨hl, hk⟩] at hr
        exact ⟨n + 1, VC.ev_mono body (Nat.le_refl _) (leE_set (fun _ _ _ h => h) fun v r hr => rounds_mono (Nat.le_refl _) (fun _ _ _ h => h) (Nat.le_succ n) v r hr) hr⟩
    refine VC.wp_mono2 (fun _ h => h) _ _ _ _ (fun j v hj => ?_) (VC.wp_det body (BE := fun N => setE (BE N) l (roundsE (bodyE Φ N env l m fs body (BE N)) N)) (fun N N' hN => leE_set (hg N N' hN) fun v r hr => rounds_mono hN (hg N N' hN) hN v r hr) hb hw)
    obtain ⟨h1, N, h2⟩ := hj
    unfold setB at h1 ⊢
    unfold setE at h2
    by_cases e : j = l
    · rw [if_pos e] at h1 h2 ⊢
      exact ⟨⟨h1.1, N, h2⟩, h1.2⟩
    · rw [if_neg e] at h1 h2 ⊢
      exact ⟨h1, N, h2⟩
  | .back l es, env, _, BE, _, ⟨N, he⟩, h => ⟨h, N, he⟩
  | .ret es, env, _, _, _, ⟨N, he⟩, h => ⟨h, by simpa [VC.ev] using he⟩
  | .join _ l m fs x y, env, B, BE, hg, ⟨N, he⟩, h => by
    obtain ⟨I, h1, h2⟩ := h
    have hgx : growE fun N => setE (BE N) l fun vs => if vs.length = m ∧ kindsOk (env ++ vs) fs then y.ev Φ N (env ++ vs) (BE N) else some [] := fun N N' hN => leE_set (hg N N' hN) fun v r hr => by
      try dsimp only at hr ⊢
      split
      · rename_i hc
        rw [if_pos hc] at hr
        exact VC.ev_mono y hN (hg N N' hN) hr
      · rename_i hc
        rw [if_neg hc] at hr
        exact hr
    have hx := VC.wp_det x (BE := fun N => setE (BE N) l fun vs => if vs.length = m ∧ kindsOk (env ++ vs) fs then y.ev Φ N (env ++ vs) (BE N) else some []) hgx ⟨N, by simpa only [VC.ev] using he⟩ h1
    refine ⟨fun vs => I vs ∧ ∃ N, (if vs.length = m ∧ kindsOk (env ++ vs) fs then y.ev Φ N (env ++ vs) (BE N) else some []) = some r, VC.wp_mono2 (fun _ h => h) _ _ _ _ (fun j v hj => ?_) hx, allN_of fun vs hl => kinds_of fun hk ⟨hI, N, hr⟩ => ?_⟩
    · obtain ⟨q1, N, q2⟩ := hj
      unfold setB at q1 ⊢
      unfold setE at q2
      by_cases e : j = l
      · rw [if_pos e] at q1 ⊢
        simp only [if_pos e] at q2
        exact ⟨q1, N, q2⟩
      · rw [if_neg e] at q1 ⊢
        simp only [if_neg e] at q2
        exact ⟨q1, N, q2⟩
    · rw [if_pos ⟨hl, hk⟩] at hr
      exact VC.wp_det y hg ⟨N, hr⟩ (kinds_elim (allN_iff h2 vs hl) hk hI)

/-- Code that is shown to end with a property ends with one value of that property. -/
theorem VC.one {post : List D → Prop} {t : VC} {env : List D} (h : t.wp Φ post env fun _ _ => False) {l0 : List D} (h0 : post l0) : ∃ r, post r ∧ t.wp Φ (fun l => l = r) env fun _ _ => False := by
  obtain ⟨N, r, hr⟩ := VC.ev_ends t (BE := fun _ _ _ => none) (fun _ _ _ _ _ _ h => h) (fun _ _ h => h.elim) h
  have hw := VC.wp_det t (BE := fun _ _ _ => none) (fun _ _ _ _ _ _ h => h) ⟨N, hr⟩ h
  by_cases hp : post r
  · exact ⟨r, hp, VC.wp_mono2 (fun _ h => h.2) _ _ _ _ (fun _ _ h => h.1) hw⟩
  · exact ⟨l0, h0, VC.wp_mono2 (fun l h => absurd (h.2 ▸ h.1) hp) _ _ _ _ (fun _ _ h => h.1) hw⟩
end
end Go.Vx

/-
  Vx, part 55: a verification condition hangs on the models of the functions that it names; models that are chosen.
-/
namespace Go.Vx

/-! The functions that are named are of these. -/
def Opn.uses (S : Nat → Bool) : Opn → Bool
  | .fn f _ => S f
  | .map f _ => S f
  | _ => true
mutual
def E.uses (S : Nat → Bool) : E → Bool
  | .op o es => o.uses S && E.usesL S es
  | _ => true
def E.usesL (S : Nat → Bool) : List E → Bool
  | [] => true
  | e :: es => e.uses S && E.usesL S es
end
def VC.uses (S : Nat → Bool) : VC → Bool
  | .req cs t => E.usesL S cs && t.uses S
  | .ite c x y => c.uses S && (x.uses S && y.uses S)
  | .loop _ _ _ _ init body => E.usesL S init && body.uses S
  | .back _ es => E.usesL S es
  | .ret es => E.usesL S es
  | .join _ _ _ _ x y => x.uses S && y.uses S

section
variable {Φ Φ' : Fns} {S : Nat → Bool} (hS : ∀ f, S f = true → Φ f = Φ' f)
include hS
theorem opD_uses {o : Opn} (h : o.uses S = true) (ds : List D) : opD Φ o ds = opD Φ' o ds := by
  cases o with
  | fn f c => show Φ f c ds = Φ' f c ds; rw [hS f h]
  | map f c => simp only [opD]; rw [hS f h]
  | _ => rfl
omit hS in
mutual
theorem E.den_uses (hS : ∀ f, S f = true → Φ f = Φ' f) : ∀ (e : E) (_ : e.uses S = true) (env : List D), e.den Φ env = e.den Φ' env
  | .var _, _, _ => rfl
  | .int _, _, _ => rfl
  | .bool _, _, _ => rfl
  | .str _, _, _ => rfl
  | .nl, _, _ => rfl
  | .op o es, h, env => by
    simp only [E.uses, Bool.and_eq_true] at h
    show opD Φ o (E.dens Φ env es) = opD Φ' o (E.dens Φ' env es)
    rw [E.dens_uses hS es h.2 env, opD_uses hS h.1]
theorem E.dens_uses (hS : ∀ f, S f = true → Φ f = Φ' f) : ∀ (es : List E) (_ : E.usesL S es = true) (env : List D), E.dens Φ env es = E.dens Φ' env es
  | [], _, _ => rfl
  | e :: es, h, env => by
    simp only [E.usesL, Bool.and_eq_true] at h
    show e.den Φ env :: E.dens Φ env es = _
    rw [E.den_uses hS e h.1 env, E.dens_uses hS es h.2 env]
    rfl
end
theorem E.map_uses (es : List E) (h : E.usesL S es = true) (env : List D) : es.map (E.den Φ env) = es.map (E.den Φ' env) := by
  rw [← E.dens_map, ← E.dens_map, E.dens_uses hS es h env]
theorem conj_uses : ∀ (cs : List E) (_ : E.usesL S cs = true) (env : List D), conj Φ env cs = conj Φ' env cs
  | [], _, _ => rfl
  | c :: cs, h, env => by
    simp only [E.usesL, Bool.and_eq_true] at h
    show ((c.den Φ env).asBool = true ∧ conj Φ env cs) = ((c.den Φ' env).asBool = true ∧ conj Φ' env cs)
    rw [E.den_uses hS c h.1 env, conj_uses cs h.2 env]
theorem VC.wp_uses {post : List D → Prop} : ∀ (t : VC) (_ : t.uses S = true) (env : List D) (B : Nat → List D → Prop), t.wp Φ post env B = t.wp Φ' post env B
  | .req cs t, h, env, B => by
    simp only [VC.uses, Bool.and_eq_true] at h
    simp only [VC.wp]
    rw [conj_uses hS cs h.1 env, VC.wp_uses t h.2 env B]
  | .ite c x y, h, env, B => by
    simp only [VC.uses, Bool.and_eq_true] at h
    simp only [VC.wp]
    rw [E.den_uses hS c h.1 env, VC.wp_uses x h.2.1 env B, VC.wp_uses y h.2.2 env B]
  | .loop _ l m fs init body, h, env, B => by
    simp only [VC.uses, Bool.and_eq_true] at h
    simp only [VC.wp]
    rw [E.map_uses hS init h.1 env]
    simp only [VC.wp_uses body h.2]
  | .back l es, h, env, B => by
    simp only [VC.wp]
    rw [E.map_uses hS es h env]
  | .ret es, h, env, B => by
    simp only [VC.wp]
    rw [E.map_uses hS es h env]
  | .join _ l m fs x y, h, env, B => by
    simp only [VC.uses, Bool.and_eq_true] at h
    simp only [VC.wp, VC.wp_uses x h.1, VC.wp_uses y h.2]
end

open Classical in
/-- The value that the code ends with, where it is shown to end with this property; else any. -/
noncomputable def pickV (Φ : Fns) (t : VC) (post : List D → Prop) (ds : List D) : List D :=
  if h : ∃ r, post r ∧ t.wp Φ (fun l => l = r) ds fun _ _ => False then Classical.choose h else []
theorem pickV_ok {Φ : Fns} {t : VC} {post : List D → Prop} {ds : List D} (h : t.wp Φ post ds fun _ _ => False) {l0 : List D} (h0 : post l0) : post (pickV Φ t post ds) ∧ t.wp Φ (fun l => l = pickV Φ t post ds) ds fun _ _ => False := by
  have hx := VC.one h h0
  unfold pickV
  rw [dif_pos hx]
  exact Classical.choose_spec hx
end Go.Vx

/-
  Vx, part 56: contracts by properties alone: the model of a function is chosen once its code is shown to end with a property.
-/
namespace Go.Vx

/-- Results, and boxes afterwards, out of the values that the code ends with. -/
def rcomp : List RSh → List D → Nat → D
  | [], _, _ => default
  | .one _ :: _, l, 0 => l.headD default
  | .agg cs :: _, l, 0 => .sl [l.take cs.length]
  | r :: rs, l, n + 1 => rcomp rs (l.drop r.cells.length) n
def bcomp : List BSh → List D → Nat → D
  | [], _, _ => default
  | .box _ cs :: _, l, 0 => .sl [l.take cs.length]
  | .box _ cs :: ss, l, n + 1 => bcomp ss (l.drop cs.length) n
  | .im _ :: ss, l, n => bcomp ss l n
  | .one _ :: ss, l, n => bcomp ss l n
  | .agg _ :: ss, l, n => bcomp ss l n

theorem range_id {cs : List RC} {l : List D} (h : cs.length ≤ l.length) : (List.range cs.length).map (fun j => (l.take cs.length).getD j default) = l.take cs.length := by
  apply List.ext_getElem
  · simp; omega
  · intro i h1 h2
    simp at h1 h2
    simp [List.getD_eq_getElem?_getD, h1, List.getElem?_take, show i < l.length by omega]

theorem ret_comp : ∀ (rs : List RSh) (l : List D) (c0 : Nat) (φ : Nat → D), l.length = (rs.flatMap RSh.cells).length → (∀ c, c < rs.length → φ (c0 + c) = rcomp rs l c) → retDs φ c0 rs = l
  | [], l, c0, φ, hl, _ => by simp at hl; subst hl; rfl
  | r :: rs, l, c0, φ, hl, h => by
    simp only [List.flatMap_cons, List.length_append] at hl
    have h0 := h 0 (by simp)
    rw [Nat.add_zero] at h0
    have ih := ret_comp rs (l.drop r.cells.length) (c0 + 1) φ (by rw [List.length_drop]; omega) fun c hc => by
      have := h (c + 1) (by simpa using hc)
      rw [show c0 + 1 + c = c0 + (c + 1) by omega, this]
      cases r <;> rfl
    show r.ds (φ c0) ++ retDs φ (c0 + 1) rs = l
    rw [ih, h0]
    have : r.ds (rcomp (r :: rs) l 0) = l.take r.cells.length := by
      cases r with
      | one c =>
        cases l with
        | nil => simp [RSh.cells] at hl; omega
        | cons x l => simp [RSh.ds, rcomp, RSh.cells]
      | agg cs =>
        show (List.range cs.length).map (fun j => (l.take cs.length).getD j default) = l.take cs.length
        exact range_id (by simp only [RSh.cells] at hl; omega)
    rw [this, List.take_append_drop]

theorem rcomp_take : ∀ (rs : List RSh) (l : List D) (c : Nat), c < rs.length → rcomp rs l c = rcomp rs (l.take (rs.flatMap RSh.cells).length) c
  | [], _, _, h => by simp at h
  | .one c :: rs, l, 0, _ => by
    show l.headD default = (l.take _).headD default
    cases l with
    | nil => simp
    | cons x l =>
      rw [show ((RSh.one c :: rs).flatMap RSh.cells).length = (rs.flatMap RSh.cells).length + 1 by simp only [List.flatMap_cons, RSh.cells, List.length_append, List.length_cons, List.length_nil]; omega]
      rfl
  | .agg cs :: rs, l, 0, _ => by
    show D.sl [l.take cs.length] = .sl [(l.take _).take cs.length]
    rw [List.take_take, Nat.min_eq_left (by simp [RSh.cells])]
  | r :: rs, l, n + 1, h => by
    have ih := rcomp_take rs (l.drop r.cells.length) n (by simpa using h)
    have e : ∀ l, rcomp (r :: rs) l (n + 1) = rcomp rs (l.drop r.cells.length) n := fun l => by cases r <;> rfl
    rw [e, e, ih]
    congr 1
    rw [List.drop_take]
    congr 1
    simp

theorem out_comp : ∀ (ss : List BSh) (l : List D) (n0 : Nat) (φ : Nat → D), l.length = (boxRC ss).length → (∀ n, φ (n0 + n) = bcomp ss l n) → outDs φ n0 ss = l
  | [], l, n0, φ, hl, _ => by simp [boxRC] at hl; subst hl; rfl
  | .im _ :: ss, l, n0, φ, hl, h => out_comp ss l n0 φ hl h
  | .one _ :: ss, l, n0, φ, hl, h => out_comp ss l n0 φ hl h
  | .agg _ :: ss, l, n0, φ, hl, h => out_comp ss l n0 φ hl h
  | .box T cs :: ss, l, n0, φ, hl, h => by
    simp only [boxRC, List.length_append, List.length_map] at hl
    have h0 := h 0
    rw [Nat.add_zero] at h0
    have ih := out_comp ss (l.drop cs.length) (n0 + 1) φ (by rw [List.length_drop]; omega) fun n => by
      rw [show n0 + 1 + n = n0 + (n + 1) by omega, h (n + 1)]; rfl
    show (List.range cs.length).map (fun j => (φ n0).row.getD j default) ++ outDs φ (n0 + 1) ss = l
    rw [ih, h0]
    have := range_id (cs := cs.map BC.rc) (l := l) (by simp; omega)
    rw [List.length_map] at this
    show (List.range cs.length).map (fun j => (l.take cs.length).getD j default) ++ _ = l
    rw [this, List.take_append_drop]

theorem Good1.tr {P : Program} {Φ Φ' : Fns} {t : Told1} (h : Φ' t.f = Φ t.f) (g : Good1 P Φ t) : Good1 P Φ' t := by
  unfold Good1 at *
  rw [h]
  exact g
/-- The same models but for one function. -/
def But (Φ Φ' : Fns) (f : Nat) : Prop := ∀ g, g ≠ f → Φ' g = Φ g
theorem But.wp {Φ Φ' : Fns} {f : Nat} (h : But Φ Φ' f) {t : VC} (hu : t.uses (fun g => !(g == f)) = true) {post : List D → Prop} {env : List D} {B : Nat → List D → Prop} : t.wp Φ' post env B = t.wp Φ post env B :=
  VC.wp_uses (S := fun g => !(g == f)) (fun g hg => h g (by simpa using hg)) t hu env B
theorem But.goods {P : Program} {Φ Φ' : Fns} {f : Nat} (h : But Φ Φ' f) {l : List Told1} (hl : ∀ t ∈ l, Good1 P Φ t) (hn : (l.all fun t => !(t.f == f)) = true) : ∀ t ∈ l, Good1 P Φ' t := fun t ht =>
  (hl t ht).tr (h _ (by have := List.all_eq_true.1 hn t ht; simpa using this))

open Classical in
/-- The chosen model. -/
noncomputable def picked (t : Told1) (Φ : Fns) (vc : VC) (pre : List D → Prop) (post : List D → List D → Prop) (c : Nat) (ds : List D) : D :=
  if c = 1000 then .bool (decide (pre ds)) else
    if 2000 ≤ c then bcomp (t.bs.getD []) ((pickV Φ vc (post ds) ds).drop (t.rets.flatMap RSh.cells).length) (c - 2000) else
      match t.nb with
      | some _ => .sl [pickV Φ vc (post ds) ds]
      | none => rcomp t.rets (pickV Φ vc (post ds) ds) c
noncomputable def putΦ (Φ : Fns) (f : Nat) (φ : Nat → List D → D) : Fns := fun g => if g = f then φ else Φ g
theorem putΦ_same (Φ : Fns) (f : Nat) (φ : Nat → List D → D) : putΦ Φ f φ f = φ := if_pos rfl
theorem putΦ_but (Φ : Fns) (f : Nat) (φ : Nat → List D → D) : But Φ (putΦ Φ f φ) f := fun _ h => if_neg h

section
variable {P : Program} {Φ : Fns} {T : TypeId → TI} (tok : ∀ t, (T t).ok = true → TOk P T t) (hm : P.follows .mixedOrders = true) {l : List Told1} (hl : ∀ t ∈ l, Good1 P Φ t) {t : Told1} {fn : Func} {hs : List Hint} {vc : VC}
  (hf : P.funcs[t.f]? = some fn) (hn : fn.name ≠ "runtime.NumGoroutine")
  (hu : vc.uses (fun g => !(g == t.f)) = true) (ha : (l.all fun s => !(s.f == t.f)) = true)
  (pre : List D → Prop) (post : List D → List D → Prop)
include tok hm hl hf hn hu ha

/-- A function that is handed boxes, by a property of what its code ends with. -/
theorem stageB {args : List BSh} (hlen : args.length ≤ fn.ntmps) (hk : nodupB ((argBs 0 args).2.map (·.1)) = true) (hv : vcB T (sigs l) hs fn args t.rets = some vc)
    (hw : ∀ ds, ds.length = args.length → pre ds → vc.wp Φ (post ds) ds fun _ _ => False) (h0 : ∀ ds, ds.length = args.length → pre ds → ∃ r, post ds r)
    (hp : ∀ ds r, post ds r → r.length = (t.rets.flatMap RSh.cells).length + (boxRC args).length) (hr : t.rets.length ≤ 1000)
    (hx : t.xs = none := by rfl) (hbs : t.bs = some args := by rfl) (hso : t.so = none := by rfl) (hnb : t.nb = none := by rfl) :
    ∃ Φ', But Φ Φ' t.f ∧ Good1 P Φ' t ∧ ∀ ds, ds.length = args.length → pre ds → (Φ' t.f 1000 ds).asBool = true ∧ post ds (retDs (fun c => Φ' t.f c ds) 0 t.rets ++ outDs (fun n => Φ' t.f (2000 + n) ds) 0 args) := by
  let φ := picked t Φ vc pre post
  have hb := putΦ_but Φ t.f φ
  have hs' : putΦ Φ t.f φ t.f = φ := putΦ_same Φ t.f φ
  have key : ∀ ds, ds.length = args.length → pre ds → post ds (pickV Φ vc (post ds) ds) ∧ vc.wp Φ (fun l => l = pickV Φ vc (post ds) ds) ds (fun _ _ => False) := fun ds hd hp' =>
    let ⟨r0, hr0⟩ := h0 ds hd hp'
    pickV_ok (hw ds hd hp') hr0
  have hval : ∀ ds, ds.length = args.length → pre ds → retDs (fun c => φ c ds) 0 t.rets ++ outDs (fun n => φ (2000 + n) ds) 0 args = pickV Φ vc (post ds) ds := fun ds hd hp' => by
    have hlen := hp ds _ (key ds hd hp').1
    rw [ret_comp t.rets ((pickV Φ vc (post ds) ds).take (t.rets.flatMap RSh.cells).length) 0 (fun c => φ c ds) (by rw [List.length_take]; omega), out_comp args ((pickV Φ vc (post ds) ds).drop (t.rets.flatMap RSh.cells).length) 0 (fun n => φ (2000 + n) ds) (by rw [List.length_drop]; omega), List.take_append_drop]
    · intro n
      simp only [φ, picked, Nat.zero_add]
      rw [if_neg (by omega), if_pos (by omega), hbs, Nat.add_sub_cancel_left]
      rfl
    · intro c hc
      simp only [φ, picked, Nat.zero_add]
      rw [if_neg (by omega), if_neg (by omega), hnb]
      simp only
      exact rcomp_take t.rets _ c hc
  refine ⟨putΦ Φ t.f φ, hb, ?_, fun ds hd hp' => ?_⟩
  · refine goodB tok hm (hb.goods hl ha) hf hn hlen hk hv (fun ds hd hpre => ?_) hx hbs hso
    rw [hs'] at hpre ⊢
    have hpre : pre ds := by simpa [φ, picked, D.asBool] using hpre
    rw [hb.wp hu, hval ds hd hpre]
    exact (key ds hd hpre).2
  · rw [hs', hval ds hd hp']
    exact ⟨by simp [φ, picked, hp', D.asBool], (key ds hd hp').1⟩

/-- A plain function. -/
theorem stageR (hlen : t.args.length ≤ fn.ntmps) (hv : vcOf T (sigs l) hs fn t.args t.rets = some vc)
    (hw : ∀ ds, ds.length = t.args.length → WFAs t.args ds → pre ds → vc.wp Φ (post ds) ds fun _ _ => False) (h0 : ∀ ds, ds.length = t.args.length → pre ds → ∃ r, post ds r)
    (hp : ∀ ds r, post ds r → r.length = (t.rets.flatMap RSh.cells).length) (hr : t.rets.length ≤ 1000)
    (hx : t.xs = none := by rfl) (hbs : t.bs = none := by rfl) (hso : t.so = none := by rfl) (hnb : t.nb = none := by rfl) :
    ∃ Φ', But Φ Φ' t.f ∧ Good1 P Φ' t ∧ ∀ ds, ds.length = t.args.length → WFAs t.args ds → pre ds → (Φ' t.f 1000 ds).asBool = true ∧ post ds (retDs (fun c => Φ' t.f c ds) 0 t.rets) := by
  let φ := picked t Φ vc pre post
  have hb := putΦ_but Φ t.f φ
  have hs' : putΦ Φ t.f φ t.f = φ := putΦ_same Φ t.f φ
  have key : ∀ ds, ds.length = t.args.length → WFAs t.args ds → pre ds → post ds (pickV Φ vc (post ds) ds) ∧ vc.wp Φ (fun l => l = pickV Φ vc (post ds) ds) ds (fun _ _ => False) := fun ds hd hwf hp' =>
    let ⟨r0, hr0⟩ := h0 ds hd hp'
    pickV_ok (hw ds hd hwf hp') hr0
  have hval : ∀ ds, ds.length = t.args.length → WFAs t.args ds → pre ds → retDs (fun c => φ c ds) 0 t.rets = pickV Φ vc (post ds) ds := fun ds hd hwf hp' => by
    have hlen := hp ds _ (key ds hd hwf hp').1
    rw [ret_comp t.rets (pickV Φ vc (post ds) ds) 0 (fun c => φ c ds) (by omega)]
    intro c hc
    simp only [φ, picked, Nat.zero_add]
    rw [if_neg (by omega), if_neg (by omega), hnb]
  refine ⟨putΦ Φ t.f φ, hb, ?_, fun ds hd hwf hp' => ?_⟩
  · refine good1 tok hm (hb.goods hl ha) hf hn hlen hv (fun ds hd hwf hpre => ?_) hx hbs hso hnb
    rw [hs'] at hpre ⊢
    have hpre : pre ds := by simpa [φ, picked, D.asBool] using hpre
    rw [hb.wp hu, hval ds hd hwf hpre]
    exact (key ds hd hwf hpre).2
  · rw [hs', hval ds hd hwf hp']
    exact ⟨by simp [φ, picked, hp', D.asBool], (key ds hd hwf hp').1⟩

/-- A function that makes a variable. -/
theorem stageN {q : TypeId × List K} (hlen : t.args.length ≤ fn.ntmps) (hv : vcN T (sigs l) hs fn t.args q.1 q.2 = some vc)
    (hw : ∀ ds, ds.length = t.args.length → WFAs t.args ds → pre ds → vc.wp Φ (post ds) ds fun _ _ => False) (h0 : ∀ ds, ds.length = t.args.length → pre ds → ∃ r, post ds r)
    (hx : t.xs = none := by rfl) (hbs : t.bs = none := by rfl) (hso : t.so = none := by rfl) (hnb : t.nb = some q := by rfl) :
    ∃ Φ', But Φ Φ' t.f ∧ Good1 P Φ' t ∧ ∀ ds, ds.length = t.args.length → WFAs t.args ds → pre ds → (Φ' t.f 1000 ds).asBool = true ∧ post ds (Φ' t.f 0 ds).row := by
  let φ := picked t Φ vc pre post
  have hb := putΦ_but Φ t.f φ
  have hs' : putΦ Φ t.f φ t.f = φ := putΦ_same Φ t.f φ
  have key : ∀ ds, ds.length = t.args.length → WFAs t.args ds → pre ds → post ds (pickV Φ vc (post ds) ds) ∧ vc.wp Φ (fun l => l = pickV Φ vc (post ds) ds) ds (fun _ _ => False) := fun ds hd hwf hp' =>
    let ⟨r0, hr0⟩ := h0 ds hd hp'
    pickV_ok (hw ds hd hwf hp') hr0
  have hval : ∀ ds, (φ 0 ds).row = pickV Φ vc (post ds) ds := fun ds => by
    simp only [φ, picked]
    rw [if_neg (by omega), if_neg (by omega), hnb]
    rfl
  refine ⟨putΦ Φ t.f φ, hb, ?_, fun ds hd hwf hp' => ?_⟩
  · refine goodN tok hm (hb.goods hl ha) hf hn hlen hv (fun ds hd hwf hpre => ?_) hx hbs hso hnb
    rw [hs'] at hpre ⊢
    have hpre : pre ds := by simpa [φ, picked, D.asBool] using hpre
    rw [hb.wp hu, hval ds]
    exact (key ds hd hwf hpre).2
  · rw [hs', hval ds]
    exact ⟨by simp [φ, picked, hp', D.asBool], (key ds hd hwf hp').1⟩
end
end Go.Vx

/-
  Vx, part 57: functions that draw: a cursor is handed about; chosen models, one after the other.
-/
namespace Go.Vx

/-- A cursor. -/
def curR (r : List D) : Prop := (cell r 0).asList.length ≤ 1048576 ∧ 0 ≤ (cell r 1).asInt
abbrev curOk (c : D) : Prop := curR c.row
@[simp] theorem curR_cells (r : List D) : curR [cell r 0, cell r 1, cell r 2] = curR r := rfl

/-- What is told of a function's model. -/
abbrev Fact := Nat × ((Nat → List D → D) → Prop)
/-- Models that keep to what is told; all others as they were. -/
structure Kept (Φ0 : Fns) (fs : List Fact) (Φ : Fns) : Prop where
  holds : ∀ x ∈ fs, x.2 (Φ x.1)
  base : ∀ f, (fs.any fun x => x.1 == f) = false → Φ f = Φ0 f
theorem Kept.nil (Φ0 : Fns) : Kept Φ0 [] Φ0 := ⟨fun x hx => by simp at hx, fun _ _ => rfl⟩
theorem Kept.step {Φ0 Φ : Fns} {fs : List Fact} (h : Kept Φ0 fs Φ) {f : Nat} {p : (Nat → List D → D) → Prop} (hf : (fs.any fun x => x.1 == f) = false) (hp : ∃ φ, p φ) : ∃ Φ', Kept Φ0 ((f, p) :: fs) Φ' := by
  obtain ⟨φ, hp⟩ := hp
  refine ⟨putΦ Φ f φ, fun x hx => ?_, fun g hg => ?_⟩
  · rcases List.mem_cons.1 hx with rfl | hx
    · show p (putΦ Φ f φ f)
      rw [putΦ_same]
      exact hp
    · have : x.1 ≠ f := fun e => by
        have := List.any_eq_false.1 hf x hx
        simp [e] at this
      rw [putΦ_but Φ f φ x.1 this]
      exact h.holds x hx
  · simp only [List.any_cons, Bool.or_eq_false_iff, beq_eq_false_iff_ne, ne_eq] at hg
    rw [putΦ_but Φ f φ g (fun e => hg.1 e.symm)]
    exact h.base g hg.2
theorem Kept.add {Φ0 Φ : Fns} {fs : List Fact} (h : Kept Φ0 fs Φ) (x : Fact) (hf : (fs.any fun y => y.1 == x.1) = false) (hp : ∃ φ, x.2 φ) : ∃ Φ', Kept Φ0 (x :: fs) Φ' := h.step hf hp
theorem Kept.at' {Φ0 Φ : Fns} {fs : List Fact} (h : Kept Φ0 fs Φ) (n : Nat) {x : Fact} (hx : fs[n]? = some x) : x.2 (Φ x.1) := h.holds x (List.mem_of_getElem? hx)

/-- What the code of a draw ends with: so many results, and the cursor. -/
def dpost (n : Nat) (Q : List D → Prop) (l : List D) : Prop := ∃ r b i h, l = r ++ [b, i, h] ∧ r.length = n ∧ Q r ∧ curR [b, i, h]
theorem dpost_of {n : Nat} {Q : List D → Prop} {r : List D} {b i h : D} (hr : r.length = n) : dpost n Q (r ++ [b, i, h]) = (Q r ∧ curR [b, i, h]) := by
  apply propext
  constructor
  · rintro ⟨r', b', i', h', e, e2, q1, q2⟩
    obtain ⟨e3, e4⟩ := List.append_inj e (by omega)
    subst e3
    simp only [List.cons.injEq, and_true] at e4
    obtain ⟨rfl, rfl, rfl⟩ := e4
    exact ⟨q1, q2⟩
  · rintro ⟨q1, q2⟩
    exact ⟨r, b, i, h, rfl, hr, q1, q2⟩
section
variable {Q : List D → Prop} {x y z u b i h : D}
@[simp] theorem dpost_0 : dpost 0 Q [b, i, h] = (Q [] ∧ curR [b, i, h]) := dpost_of (r := []) rfl
@[simp] theorem dpost_1 : dpost 1 Q [x, b, i, h] = (Q [x] ∧ curR [b, i, h]) := dpost_of (r := [x]) rfl
@[simp] theorem dpost_2 : dpost 2 Q [x, y, b, i, h] = (Q [x, y] ∧ curR [b, i, h]) := dpost_of (r := [x, y]) rfl
@[simp] theorem dpost_4 : dpost 4 Q [x, y, z, u, b, i, h] = (Q [x, y, z, u] ∧ curR [b, i, h]) := dpost_of (r := [x, y, z, u]) rfl
end

/-- What a draw gives: its results, and the cursor goes on. -/
def DrawF (rs : List RSh) (pre : List D → Prop) (post : List D → List D → Prop) (φ : Nat → List D → D) : Prop :=
  ∀ c rest, curOk c → pre rest → (φ 1000 (c :: rest)).asBool = true ∧ post rest (retDs (fun n => φ n (c :: rest)) 0 rs) ∧ curOk (φ 2000 (c :: rest))
abbrev PlainF (t : Told1) (pre : List D → Prop) (post : List D → List D → Prop) (φ : Nat → List D → D) : Prop :=
  ∀ ds, ds.length = t.args.length → WFAs t.args ds → pre ds → (φ 1000 ds).asBool = true ∧ post ds (retDs (fun c => φ c ds) 0 t.rets)

def BSh.noBox : BSh → Bool
  | .box _ _ => false
  | _ => true
theorem noBox_rc : ∀ {ss : List BSh}, ss.all BSh.noBox = true → boxRC ss = []
  | [], _ => rfl
  | .im _ :: ss, h => noBox_rc (ss := ss) (by simpa [BSh.noBox] using h)
  | .one _ :: ss, h => noBox_rc (ss := ss) (by simpa [BSh.noBox] using h)
  | .agg _ :: ss, h => noBox_rc (ss := ss) (by simpa [BSh.noBox] using h)
  | .box _ _ :: ss, h => by simp [BSh.noBox] at h
theorem noBox_out {φ : Nat → D} : ∀ {ss : List BSh} {n : Nat}, ss.all BSh.noBox = true → outDs φ n ss = []
  | [], _, _ => rfl
  | .im _ :: ss, n, h => noBox_out (ss := ss) (n := n) (by simpa [BSh.noBox] using h)
  | .one _ :: ss, n, h => noBox_out (ss := ss) (n := n) (by simpa [BSh.noBox] using h)
  | .agg _ :: ss, n, h => noBox_out (ss := ss) (n := n) (by simpa [BSh.noBox] using h)
  | .box _ _ :: ss, _, h => by simp [BSh.noBox] at h
theorem ds_len (r : RSh) (d : D) : (r.ds d).length = r.cells.length := by cases r <;> simp [RSh.ds, RSh.cells]
theorem retDs_len (φ : Nat → D) : ∀ (rs : List RSh) (c : Nat), (retDs φ c rs).length = (rs.flatMap RSh.cells).length
  | [], _ => rfl
  | r :: rs, c => by
    show (r.ds (φ c) ++ retDs φ (c + 1) rs).length = _
    rw [List.length_append, ds_len, retDs_len φ rs (c + 1), List.flatMap_cons, List.length_append]

section
variable {P : Program} {Φ : Fns} {T : TypeId → TI} (tok : ∀ t, (T t).ok = true → TOk P T t) (hm : P.follows .mixedOrders = true) {l : List Told1} (hl : ∀ t ∈ l, Good1 P Φ t) {t : Told1} {fn : Func} {hs : List Hint} {vc : VC}
  (hf : P.funcs[t.f]? = some fn) (hn : fn.name ≠ "runtime.NumGoroutine")
  (hu : vc.uses (fun g => !(g == t.f)) = true) (ha : (l.all fun s => !(s.f == t.f)) = true)
  (pre : List D → Prop) (post : List D → List D → Prop)
include tok hm hl hf hn hu ha

theorem drawB {bt : TypeId} {k1 k2 k3 : K} {ss : List BSh} (hss : ss.all BSh.noBox = true) (hlen : ss.length + 1 ≤ fn.ntmps) (hk : nodupB ((argBs 0 (.box bt [.im k1, .im k2, .im k3] :: ss)).2.map (·.1)) = true) (hv : vcB T (sigs l) hs fn (.box bt [.im k1, .im k2, .im k3] :: ss) t.rets = some vc)
    (hpl : ∀ rest, pre rest → rest.length = ss.length) (h0 : ∀ rest, pre rest → ∃ r : List D, r.length = (t.rets.flatMap RSh.cells).length ∧ post rest r)
    (hw : ∀ c rest, curOk c → pre rest → vc.wp Φ (dpost (t.rets.flatMap RSh.cells).length (post rest)) (c :: rest) fun _ _ => False)
    (hr : t.rets.length ≤ 1000 := by decide)
    (hx : t.xs = none := by rfl) (hbs : t.bs = some (.box bt [.im k1, .im k2, .im k3] :: ss) := by rfl) (hso : t.so = none := by rfl) (hnb : t.nb = none := by rfl) :
    ∃ φ, Good1 P (fun _ => φ) t ∧ DrawF t.rets pre post φ := by
  obtain ⟨Φ', _, hg, hp⟩ := stageB tok hm hl hf hn hu ha (fun ds => curOk (cell ds 0) ∧ pre ds.tail) (fun ds l => ∃ r b i h, l = r ++ [b, i, h] ∧ r.length = (t.rets.flatMap RSh.cells).length ∧ post ds.tail r ∧ curR [b, i, h])
    (args := .box bt [.im k1, .im k2, .im k3] :: ss) hlen hk hv (fun ds hd ⟨h1, h2⟩ => by
      match ds, hd with
      | c :: rest, _ => exact hw c rest h1 h2) (fun ds hd ⟨h1, h2⟩ => by
      obtain ⟨r, q1, q2⟩ := h0 _ h2
      exact ⟨r ++ [.sl [], .int 0, .int 0], r, _, _, _, rfl, q1, q2, by simp [curR, D.asList, D.asInt]⟩) (fun ds l ⟨r, b, i, h, e, e2, _⟩ => by
      subst e
      simp [boxRC, noBox_rc hss, e2]) hr hx hbs hso hnb
  refine ⟨Φ' t.f, hg, fun c rest hc hpre => ?_⟩
  obtain ⟨q1, r, b, i, h, e, e2, q2, q3⟩ := hp (c :: rest) (by simp [hpl rest hpre]) ⟨hc, hpre⟩
  have e3 := List.append_inj e (by rw [retDs_len, e2])
  refine ⟨q1, by rw [e3.1]; exact q2, ?_⟩
  have e4 := e3.2
  simp only [outDs, noBox_out hss, List.append_nil] at e4
  have e5 : [cell (Φ' t.f 2000 (c :: rest)).row 0, cell (Φ' t.f 2000 (c :: rest)).row 1, cell (Φ' t.f 2000 (c :: rest)).row 2] = [b, i, h] := e4
  rw [← e5, curR_cells] at q3
  exact q3

theorem drawR (hlen : t.args.length ≤ fn.ntmps) (hv : vcOf T (sigs l) hs fn t.args t.rets = some vc)
    (hw : ∀ ds, ds.length = t.args.length → WFAs t.args ds → pre ds → vc.wp Φ (post ds) ds fun _ _ => False) (h0 : ∀ ds, ds.length = t.args.length → pre ds → ∃ r, post ds r)
    (hp : ∀ ds r, post ds r → r.length = (t.rets.flatMap RSh.cells).length) (hr : t.rets.length ≤ 1000 := by decide)
    (hx : t.xs = none := by rfl) (hbs : t.bs = none := by rfl) (hso : t.so = none := by rfl) (hnb : t.nb = none := by rfl) :
    ∃ φ, Good1 P (fun _ => φ) t ∧ PlainF t pre post φ := by
  obtain ⟨Φ', _, hg, hq⟩ := stageR tok hm hl hf hn hu ha pre post hlen hv hw h0 hp hr hx hbs hso hnb
  exact ⟨Φ' t.f, hg, hq⟩

theorem drawN {q : TypeId × List K} (hlen : t.args.length ≤ fn.ntmps) (hv : vcN T (sigs l) hs fn t.args q.1 q.2 = some vc)
    (hw : ∀ ds, ds.length = t.args.length → WFAs t.args ds → pre ds → vc.wp Φ (post ds) ds fun _ _ => False) (h0 : ∀ ds, ds.length = t.args.length → pre ds → ∃ r, post ds r)
    (hx : t.xs = none := by rfl) (hbs : t.bs = none := by rfl) (hso : t.so = none := by rfl) (hnb : t.nb = some q := by rfl) :
    ∃ φ, Good1 P (fun _ => φ) t ∧ ∀ ds, ds.length = t.args.length → WFAs t.args ds → pre ds → (φ 1000 ds).asBool = true ∧ post ds (φ 0 ds).row := by
  obtain ⟨Φ', _, hg, hq⟩ := stageN tok hm hl hf hn hu ha pre post hlen hv hw h0 hx hbs hso hnb
  exact ⟨Φ' t.f, hg, hq⟩
end

/-- The last eight bits. -/
theorem and255 (x : Int) : ∃ n : Nat, n < 256 ∧ intV .and .i64 x 255 = .int n := by
  refine ⟨(BitVec.ofInt 64 x &&& BitVec.ofInt 64 255).toNat, ?_, ?_⟩
  · rw [BitVec.toNat_and]
    have : (BitVec.ofInt 64 255).toNat = 255 := by decide
    rw [this]
    exact Nat.lt_succ_of_le Nat.and_le_right
  · show D.int (IntKind.i64.wrap _) = _
    have h : (BitVec.ofInt 64 x &&& BitVec.ofInt 64 255).toNat < 256 := by
      rw [BitVec.toNat_and]
      have : (BitVec.ofInt 64 255).toNat = 255 := by decide
      rw [this]
      exact Nat.lt_succ_of_le Nat.and_le_right
    congr 1
    exact w64 (by show -9223372036854775808 ≤ (((BitVec.ofInt 64 x &&& BitVec.ofInt 64 255).toNat : Nat) : Int); omega) (by show (((BitVec.ofInt 64 x &&& BitVec.ofInt 64 255).toNat : Nat) : Int) ≤ _; omega)
theorem rem_range {x y : Int} (hx : 0 ≤ x) (hy : 0 < y) : 0 ≤ x.tmod y ∧ x.tmod y < y := ⟨Int.tmod_nonneg _ hx, Int.tmod_lt_of_pos _ hy⟩
end Go.Vx


/-
  What was sent last: by hand.
-/
import Derived.Test.YtpgpkomolheinaaS3
import Derived.WalkKit
namespace Go.Proofs.Ytpgpkomolheinaa
open Go.Vx Go.RowKit

abbrev box0 : Obj := .cells #[.slice none 0 0, .int .i64 0, .int .i64 0, .string ByteArray.empty] 53 (0, 0)
theorem box_cells {w : World} {z : Nat} (h : w.heap[z]? = some box0) : w.cell? ⟨z, 0, none⟩ = some (.slice none 0 0) ∧ w.cell? ⟨z, 1, none⟩ = some (.int .i64 0) ∧ w.cell? ⟨z, 2, none⟩ = some (.int .i64 0) ∧ w.cell? ⟨z, 3, none⟩ = some (.string ByteArray.empty) ∧
    w.frozen? ⟨z, 0, none⟩ = false ∧ w.frozen? ⟨z, 1, none⟩ = false ∧ w.frozen? ⟨z, 2, none⟩ = false ∧ w.frozen? ⟨z, 3, none⟩ = false := by
  simp [World.cell?, World.frozen?, h]

set_option maxHeartbeats 1000000 in
theorem walkimpl (v0 v1 : Value) (w : World) (R : Option Addr → Nat → Nat → Int → Int → ByteArray → World → Prop) (R0 : World → Prop) (h : Calls Try.prog 34 #[v0, v1] (w.alloc box0) fun e w1 =>
      (∃ (b o cap n : Nat) (a : Option Addr) (l c : Nat) (s t : Int) (nt : ByteArray), e = .returned (.slice (some ⟨b, o, none⟩) (n + 1) cap) ∧ n + 1 ≤ 140737488355328 ∧ w1.heap[w.heap.size]? = some box0 ∧ b ≠ w.heap.size ∧ w1.cell? ⟨b, o + n * 4, none⟩ = some (.slice a l c) ∧
        w1.cell? ⟨b, o + n * 4 + 1, none⟩ = some (.int .i64 s) ∧ w1.cell? ⟨b, o + n * 4 + 2, none⟩ = some (.int .i64 t) ∧ w1.cell? ⟨b, o + n * 4 + 3, none⟩ = some (.string nt) ∧ R a l c s t nt w1) ∨
      (∃ (a : Option Addr) (cap : Nat), e = .returned (.slice a 0 cap) ∧ w1.heap[w.heap.size]? = some box0 ∧ R0 w1)) :
    Calls Try.prog 38 #[v0, v1] w fun e w' =>
      (∃ a l c s t nt w1, e = .returned (.tuple #[.agg #[.slice a l c, .int .i64 s, .int .i64 t, .string nt], .bool true]) ∧ R a l c s t nt w1 ∧
        w' = (((w1.setCell ⟨w.heap.size, 0, none⟩ (.slice a l c)).setCell ⟨w.heap.size, 1, none⟩ (.int .i64 s)).setCell ⟨w.heap.size, 2, none⟩ (.int .i64 t)).setCell ⟨w.heap.size, 3, none⟩ (.string nt)) ∨
      (∃ w1, e = .returned (.tuple #[.agg #[.slice none 0 0, .int .i64 0, .int .i64 0, .string ByteArray.empty], .bool false]) ∧ R0 w1 ∧
        w' = (((w1.setCell ⟨w.heap.size, 0, none⟩ (.slice none 0 0)).setCell ⟨w.heap.size, 1, none⟩ (.int .i64 0)).setCell ⟨w.heap.size, 2, none⟩ (.int .i64 0)).setCell ⟨w.heap.size, 3, none⟩ (.string ByteArray.empty)) := by
  go_enter Try.func38, Try.ntmps38
  go_wp2_with (go_at_call 34; refine h.mono ?_; rintro e w1 (⟨b, o, cap, n, a, l, c, s, t, nt, rfl, hn, hb, hne, h0, h1, h2, h3, hR⟩ | ⟨a, cap, rfl, hb, hR⟩) <;> obtain ⟨k0, k1, k2, k3, f0, f1, f2, f3⟩ := box_cells hb)
  all_goals go_wp2
  · refine bodyPost_ret (v := .tuple #[.agg #[.slice a l c, .int .i64 s, .int .i64 t, .string nt], .bool true]) ?_ rfl (.inl ⟨a, l, c, s, t, nt, w1, rfl, hR, rfl⟩)
    rw [results_cell_tmp rfl]
    go_simp
  · refine bodyPost_ret (v := .tuple #[.agg #[.slice none 0 0, .int .i64 0, .int .i64 0, .string ByteArray.empty], .bool false]) ?_ rfl (.inr ⟨w1, rfl, hR, rfl⟩)
    rw [results_cell_tmp rfl]
    go_simp
    rfl

set_option maxHeartbeats 1000000 in
theorem walkspec (v0 v1 : Value) (w : World) (R : Option Addr → Nat → Nat → Int → Int → ByteArray → World → Prop) (R0 : World → Prop) (h : Calls Try.prog 32 #[v0, v1] (w.alloc box0) fun e w1 =>
      (∃ (b o cap n : Nat) (a : Option Addr) (l c : Nat) (s t : Int) (nt : ByteArray), e = .returned (.slice (some ⟨b, o, none⟩) (n + 1) cap) ∧ n + 1 ≤ 140737488355328 ∧ w1.heap[w.heap.size]? = some box0 ∧ b ≠ w.heap.size ∧ w1.cell? ⟨b, o + n * 4, none⟩ = some (.slice a l c) ∧
        w1.cell? ⟨b, o + n * 4 + 1, none⟩ = some (.int .i64 s) ∧ w1.cell? ⟨b, o + n * 4 + 2, none⟩ = some (.int .i64 t) ∧ w1.cell? ⟨b, o + n * 4 + 3, none⟩ = some (.string nt) ∧ R a l c s t nt w1) ∨
      (∃ (a : Option Addr) (cap : Nat), e = .returned (.slice a 0 cap) ∧ w1.heap[w.heap.size]? = some box0 ∧ R0 w1)) :
    Calls Try.prog 37 #[v0, v1] w fun e w' =>
      (∃ a l c s t nt w1, e = .returned (.tuple #[.agg #[.slice a l c, .int .i64 s, .int .i64 t, .string nt], .bool true]) ∧ R a l c s t nt w1 ∧
        w' = (((w1.setCell ⟨w.heap.size, 0, none⟩ (.slice a l c)).setCell ⟨w.heap.size, 1, none⟩ (.int .i64 s)).setCell ⟨w.heap.size, 2, none⟩ (.int .i64 t)).setCell ⟨w.heap.size, 3, none⟩ (.string nt)) ∨
      (∃ w1, e = .returned (.tuple #[.agg #[.slice none 0 0, .int .i64 0, .int .i64 0, .string ByteArray.empty], .bool false]) ∧ R0 w1 ∧
        w' = (((w1.setCell ⟨w.heap.size, 0, none⟩ (.slice none 0 0)).setCell ⟨w.heap.size, 1, none⟩ (.int .i64 0)).setCell ⟨w.heap.size, 2, none⟩ (.int .i64 0)).setCell ⟨w.heap.size, 3, none⟩ (.string ByteArray.empty)) := by
  go_enter Try.func37, Try.ntmps37
  go_wp2_with (go_at_call 32; refine h.mono ?_; rintro e w1 (⟨b, o, cap, n, a, l, c, s, t, nt, rfl, hn, hb, hne, h0, h1, h2, h3, hR⟩ | ⟨a, cap, rfl, hb, hR⟩) <;> obtain ⟨k0, k1, k2, k3, f0, f1, f2, f3⟩ := box_cells hb)
  all_goals go_wp2
  · refine bodyPost_ret (v := .tuple #[.agg #[.slice a l c, .int .i64 s, .int .i64 t, .string nt], .bool true]) ?_ rfl (.inl ⟨a, l, c, s, t, nt, w1, rfl, hR, rfl⟩)
    rw [results_cell_tmp rfl]
    go_simp
  · refine bodyPost_ret (v := .tuple #[.agg #[.slice none 0 0, .int .i64 0, .int .i64 0, .string ByteArray.empty], .bool false]) ?_ rfl (.inr ⟨w1, rfl, hR, rfl⟩)
    rw [results_cell_tmp rfl]
    go_simp
    rfl

/-! An array of deep rows. -/
theorem own_deep {w : World} {M : Nat → Nat → Prop} {e : TypeId} {ks : List K} {v : Value} {xs : List (List D)} {F : List Nat} (h : OwnRep w M e ks true v xs F) : RepD w (.sl e ks) v (.sl xs) F := by
  obtain ⟨vss, fps, h1, h2, h3, h4, h5, h6⟩ := h
  exact ⟨vss, fps, h1, h2, h3, h4, h5, fun i row vs f e1 e2 e3 => by simpa using h6 i row vs f e1 e2 e3⟩
theorem deep_own {w : World} {M : Nat → Nat → Prop} {e : TypeId} {ks : List K} {v : Value} {d : D} {F : List Nat} (h : RepD w (.sl e ks) v d F) : OwnRep w M e ks true v d.asList F := by
  obtain ⟨vss, fps, h1, h2, h3, h4, h5, h6⟩ := h
  exact ⟨vss, fps, h1, h2, h3, h4, h5, fun i row vs f e1 e2 e3 => by simpa using h6 i row vs f e1 e2 e3⟩
theorem deep_none {w : World} {e : TypeId} {ks : List K} {v : Value} {F : List Nat} (h : RepD w (.sl e ks) v (.sl []) F) : ∃ a cap, v = .slice a 0 cap := by
  obtain ⟨vss, fps, ⟨_, ho⟩, _⟩ := h
  rcases ho with ⟨rfl, _⟩ | ⟨g, cap, cur, rfl, _⟩
  · exact ⟨none, 0, rfl⟩
  · exact ⟨_, cap, rfl⟩
theorem deep_slice {w : World} {e : TypeId} {ks : List K} {v : Value} {d : D} {F : List Nat} (h : RepD w (.sl e ks) v d F) : ∃ a l cap, v = .slice a l cap := by
  obtain ⟨vss, fps, ⟨_, ho⟩, _⟩ := h
  rcases ho with ⟨rfl, _⟩ | ⟨g, cap, cur, rfl, _⟩
  · exact ⟨none, 0, 0, rfl⟩
  · exact ⟨_, _, cap, rfl⟩
theorem deep_row {w : World} {e : TypeId} {ks : List K} {v : Value} {xs : List (List D)} {F : List Nat} {i : Nat} (h : RepD w (.sl e ks) v (.sl xs) F) (hi : i < xs.length) :
    ∃ b cap vs f, v = .slice (some ⟨b, 0, none⟩) xs.length cap ∧ xs.length ≤ lenMax ∧ RepDs w ks vs (rowN xs i) f ∧ (∀ (j : Nat) u, vs[j]? = some u → w.cell? ⟨b, i * ks.length + j, none⟩ = some u) ∧ f.Sublist F ∧ b ∈ F := by
  obtain ⟨vss, fps, ⟨hl, ho⟩, h2, h3, h4, h5, h6⟩ := h
  simp only [D.asList_sl] at hl ho h2 h3 h4 h6
  rcases ho with ⟨_, h0⟩ | ⟨g, cap, cur, rfl, _, hh, hn, hm, hs, ht⟩
  · omega
  have hlen : ∀ vs ∈ vss, vs.length = ks.length := fun vs hv => by
    obtain ⟨j, hj, rfl⟩ := List.getElem_of_mem hv
    exact (h6 j (xs[j]'(by omega)) vss[j] (fps[j]'(by omega)) (by simp) (by simp) (by simp)).length
  have hR := h6 i xs[i] (vss[i]'(by omega)) (fps[i]'(by omega)) (by simp) (by simp) (by simp)
  rw [← rowN_lt hi] at hR
  refine ⟨g, cap, _, _, rfl, h2, hR, fun j u hu => ?_, ?_, by rw [h5]; simp [Value.ownBlock]⟩
  · have := flatten_get ks.length vss hlen i _ j u (List.getElem?_eq_getElem (by omega)) hu
    rw [← ht, List.getElem?_take] at this
    split at this
    · simpa [World.cell?, hh] using this
    · cases this
  · rw [h5]
    exact List.Sublist.trans (List.sublist_flatten_of_mem (List.getElem_mem _)) (List.sublist_append_right _ _)

/-! The contract. -/
theorem argRep_keeps {w w' : World} {M : Nat → Nat → Prop} (hk : Keeps w M w' M) : ∀ {ss : List ASh} {vs : List Value} {ds : List D}, ArgReps w M ss vs ds → ArgReps w' M ss vs ds
  | [], _, _, h => h
  | s :: ss, _, _, ⟨v, vs', d, ds', e1, e2, h1, h2⟩ => ⟨v, vs', d, ds', e1, e2, by
      cases s with
      | one k => exact h1.keeps hk
      | agg ks => obtain ⟨us, e, h⟩ := h1; exact ⟨us, e, h.keeps hk⟩, argRep_keeps hk h2⟩
theorem fr_alloc (w : World) (o : Obj) : Fr w [] (w.alloc o) := ⟨rfl, rfl, rfl, by simp, fun k hk _ => Below.heap_alloc _ _ _ (by omega)⟩
theorem keeps_alloc (w : World) (M : Nat → Nat → Prop) (o : Obj) : Keeps w M (w.alloc o) M := fun b k v h n => ⟨by
  have := cell_lt h
  rw [World.cell?_of_block (w := w) (Below.heap_alloc w o b (by omega))]
  exact h, n⟩
/-- What is written into the box turns nothing else. -/
theorem four {w1 : World} {z : Nat} (a b c d : Value) : ∀ k, k ≠ z → ((((w1.setCell ⟨z, 0, none⟩ a).setCell ⟨z, 1, none⟩ b).setCell ⟨z, 2, none⟩ c).setCell ⟨z, 3, none⟩ d).heap[k]? = w1.heap[k]? := fun k hk => by
  rw [Below.heap_setCell _ _ _ _ hk, Below.heap_setCell _ _ _ _ hk, Below.heap_setCell _ _ _ _ hk, Below.heap_setCell _ _ _ _ hk]
theorem four_below {w w1 : World} {z : Nat} (h : Below z w w1) (a b c d : Value) : Below z w ((((w1.setCell ⟨z, 0, none⟩ a).setCell ⟨z, 1, none⟩ b).setCell ⟨z, 2, none⟩ c).setCell ⟨z, 3, none⟩ d) :=
  (((h.setCell (p := ⟨z, 0, none⟩) (Nat.le_refl _) a).setCell (p := ⟨z, 1, none⟩) (Nat.le_refl _) b).setCell (p := ⟨z, 2, none⟩) (Nat.le_refl _) c).setCell (p := ⟨z, 3, none⟩) (Nat.le_refl _) d

theorem last_funR {f g : Nat} {sh : List ASh} (hsh : sh.length = 2) {tA tL : TypeId} (htA : tA = 53) (htL : tL = 80) (hg : FunR Try.prog g sh [.one (.own tA kAlarm true)] mSentOf)
    (hwalk : ∀ (v0 v1 : Value) (w : World) (R : Option Addr → Nat → Nat → Int → Int → ByteArray → World → Prop) (R0 : World → Prop), (Calls Try.prog g #[v0, v1] (w.alloc box0) fun e w1 =>
      (∃ (b o cap n : Nat) (a : Option Addr) (l c : Nat) (s t : Int) (nt : ByteArray), e = .returned (.slice (some ⟨b, o, none⟩) (n + 1) cap) ∧ n + 1 ≤ 140737488355328 ∧ w1.heap[w.heap.size]? = some box0 ∧ b ≠ w.heap.size ∧ w1.cell? ⟨b, o + n * 4, none⟩ = some (.slice a l c) ∧
        w1.cell? ⟨b, o + n * 4 + 1, none⟩ = some (.int .i64 s) ∧ w1.cell? ⟨b, o + n * 4 + 2, none⟩ = some (.int .i64 t) ∧ w1.cell? ⟨b, o + n * 4 + 3, none⟩ = some (.string nt) ∧ R a l c s t nt w1) ∨
      (∃ (a : Option Addr) (cap : Nat), e = .returned (.slice a 0 cap) ∧ w1.heap[w.heap.size]? = some box0 ∧ R0 w1)) →
    Calls Try.prog f #[v0, v1] w fun e w' =>
      (∃ a l c s t nt w1, e = .returned (.tuple #[.agg #[.slice a l c, .int .i64 s, .int .i64 t, .string nt], .bool true]) ∧ R a l c s t nt w1 ∧
        w' = (((w1.setCell ⟨w.heap.size, 0, none⟩ (.slice a l c)).setCell ⟨w.heap.size, 1, none⟩ (.int .i64 s)).setCell ⟨w.heap.size, 2, none⟩ (.int .i64 t)).setCell ⟨w.heap.size, 3, none⟩ (.string nt)) ∨
      (∃ w1, e = .returned (.tuple #[.agg #[.slice none 0 0, .int .i64 0, .int .i64 0, .string ByteArray.empty], .bool false]) ∧ R0 w1 ∧
        w' = (((w1.setCell ⟨w.heap.size, 0, none⟩ (.slice none 0 0)).setCell ⟨w.heap.size, 1, none⟩ (.int .i64 0)).setCell ⟨w.heap.size, 2, none⟩ (.int .i64 0)).setCell ⟨w.heap.size, 3, none⟩ (.string ByteArray.empty))) :
    FunR Try.prog f sh [.agg [.own tL kLabel true, .im (.int .i64), .im (.int .i64), .im .str], .one (.im .bool)] mLast := by
  subst htL
  intro w M vs ds hM hG hA hp
  have hp' : (mSentOf 1000 ds).asBool = true := by simpa [mLast] using hp
  obtain ⟨-, hdl, hvl⟩ := hA.wf
  rw [hsh] at hvl
  obtain ⟨v0, v1, rfl⟩ : ∃ v0 v1, vs = [v0, v1] := by
    match vs, hvl with
    | [a, b], _ => exact ⟨a, b, rfl⟩
  have hW : (w.alloc box0).heap.size = w.heap.size + 1 := by simp
  have hcall := hg (w.alloc box0) M [v0, v1] ds (fun b o h => by have := hM b o h; omega) (hG.fr (fr_alloc w box0)) (argRep_keeps (keeps_alloc w M box0) hA) hp'
  generalize hxs : (mSentOf 0 ds).asList = xs at *
  have hB0 : ∀ {w1 : World}, Below (w.alloc box0).heap.size (w.alloc box0) w1 → Below w.heap.size w w1 ∧ w1.heap[w.heap.size]? = some box0 := fun {w1} h => by
    refine ⟨((Below.refl w.heap.size w).alloc (Nat.le_refl _) box0).trans ⟨h.os, h.tape, h.output, h.size, fun k hk => h.block k (by omega)⟩, ?_⟩
    rw [h.block w.heap.size (by omega)]
    exact heap_alloc_new w _
  refine (hwalk v0 v1 w (fun a l c s t nt w1 => Below w.heap.size w w1 ∧ xs ≠ [] ∧ ∃ fL, RepD w1 (.sl 80 kLabel) (.slice a l c) (cell (rowN xs (xs.length - 1)) 0) fL ∧ s = (cell (rowN xs (xs.length - 1)) 1).asInt ∧ t = (cell (rowN xs (xs.length - 1)) 2).asInt ∧
      nt = (cell (rowN xs (xs.length - 1)) 3).asStr ∧ inR .i64 s ∧ inR .i64 t ∧ nt.size ≤ lenMax ∧ fL.Nodup ∧ ∀ b ∈ fL, w.heap.size + 1 ≤ b) (fun w1 => Below w.heap.size w w1 ∧ xs = []) (hcall.mono ?_)).mono ?_
  · rintro e w1 ⟨us, Fs, rfl, hB, hR, hnd, hF⟩
    obtain ⟨v, us', F, Fs', rfl, rfl, ho, rfl, rfl⟩ := hR
    have ho' := own_deep ho
    have hx : (((retDs (fun c => mSentOf c ds) 0 [RSh.one (.own tA kAlarm true)]).headD default).asList) = xs := hxs
    rw [hx] at ho'
    obtain ⟨hb1, hb2⟩ := hB0 hB
    by_cases he : xs = []
    · rw [he] at ho'
      obtain ⟨a, cap, rfl⟩ := deep_none ho'
      exact .inr ⟨a, cap, rfl, hb2, hb1, he⟩
    · have hlen : 0 < xs.length := List.length_pos_iff.2 he
      obtain ⟨b, cap, vs, fR, rfl, hmax, hrow, hcells, hsub, hbF⟩ := deep_row ho' (i := xs.length - 1) (by omega)
      obtain ⟨vL, vs1, fL, f1, rfl, rfl, hL, vS, vs2, f2, f3, rfl, rfl, ⟨rfl, hS, rfl⟩, vE, vs3, f4, f5, rfl, rfl, ⟨rfl, hE, rfl⟩, vN, vs4, f6, f7, rfl, rfl, ⟨rfl, hN, rfl⟩, rfl, rfl⟩ := hrow
      obtain ⟨aL, lL, cL, rfl⟩ := deep_slice hL
      simp only [headD_cell, cell_tail, Nat.zero_add, Nat.reduceAdd] at hL hS hE hN hcells
      have hbne : w.heap.size + 1 ≤ b := by have := (hF b (by simpa using hbF)).1; omega
      have hsub' : fL.Sublist F := List.Sublist.trans (List.sublist_append_left _ _) hsub
      refine .inl ⟨b, 0, cap, xs.length - 1, aL, lL, cL, (cell (rowN xs (xs.length - 1)) 1).asInt, (cell (rowN xs (xs.length - 1)) 2).asInt, (cell (rowN xs (xs.length - 1)) 3).asStr, ?_, by simp [lenMax] at hmax; omega, hb2, by omega, ?_, ?_, ?_, ?_, hb1, he, fL, hL, rfl, rfl, rfl, hS, hE, hN, ?_, ?_⟩
      · rw [Nat.sub_add_cancel hlen]; rfl
      · have := hcells 0 _ rfl; simpa using this
      · have := hcells 1 _ rfl; simpa using this
      · have := hcells 2 _ rfl; simpa using this
      · have := hcells 3 _ rfl; simpa using this
      · exact hsub'.nodup (by simpa using hnd)
      · intro b' hb'
        have := (hF b' (by simpa using hsub'.subset hb')).1
        omega
  · rintro e w' (⟨a, l, c, s, t, nt, w1, rfl, ⟨hB, hne, fL, hL, rfl, rfl, rfl, hs, ht, hn, hnd, hlt⟩, rfl⟩ | ⟨w1, rfl, ⟨hB, hxe⟩, rfl⟩)
    · have hk : ∀ b ∈ fL, ((((w1.setCell ⟨w.heap.size, 0, none⟩ (.slice a l c)).setCell ⟨w.heap.size, 1, none⟩ (.int .i64 (cell (rowN xs (xs.length - 1)) 1).asInt)).setCell ⟨w.heap.size, 2, none⟩ (.int .i64 (cell (rowN xs (xs.length - 1)) 2).asInt)).setCell ⟨w.heap.size, 3, none⟩ (.string (cell (rowN xs (xs.length - 1)) 3).asStr)).heap[b]? = w1.heap[b]? := fun b hb => four _ _ _ _ b (by have := hlt b hb; omega)
      have hL' := hL.keeps hk
      have hrow : (mLast 0 ds).row = rowN xs (xs.length - 1) := by simp [mLast, hxs, lastRow, hne]
      have hone : (mLast 1 ds).asBool = true := by simp [mLast, hxs, hne]
      refine ⟨[.slice a l c, .int .i64 (cell (rowN xs (xs.length - 1)) 1).asInt, .int .i64 (cell (rowN xs (xs.length - 1)) 2).asInt, .string (cell (rowN xs (xs.length - 1)) 3).asStr, .bool true], [fL], rfl, four_below hB _ _ _ _, ?_, by simpa using hnd, ?_⟩
      · simp only [retDs_cons, retDs_nil, ds_agg, ds_one, List.length_cons, List.length_nil, cellsOf_succ, cellsOf_zero, hrow, Nat.zero_add, Nat.reduceAdd]
        refine ⟨_, _, fL, [], rfl, rfl, deep_own hL', _, _, rfl, ⟨rfl, hs⟩, _, _, rfl, ⟨rfl, ht⟩, _, _, rfl, ⟨rfl, hn⟩, _, _, rfl, ?_, rfl, rfl⟩
        show Value.bool true = .bool (mLast 1 ds).asBool
        rw [hone]
      · intro b hb
        simp only [List.flatten_cons, List.flatten_nil, List.append_nil] at hb
        exact ⟨by have := hlt b hb; omega, hL'.lt b hb⟩
    · have hrow : (mLast 0 ds).row = [.sl [], .int 0, .int 0, .str ByteArray.empty] := by simp [mLast, hxs, lastRow, hxe]
      have hone : (mLast 1 ds).asBool = false := by simp [mLast, hxs, hxe]
      refine ⟨[.slice none 0 0, .int .i64 0, .int .i64 0, .string ByteArray.empty, .bool false], [[]], rfl, four_below hB _ _ _ _, ?_, by simp, by simp⟩
      simp only [retDs_cons, retDs_nil, ds_agg, ds_one, List.length_cons, List.length_nil, cellsOf_succ, cellsOf_zero, hrow, Nat.zero_add, Nat.reduceAdd]
      refine ⟨_, _, [], [], rfl, rfl, ⟨[], [], ⟨rfl, .inl ⟨rfl, rfl⟩⟩, Nat.zero_le _, rfl, rfl, rfl, fun i row vs f h => by cases h⟩, _, _, rfl, ⟨rfl, show inR .i64 0 from ⟨by decide, by decide⟩⟩, _, _, rfl, ⟨rfl, show inR .i64 0 from ⟨by decide, by decide⟩⟩, _, _, rfl, ⟨rfl, Nat.zero_le _⟩, _, _, rfl, ?_, rfl, rfl⟩
      show Value.bool false = .bool (mLast 1 ds).asBool
      rw [hone]
theorem ok38 : Good1 Try.prog Φ g38 := ⟨fun _ => last_funR rfl rfl rfl (ok34.r rfl) walkimpl, fun l e => (by cases e), _, Try.func38, by decide, by decide⟩
theorem ok37 : Good1 Try.prog Φ g37 := ⟨fun _ => last_funR rfl rfl rfl (ok32.r rfl) walkspec, fun l e => (by cases e), _, Try.func37, by decide, by decide⟩
end Go.Proofs.Ytpgpkomolheinaa

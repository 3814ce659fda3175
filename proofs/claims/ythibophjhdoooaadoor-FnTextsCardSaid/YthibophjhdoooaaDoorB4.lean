/-
  A text is bent: proved.
-/
import Derived.Test.YthibophjhdoooaaDoorB3
set_option linter.unusedVariables false
set_option linter.unusedSimpArgs false
namespace Go.Proofs.YthibophjhdoooaaDoor
open Go.Vx Go.RowKit

theorem bytesI_get (s : ByteArray) (j : Nat) : (bytesI s).getD j 0 = ((s.data.toList.getD j 0).toNat : Int) := by
  unfold bytesI
  rw [List.getD_eq_getElem?_getD, List.getD_eq_getElem?_getD, List.getElem?_map]
  cases s.data.toList[j]? <;> rfl

theorem set_get (L : List Int) {i : Nat} {x : Int} (h : i < L.length) : (L.set i x).getD i 0 = x := by
  rw [List.getD_eq_getElem?_getD, List.getElem?_set_self h]
  rfl
theorem set_ne (L : List Int) {i j : Nat} {x : Int} (h : ¬ j = i) : (L.set i x).getD j 0 = L.getD j 0 := by
  rw [List.getD_eq_getElem?_getD, List.getD_eq_getElem?_getD, List.getElem?_set_ne (Ne.symm h)]
theorem cut_lt (L : List Int) {i j : Nat} (h : j < i) : (L.take i ++ L.drop (i + 1)).getD j 0 = L.getD j 0 := by
  rw [List.getD_eq_getElem?_getD, List.getD_eq_getElem?_getD]
  by_cases hl : j < L.length
  · rw [List.getElem?_append_left (by simp; omega), List.getElem?_take_of_lt h]
  · rw [List.getElem?_eq_none (l := L) (by omega), List.getElem?_eq_none (by simp; omega)]
theorem cut_ge (L : List Int) {i q : Nat} (h : i ≤ L.length) : (L.take i ++ L.drop (i + 1)).getD (i + q) 0 = L.getD (i + q + 1) 0 := by
  have hl : (L.take i).length = i := by simp; omega
  rw [List.getD_eq_getElem?_getD, List.getD_eq_getElem?_getD, List.getElem?_append_right (by omega), hl, List.getElem?_drop, show i + 1 + (i + q - i) = i + q + 1 by omega]

abbrev arr8 : Obj := .cells #[.int .i64 34, .int .i64 61, .int .i64 44, .int .i64 32, .int .i64 97, .int .i64 123, .int .i64 125, .int .i64 200] 3
theorem rep_l8 {w : World} {M : Nat → Nat → Prop} (hM : ∀ b o, M b o → b < w.heap.size) : RepC (w.alloc arr8) M (.sl 3 [.int .i64]) (.slice (some ⟨w.heap.size, 0, none⟩) 8 8) L8 := by
  refine ⟨some ⟨w.heap.size, 0, none⟩, 8, rfl, by decide, by decide, .inr ⟨_, 0, rfl, fun i row hi => ?_⟩⟩
  have hn : ∀ o, ¬ M w.heap.size o := fun o h => by have := hM _ _ h; omega
  have key : ∀ (x : Int), (w.alloc arr8).cell? ⟨w.heap.size, i, none⟩ = some (.int .i64 x) → inR .i64 x → row = [.int x] → ∃ vs, Row (w.alloc arr8) w.heap.size (0 + i * 1) vs ∧ (∀ j, j < 1 → ¬ M w.heap.size (0 + i * 1 + j)) ∧ RepCs (w.alloc arr8) M [.int .i64] vs row := fun x h1 h2 h3 => by
    subst h3
    exact ⟨[.int .i64 x], ⟨by rw [show 0 + i * 1 = i by omega]; exact h1, trivial⟩, fun j _ => hn _, ⟨_, _, rfl, ⟨rfl, h2⟩, rfl⟩⟩
  obtain ⟨h, rfl⟩ := List.getElem?_eq_some_iff.1 hi
  have h : i < 8 := h
  have e := heap_alloc_new' w arr8
  match i, h with
  | 0, _ => exact key 34 (by unfold World.cell?; rw [e]; rfl) ⟨by decide, by decide⟩ rfl
  | 1, _ => exact key 61 (by unfold World.cell?; rw [e]; rfl) ⟨by decide, by decide⟩ rfl
  | 2, _ => exact key 44 (by unfold World.cell?; rw [e]; rfl) ⟨by decide, by decide⟩ rfl
  | 3, _ => exact key 32 (by unfold World.cell?; rw [e]; rfl) ⟨by decide, by decide⟩ rfl
  | 4, _ => exact key 97 (by unfold World.cell?; rw [e]; rfl) ⟨by decide, by decide⟩ rfl
  | 5, _ => exact key 123 (by unfold World.cell?; rw [e]; rfl) ⟨by decide, by decide⟩ rfl
  | 6, _ => exact key 125 (by unfold World.cell?; rw [e]; rfl) ⟨by decide, by decide⟩ rfl
  | 7, _ => exact key 200 (by unfold World.cell?; rw [e]; rfl) ⟨by decide, by decide⟩ rfl

theorem fr_bytes (w : World) (e : TypeId) (s : ByteArray) (X : List Nat) : Fr w X (Lib.bytesWorld w e s) := by
  refine ⟨?_, ?_, ?_, by rw [Lib.bytesWorld_size]; omega, fun k hk _ => Lib.bytesWorld_at_old w e s k hk⟩
  all_goals (unfold Lib.bytesWorld World.freeze; rw [if_neg (by decide)]; rfl)
theorem bytes_size (w : World) (e : TypeId) (s : ByteArray) : s.size ≤ (Lib.bytesCells w e s).size := by
  unfold Lib.bytesCells
  rw [Array.size_append, Array.size_map]
  show s.size ≤ s.size + _
  omega

section
variable {Ψ : Fns}
set_option maxHeartbeats 2000000 in
theorem bend_b (H1 : fBelow.2 (Ψ 34)) (H2 : fInt.2 (Ψ 36)) : FunB Tryd.prog 23 [.box 60 csC, .im (.one .str)] [.one (.im .str)] (mBend Ψ) := by
  intro w M vs ds Fs hM hG hA hnd hlt hok
  obtain ⟨g, us, vs', c, ds', F, Fs', rfl, rfl, rfl, hg, hR, hA'⟩ := hA
  obtain ⟨v, vs2, d, ds2, rfl, rfl, hv, rfl, rfl, rfl⟩ := hA'
  obtain ⟨hR', rfl⟩ := ret_rep (ks := ksC) hR
  obtain ⟨rfl, -⟩ : v = .string d.asStr ∧ d.asStr.size ≤ lenMax := hv
  obtain ⟨hco, hsz⟩ := (mBend_1 Ψ c d).1 hok
  have hm : ∀ b, b ∈ ([g] :: ([] ++ []) : List (List Nat)).flatten ↔ b = g := fun b => by simp
  have hM0 : ∀ b o, M b o → b < w.heap.size ∧ b ≠ g := fun b o h => ⟨(hM b o h).1, fun e => (hM b o h).2 ((hm b).2 e)⟩
  have hG0 : ∀ w', Fr w [g] w' → glob Tryd.prog w' := hG
  have hgl : g < w.heap.size := (Array.getElem?_eq_some_iff.1 hg).1
  have hcur : CurAt w M g c := ⟨us, hg, hR'.keeps (keepsM fun b o h => h.imp_right (hm b).2)⟩
  obtain ⟨u01, u02, u03, rfl⟩ : ∃ a b c, us = [a, b, c] := by
    obtain ⟨u1, _, rfl, -, u2, _, rfl, -, u3, _, rfl, -, rfl⟩ := hR'
    exact ⟨u1, u2, u3, rfl⟩
  generalize hs : d.asStr = s at *
  have hcv := Lib.run_convert_string_bytes (P := Tryd.prog) w 9 22 5 s (u := .string) Tryd.underlying9 Tryd.underlying22 Tryd.underlying5
  have hF1 : Fr w [g] (Lib.bytesWorld w 5 s) := fr_bytes w 5 s [g]
  have hold : ∀ j, j < w.heap.size → (Lib.bytesWorld w 5 s).heap[j]? = w.heap[j]? := fun j h => Lib.bytesWorld_at_old w 5 s j h
  have hnew := Lib.bytesWorld_at_new w 5 s
  have hcell : ∀ j, j < s.size → (Lib.bytesWorld w 5 s).cell? ⟨w.heap.size, j, none⟩ = some (.int .u8 ((bytesI s).getD j 0)) := fun j h => by rw [bytesI_get]; exact Lib.bytesWorld_cell w 5 s j h
  have hsize := Lib.bytesWorld_size w 5 s
  have hge := grownCap_ge w s.size 0 5
  have hle := grownCap_le_maxLen w s.size 0 5 (by unfold maxLen; omega)
  generalize grownCap w s.size 0 5 = cap at hcv hge hle
  generalize hW : Lib.bytesWorld w 5 s = W1 at *
  have hCz := bytes_size w 5 s
  generalize Lib.bytesCells w 5 s = C at hnew hCz
  have hF : ∀ {w'}, Fr w [g] w' → CurAt w' M g (bendC Ψ c s) → ∀ {r}, bendS Ψ c s = r → r.size ≤ lenMax → _ := fun {w'} hf hc {r} hr hz => bend_fin (φ := mBend Ψ) (w := w) (w' := w') (M := M) (g := g) (u01 := u01) (u02 := u02) (u03 := u03) (c := c) (d := d) (v := .string s) (r := r) hg hf (by rw [mBend_2, hs]; exact hc) (by rw [mBend_0, hs, hr]) hz
  by_cases h0 : s.size = 0
  · refine (walkE g cap s w W1 _ (by omega) hcv).mono ?_
    rintro e w' ⟨rfl, rfl⟩
    refine hF hF1 ?_ (by unfold bendS; rw [tt_true h0]; rfl) (by rw [h0]; decide)
    unfold bendC
    rw [tt_true h0]
    exact hcur.keeps (hold g hgl) fun b o v hc hn => ⟨by rw [World.cell?_of_block (w := w) (hold b (cell_lt hc))]; exact hc, hn⟩
  have hM1 : ∀ b o, (M b o ∨ b = w.heap.size) → b < W1.heap.size ∧ b ≠ g := fun b o h => by
    rcases h with h | h
    · have := hM0 b o h
      exact ⟨by omega, this.2⟩
    · exact ⟨by omega, by omega⟩
  have hc1 : CurAt W1 (fun b o => M b o ∨ b = w.heap.size) g c := hcur.keeps (hold g hgl) fun b o v hc hn => by
    have hb := cell_lt hc
    refine ⟨by rw [World.cell?_of_block (w := w) (hold b hb)]; exact hc, ?_⟩
    rintro ((h | h) | h)
    · exact hn (.inl h)
    · omega
    · exact hn (.inr h)
  have B1 := dBelow H1 (c := c) (n := .int s.size) hco
  have B2 := dBelow H1 (c := bC1 Ψ c s.size) (n := .int 5) B1.2.2
  have B3 := dInt H2 (c := bC1 Ψ (bC1 Ψ c s.size) 5) (n := L8) B2.2.2 (by decide) (by decide)
  have HB : FunB Tryd.prog 34 [.box 60 csC, .im (.one (.int .i64))] [.one (.im (.int .i64))] (Ψ 34) := (gof (t := g34) H1.1).b rfl rfl
  have HI : FunB Tryd.prog 36 [.box 60 csC, .im (.one (.sl 3 [.int .i64]))] [.one (.im (.int .i64))] (Ψ 36) := (gof (t := g36) H2.1).b rfl rfl
  have hfz : ∀ {w' : World}, w'.heap[w.heap.size]? = W1.heap[w.heap.size]? → ∀ j, j < s.size → w'.cell? ⟨w.heap.size, j, none⟩ = some (.int .u8 ((bytesI s).getD j 0)) ∧ w'.frozen? ⟨w.heap.size, j, none⟩ = false := fun {w'} h j hj => by
    refine ⟨by rw [World.cell?_of_block (w := W1) h]; exact hcell j hj, ?_⟩
    unfold World.frozen?
    rw [h, hnew]
    have : ¬ (C.size ≤ j) := by omega
    simp [this]
  have h22 : Tryd.prog.underlying 22 = some (.slice 5) := Tryd.underlying22
  have hback : ∀ {w' : World} {n : Nat} (xs : List Int), xs.length = n → (∀ j, j < n → w'.cell? ⟨w.heap.size, j, none⟩ = some (.int .u8 (xs.getD j 0))) → (convert 22 9 (.slice (some ⟨w.heap.size, 0, none⟩) n cap)).run Tryd.prog w' = .ok (.string (strOfNums xs)) w' := fun {w' n} xs hx hc =>
    run_convert_bytes_arg w' 22 5 Tryd.underlying22 Tryd.underlying5 w.heap.size 0 n cap xs hx (fun j hj => by rw [Nat.zero_add]; exact hc j hj) 9 Tryd.underlying9
  have b1 := B1.2.1
  have b2 := B2.2.1
  simp only [D.asInt_int] at b1 b2
  have e1 : ((bI Ψ c s.size : Nat) : Int) = (Ψ 34 0 [c, .int s.size]).asInt := Int.toNat_of_nonneg b1.1
  have e2 : ((bI Ψ (bC1 Ψ c s.size) 5 : Nat) : Int) = (Ψ 34 0 [bC1 Ψ c s.size, .int 5]).asInt := Int.toNat_of_nonneg b2.1
  have l1 : bI Ψ c s.size < s.size := by have := b1.2 (by omega); omega
  have l2 : bI Ψ (bC1 Ψ c s.size) 5 < 5 := by have := b2.2 (by decide); omega
  refine (walk0 g cap s w W1 w.heap.size (fun j => (bytesI s).getD j 0) (by omega) hcv hge (by omega) (by unfold maxLen at hle; omega) (fun r w' => ∃ rs, r = .string rs ∧ bendS Ψ c s = rs ∧ rs.size ≤ lenMax ∧ Fr w [g] w' ∧ CurAt w' M g (bendC Ψ c s))
    (hid' ((cur_call HB hM1 (fun w' h => hG0 w' (hF1.trans h (by simp))) hc1 (d := .int s.size) ⟨rfl, ⟨by show (-9223372036854775808 : Int) ≤ s.size; omega, by show (s.size : Int) ≤ 9223372036854775807; omega⟩⟩ B1.1).mono ?_))).mono ?_
  · rintro e w2 ⟨rfl, -, hF2, hc2⟩
    have z2 := hF2.size
    refine ⟨bI Ψ c s.size, by rw [e1], l1, hid' ((cur_call HB (fun b o h => ⟨by have := (hM1 b o h).1; omega, (hM1 b o h).2⟩) (fun w' h => hG0 w' ((hF1.trans hF2 (by simp)).trans h (by simp))) hc2 (d := .int 5) ⟨rfl, ⟨by decide, by decide⟩⟩ B2.1).mono ?_)⟩
    rintro e w3 ⟨rfl, -, hF3, hc3⟩
    have z3 := hF3.size
    have hb3 : w3.heap[w.heap.size]? = W1.heap[w.heap.size]? := by
      rw [hF3.block w.heap.size (by omega) (by simp; omega), hF2.block w.heap.size (by omega) (by simp; omega)]
    have hF13 : Fr w [g] w3 := (hF1.trans hF2 (by simp)).trans hF3 (by simp)
    have hgb : g ≠ w.heap.size := by omega
    refine ⟨bI Ψ (bC1 Ψ c s.size) 5, by rw [e2]; rfl, l2, fun hk => hid' ?_, fun hk => ?_, fun hk0 hk1 => ?_⟩
    · have hM3 : ∀ b o, (M b o ∨ b = w.heap.size) → b < w3.heap.size := fun b o h => by have := (hM1 b o h).1; omega
      have hg3 : g < w3.heap.size := by omega
      refine (cur_call HI (w := w3.alloc arr8) (fun b o h => ⟨by have := hM3 b o h; simp; omega, (hM1 b o h).2⟩) (fun w' h => hG0 w' ((hF13.trans (fr_alloc' w3 arr8 [g]) (by simp)).trans h (by simp)))
        (hc3.keeps (Below.heap_alloc _ _ _ hg3) fun b o v hc hn => ⟨by rw [World.cell?_of_block (w := w3) (Below.heap_alloc _ _ _ (cell_lt hc))]; exact hc, hn⟩) (d := L8) (rep_l8 fun b o h => by
          rcases h with h | h
          · exact hM3 b o h
          · omega) B3.1).mono ?_
      rintro e w4 ⟨rfl, -, hF4, hc4⟩
      have hb4 : w4.heap[w.heap.size]? = W1.heap[w.heap.size]? := by
        rw [hF4.block w.heap.size (by simp; omega) (by simp; omega), Below.heap_alloc _ _ _ (by omega), hb3]
      obtain ⟨k1, k2⟩ := hfz hb4 _ l1
      have hS := Same.set w4 w.heap.size (bI Ψ c s.size) (.int .u8 ((Ψ 36 0 [bC1 Ψ (bC1 Ψ c s.size) 5, L8]).asInt % 256))
      refine ⟨_, _, _, rfl, k1, k2, hback ((bytesI s).set (bI Ψ c s.size) ((Ψ 36 0 [bC1 Ψ (bC1 Ψ c s.size) 5, L8]).asInt % 256)) (by simp [bytesI_len]) fun j hj => ?_, _, rfl, ?_, ?_, Same.fr ((hF13.trans (fr_alloc' w3 arr8 [g]) (by simp)).trans hF4 (by simp)) hS (Nat.le_refl _), ?_⟩
      · by_cases hji : j = bI Ψ c s.size
        · subst hji
          rw [World.cell?_setCell_same _ _ _ k1, set_get _ (by rw [bytesI_len]; exact l1)]
          rfl
        · rw [World.cell?_setCell_other _ _ _ _ (by simp [hji]), (hfz hb4 j hj).1]
          rw [set_ne _ hji]
      · unfold bendS
        rw [tt_false h0, tt_true hk]
        rfl
      · rw [nums_size]
        simp [bytesI_len, lenMax]
        omega
      · unfold bendC
        rw [tt_false h0, tt_true hk]
        exact Same.cur hc4 hS hgb
    · have hfz3 := hfz hb3
      have hml : (moved (fun j => (bytesI s).getD j 0) (bI Ψ c s.size) s.size).length = s.size - (bI Ψ c s.size + 1) := moved_length
      have hS := (Same.drew w.heap.size w3).trans (Same.sets w.heap.size (moved (fun j => (bytesI s).getD j 0) (bI Ψ c s.size) s.size) (bI Ψ c s.size) w3.drew)
      refine ⟨_, hback ((bytesI s).take (bI Ψ c s.size) ++ (bytesI s).drop (bI Ψ c s.size + 1)) (by simp [bytesI_len]; omega) fun j hj => ?_, ⟨_, rfl, ?_, ?_, Same.fr hF13 hS (Nat.le_refl _), ?_⟩, fun j hj => (hfz3 j hj).1, fun j hj => (hfz3 j hj).2⟩
      · by_cases hji : j < bI Ψ c s.size
        · rw [World.cell?_setCells_out _ _ _ _ _ (fun _ _ => .inl hji), cut_lt _ hji]
          exact (hfz3 j (by omega)).1
        · obtain ⟨q, rfl⟩ : ∃ q, j = bI Ψ c s.size + q := ⟨j - bI Ψ c s.size, by omega⟩
          rw [World.cell?_setCells_in w.heap.size _ (bI Ψ c s.size) w3.drew (fun j hj => by
            rw [hml] at hj
            show (w3.cell? _).isSome = true
            rw [(hfz3 (bI Ψ c s.size + j) (by omega)).1]
            rfl) q (by rw [hml]; omega), cut_ge _ (by rw [bytesI_len]; omega)]
          simp only [moved, List.getElem_map, List.getElem_range]
          rw [show bI Ψ c s.size + 1 + q = bI Ψ c s.size + q + 1 by omega]
      · unfold bendS
        rw [tt_false h0, tt_false (by omega), tt_true hk]
        rfl
      · rw [nums_size]
        simp [bytesI_len, lenMax]
        omega
      · unfold bendC
        rw [tt_false h0, tt_false (by omega)]
        exact Same.cur hc3 hS hgb
    · refine ⟨_, hback (bytesI s) (bytesI_len s) fun j hj => (hfz hb3 j hj).1, _, rfl, ?_, ?_, hF13, ?_⟩
      · unfold bendS
        rw [tt_false h0, tt_false hk0, tt_false hk1]
        rfl
      · rw [nums_size, bytesI_len]
        simp [lenMax]
        omega
      · unfold bendC
        rw [tt_false h0, tt_false hk0]
        exact Same.cur hc3 (Same.refl _ _) hgb
  · rintro e w' ⟨_, rfl, rs, rfl, hr, hz, hf, hc⟩
    exact hF hf hc hr hz

theorem bend_size {c : D} {s : ByteArray} (h : s.size ≤ 1000) : (bendS Ψ c s).size ≤ 1000 := by
  unfold bendS
  cases tt (s.size = 0) with
  | true => exact h
  | false =>
    cases tt (bI Ψ (bC1 Ψ c s.size) 5 = 0) with
    | true =>
      show (strOfNums _).size ≤ 1000
      rw [nums_size, List.length_set, bytesI_len]
      exact h
    | false =>
      cases tt (bI Ψ (bC1 Ψ c s.size) 5 = 1) with
      | true =>
        show (strOfNums _).size ≤ 1000
        rw [nums_size]
        simp [bytesI_len]
        omega
      | false =>
        show (strOfNums _).size ≤ 1000
        rw [nums_size, bytesI_len]
        exact h
theorem bend_cur (H1 : fBelow.2 (Ψ 34)) (H2 : fInt.2 (Ψ 36)) {c : D} {s : ByteArray} (hc : curOk c) : curOk (bendC Ψ c s) := by
  have B1 := dBelow H1 (c := c) (n := .int s.size) hc
  have B2 := dBelow H1 (c := bC1 Ψ c s.size) (n := .int 5) B1.2.2
  have B3 := dInt H2 (c := bC1 Ψ (bC1 Ψ c s.size) 5) (n := L8) B2.2.2 (by decide) (by decide)
  unfold bendC
  cases tt (s.size = 0) with
  | true => exact hc
  | false =>
    cases tt (bI Ψ (bC1 Ψ c s.size) 5 = 0) with
    | true => exact B3.2.2
    | false => exact B2.2.2
theorem sBend (H1 : fBelow.2 (Ψ 34)) (H2 : fInt.2 (Ψ 36)) : ∃ φ, fBend.2 φ := by
  refine ⟨mBend Ψ, ⟨fun _ => bend_b H1 H2, fun l h => (by cases h), _, Tryd.func23, (fun h => by cases h), by decide⟩, fun c rest hc h => ?_⟩
  obtain ⟨s, rfl⟩ : ∃ s, rest = [s] := by match rest, h.1 with | [s], _ => exact ⟨s, rfl⟩
  have h2 : s.asStr.size ≤ 1000 := h.2
  refine ⟨(mBend_1 Ψ c s).2 ⟨hc, h2⟩, ?_, ?_⟩
  · exact bend_size h2
  · exact bend_cur H1 H2 hc
end
end Go.Proofs.YthibophjhdoooaaDoor


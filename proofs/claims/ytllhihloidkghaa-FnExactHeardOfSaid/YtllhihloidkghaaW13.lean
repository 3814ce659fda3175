/-
  Order: its contract.
-/
import Derived.Test.YtllhihloidkghaaW12
set_option linter.unusedVariables false
set_option linter.unusedSimpArgs false
namespace Go.Proofs.Ytllhihloidkghaa
open Go Go.Proofs Go.Shelf Go.RowKit Go.Lib Go.Sort Go.Vx

noncomputable def iInts : TypeInfo := (Try.prog.info? 70).get (by kernel_rfl)
noncomputable def iInt : TypeInfo := (Try.prog.info? 3).get (by kernel_rfl)
theorem swI (n : Nat) : swapperK n iInt 2 = if n = 0 then 1 else if n = 1 then 2 else 5 := by
  have a : iInt.hasPointers = false := by kernel_rfl
  have b : iInt.bytes = 8 := by kernel_rfl
  simp [Lib.swapperK, a, b]

theorem ltP_swo (l : List (List D)) : SWO (ltP l) := swo_of (fun r : List D => linOf l (cell r 0).asInt) intLt_swo

/-- The closure compares two places. -/
theorem ord_less {w : World} {v1 v3 : Value} {l rows : List (List D)} {b1 b3 : Nat} (h1 : w.cell? ⟨b1, 0, none⟩ = some v1) (h3 : w.cell? ⟨b3, 0, none⟩ = some v3) (hv1 : RepC w (fun _ _ => False) (.sl 76 kDeed) v1 (.sl l)) (hv3 : RepC w (fun _ _ => False) (.sl 3 [.int .i64]) v3 (.sl rows))
    (hl : rows.length ≤ lenMax) (hq : ∀ r, r ∈ rows → 0 ≤ (cell r 0).asInt ∧ (cell r 0).asInt < l.length) (i j : Nat) (hi : i < rows.length) (hj : j < rows.length) (hgl : glob Try.prog w) :
    Calls Try.prog 114 #[.int .i64 i, .int .i64 j, .pointer (some ⟨b1, 0, none⟩), .pointer (some ⟨b3, 0, none⟩)] w fun e w' => e = .returned (.bool (ltP l (rowN rows i) (rowN rows j))) ∧ Below w.heap.size w w' := by
  have hn : ∀ k : Nat, k < rows.length → inR .i64 k := fun k hk => by
    simp [lenMax] at hl
    rw [inR_i64]; omega
  have hc := (ok114.r rfl) w (fun _ _ => False) [.int .i64 i, .int .i64 j, .pointer (some ⟨b1, 0, none⟩), .pointer (some ⟨b3, 0, none⟩)] [.int i, .int j, .sl [[.sl l]], .sl [[.sl rows]]] (fun _ _ h => h.elim) hgl
    ⟨_, _, _, _, rfl, rfl, ⟨rfl, hn i hi⟩, _, _, _, _, rfl, rfl, ⟨rfl, hn j hj⟩, _, _, _, _, rfl, rfl, ⟨b1, 0, [v1], rfl, ⟨h1, trivial⟩, fun _ _ h => h, v1, [], rfl, hv1, rfl⟩, _, _, _, _, rfl, rfl, ⟨b3, 0, [v3], rfl, ⟨h3, trivial⟩, fun _ _ h => h, v3, [], rfl, hv3, rfl⟩, rfl, rfl⟩
    (by
      show (Φ 114 1000 _).asBool = true
      simp [show Φ 114 = mOrd1 from rfl, mOrd1]
      exact ⟨by omega, hq⟩)
  refine hc.mono ?_
  rintro e w' ⟨us, Fs, rfl, hB, hR, -, -⟩
  obtain ⟨u, us', rfl, hu, rfl, rfl⟩ := hR
  refine ⟨?_, hB⟩
  have hu : u = .bool _ := hu
  rw [hu]
  simp [mkRet, g114, show Φ 114 = mOrd1 from rfl, mOrd1]
  rfl

/-- An array of numbers owns nothing but itself. -/
theorem own_ints {w : World} {M M' : Nat → Nat → Prop} {e : TypeId} {dp : Bool} {v : Value} {xs : List (List D)} {F : List Nat} (h : OwnRep w M e [.int .i64] dp v xs F) : OwnRep w M' e [.int .i64] true v xs F := by
  obtain ⟨vss, fps, h1, h2, h3, h4, h5, h6⟩ := h
  refine ⟨vss, fps, h1, h2, h3, h4, h5, fun i row vs f e1 e2 e3 => ?_⟩
  have := h6 i row vs f e1 e2 e3
  cases dp with
  | true => simpa using this
  | false =>
    simp only [Bool.false_eq_true, if_false] at this
    obtain ⟨⟨v, vs', rfl, hc, hr⟩, rfl⟩ := this
    have hr : vs' = [] := hr
    subst hr
    simp only [if_true]
    exact ⟨v, [], [], [], rfl, rfl, ⟨hc.1, hc.2, rfl⟩, rfl, rfl⟩
theorem placesN_succ (l : List (List D)) (n : Nat) : placesN l (n + 1) = placesN l n ++ (if (!decide (linOf l n = -1)) = true then [[.int n]] else []) := rfl
theorem placesN_len (l : List (List D)) (n : Nat) : (placesN l n).length ≤ n := pickN_len _ _ n
theorem places_in {l : List (List D)} {r : List D} (h : r ∈ placesN l l.length) : 0 ≤ (cell r 0).asInt ∧ (cell r 0).asInt < l.length := by
  obtain ⟨i, hi, _, rfl⟩ := pickN_mem h
  simp
  omega

/-- What the loop gathers. -/
theorem vOrd_wp {d : D} (hd : d.asList.length ≤ 1048576) : vOrd.wp Φ (fun l => ∃ x y, l = [x, y] ∧ x = d ∧ y.asList = placesN d.asList d.asList.length) [d] fun _ _ => False := by
  refine loop2_wp (Φ := Φ) (N := d.asList.length) rfl (fun _ _ => by simp) (by omega) (fun i x => x.asList = placesN d.asList i) rfl (fun i x hi _ hx => ?_) fun x _ hx p => by
    show ∃ x' y, _ = [x', y] ∧ x' = d ∧ y.asList = _
    exact ⟨d, x, by simp, rfl, hx⟩
  have hl : x.asList.length ≤ i := by rw [hx]; exact placesN_len _ _
  simp [rowAt_nat, hi, lenMax]
  refine ⟨fun h => ⟨by omega, ?_⟩, fun h => ?_⟩
  · rw [placesN_succ, ← hx, if_pos (by rw [Bool.not_eq_true', decide_eq_false_iff_not]; exact h)]
    simp [chunk]
  · rw [placesN_succ, ← hx, if_neg (by rw [Bool.not_eq_true', decide_eq_false_iff_not]; exact fun hn => hn h)]
    simp

theorem bodyPost_up {P : Program} {fn : Func} {R R' : Ending → World → Prop} (h : ∀ e w, R e w → R' e w) {e : Exit} {a : Act} {w : World} (hq : bodyPost P fn R e a w) : bodyPost P fn R' e a w := by
  cases e with
  | normal => obtain ⟨h1, v, h2, h3⟩ := hq; exact ⟨h1, v, h2, h _ _ h3⟩
  | ret => obtain ⟨h1, v, h2, h3⟩ := hq; exact ⟨h1, v, h2, h _ _ h3⟩
  | panic chain => exact ⟨hq.1, h _ _ hq.2⟩
  | outgrown => exact h _ _ hq
  | _ => exact hq

set_option maxHeartbeats 1000000 in
theorem ord_funR : FunR Try.prog 82 g82.args g82.rets mOrder := by
  intro w M vs ds hM hgl hargs hpre
  obtain ⟨h1, h2, h3⟩ := hargs.wf
  obtain ⟨d, rfl⟩ : ∃ d, ds = [d] := by
    match ds, h2 with
    | [d], _ => exact ⟨d, rfl⟩
  have hd : d.asList.length ≤ 1048576 := by simpa [mOrder] using hpre
  let C : Cx := { P := Try.prog, T := TT, tok := tok, w0 := w, X := [], M := M, mold := fun b o h => ⟨hM b o h, by simp⟩, n := 26, pin := [], pinBig := fun p hp => by simp at hp, pinB := [], pinBBig := fun p hp => by simp at hp, gl := fun w' h => hgl.fr h }
  refine calls_of_wp Try.func82 ord_body ?_
  have R0 : Rel C G0 ((Vx.start g82.args 26).den Φ [d]) { tmps := vs.toArray ++ Array.replicate (26 - vs.toArray.size) undef, defers := [] } w := start_rel (C := C) hargs (show 1 ≤ 26 by decide) rfl rfl
  let Rr : Ending → World → Prop := fun e w' => ∃ us Fs, e = .returned (mkRet g82.rets us) ∧ Below w.heap.size w w' ∧ RetCs w' (MeH M (retHeads (g82.rets.flatMap RSh.cells) us)) (g82.rets.flatMap RSh.cells) us (retDs (fun c => mOrder c [d]) 0 g82.rets) Fs ∧
        Fs.flatten.Nodup ∧ ∀ b, b ∈ Fs.flatten → w.heap.size ≤ b ∧ b < w'.heap.size
  have hend : ∀ env g s a w' es, endBox 1 3 26 (.sl 76 kDeed) 70 3 [.int .i64] s = some es → Rel C g (SSt.den Φ env s) a w' → (∃ x y, es.map (E.den Φ env) = [x, y] ∧ x = d ∧ y.asList = placesN d.asList d.asList.length) →
      Exit.then (ordTail.wp Try.prog (bodyPost Try.prog Try.f82 Rr)) (bodyPost Try.prog Try.f82 Rr) .normal a w' ∧ (false = true → Exit.then (ordTail.wp Try.prog (bodyPost Try.prog Try.f82 Rr)) (bodyPost Try.prog Try.f82 Rr) .ret a w') := by
    intro env g s a w1 es hes R hpost
    refine ⟨?_, fun h => by cases h⟩
    obtain ⟨x1, xs, b1, b3, v1, v3, dp, F, Mx, rfl, ha1, ha3, hb1, hb3, hv1, hO, hF, n13, n1, n3, hFlt, hl1, hl3, hMM, hMo⟩ := endBox_sound R hes
    obtain ⟨x, y, hxy, rfl, hy⟩ := hpost
    simp only [List.map_cons, List.map_nil, List.cons.injEq, and_true] at hxy
    obtain ⟨rfl, rfl⟩ := hxy
    have hsz : a.tmps.size = 26 := R.size
    have hdf := R.defers
    obtain ⟨tmps, defers⟩ := a
    simp only at hdf hsz ha1 ha3
    subst hdf
    obtain ⟨t0, t1, t2, t3, t4, t5, t6, t7, t8, t9, t10, t11, t12, t13, t14, t15, t16, t17, t18, t19, t20, t21, t22, t23, t24, t25, rfl⟩ := arr26 hsz
    have ha1 : t1 = .pointer (some ⟨b1, 0, none⟩) := ha1
    have ha3 : t3 = .pointer (some ⟨b3, 0, none⟩) := ha3
    subst ha1 ha3
    have hc1 : w1.cell? ⟨b1, 0, none⟩ = some v1 := by simp [World.cell?, hb1]
    have hc3 : w1.cell? ⟨b3, 0, none⟩ = some v3 := by simp [World.cell?, hb3]
    have hX : ∀ b, C.w0.heap.size ≤ b ∨ b ∈ C.X → w.heap.size ≤ b := fun b h => h.resolve_right (by simp [C])
    have hb3lt : b3 < w1.heap.size := (Array.getElem?_eq_some_iff.1 hb3).1
    obtain ⟨p, n, c, rfl⟩ : ∃ p n c, v3 = .slice p n c := by
      obtain ⟨_, _, ho, _⟩ := hO
      rcases ho.2 with ⟨e1, _⟩ | ⟨_, _, _, e1, _⟩
      · exact ⟨_, _, _, e1⟩
      · exact ⟨_, _, _, e1⟩
    have hheads : ∀ b, b ∈ (Value.slice p n c).ownBlock.toList → b ∈ F := fun b hb => by
      obtain ⟨_, _, _, _, _, _, q, _⟩ := hO
      rw [q]; exact List.mem_append.2 (.inl hb)
    have hfrw : ∀ {w2 : World}, Fr w1 (Value.slice p n c).ownBlock.toList w2 → Fr w [] w2 := fun h2 =>
      ⟨h2.os.trans R.fr.os, h2.tape.trans R.fr.tape, h2.output.trans R.fr.output, Nat.le_trans R.fr.size h2.size, fun k hk _ => by
        rw [h2.block k (Nat.lt_of_lt_of_le hk R.fr.size) fun hb => by have := hX k (hFlt k (hheads k hb)).1; omega]
        exact R.fr.block k hk (by simp [C])⟩
    have hcell : ∀ {w2 : World} {b o : Nat} {v : Value}, Fr w1 (Value.slice p n c).ownBlock.toList w2 → b ∉ F → w1.cell? ⟨b, o, none⟩ = some v → w2.cell? ⟨b, o, none⟩ = some v := fun h2 hb hc => fr_cell h2 (fun h => hb (hheads _ h)) hc
    have hK : ∀ {w2 : World}, Fr w1 (Value.slice p n c).ownBlock.toList w2 → Keeps w1 Mx w2 fun _ _ => False := fun h2 b o v hcc hn => ⟨fr_cell h2 (fun hb => hn (hMo b (by simpa using hb) o)) hcc, fun h => h⟩
    have hsort : Calls Try.prog 113 #[.iface 70 (.slice p n c), .func (.func 114) #[] #[.pointer (some ⟨b1, 0, none⟩), .pointer (some ⟨b3, 0, none⟩)]] w1 fun e w' => e = .returned (.tuple #[]) ∧ w'.cell? ⟨b3, 0, none⟩ = some (.slice p n c) ∧ Fr w1 (Value.slice p n c).ownBlock.toList w' ∧ ∃ F', OwnRep w' Mx 3 [.int .i64] dp (.slice p n c) (ordP (x1.den Φ env).asList) F' ∧ F'.Perm F := by
      have := sort_w 70 3 iInts iInt (by kernel_rfl) (by kernel_rfl) (by kernel_rfl) (by kernel_rfl) 2 (fun _ => by kernel_rfl) 5 swI (by decide) 135 (by kernel_rfl) hO hF (fun b hb => (hFlt b hb).2) hMo b3 hb3lt
        (Qr := fun r => 0 ≤ (cell r 0).asInt ∧ (cell r 0).asInt < (x1.den Φ env).asList.length) (fun r hr => by rw [hy] at hr; exact places_in hr) (lt := ltP (x1.den Φ env).asList) (ltP_swo _) (g := 114) (lb := #[.pointer (some ⟨b1, 0, none⟩), .pointer (some ⟨b3, 0, none⟩)]) (enters_of Try.func114 (by kernel_rfl) rfl)
        (fun w2 rows hf hr hl hq i j hi hj => ord_less (l := (x1.den Φ env).asList) (hcell hf n1 hc1) (hcell hf n3 hc3) (by
          have := hv1.keeps (hK hf)
          exact this) hr hl hq i j hi hj (hgl.fr (hfrw hf)))
        (fun b n' c' W X Y i j hi hj hX' hY' oX oY cX cY fz => by
          obtain ⟨x, rfl⟩ : ∃ x, X = [x] := by
            match X, hX' with
            | [x], _ => exact ⟨x, rfl⟩
          obtain ⟨y, rfl⟩ : ∃ y, Y = [y] := by
            match Y, hY' with
            | [y], _ => exact ⟨y, rfl⟩
          have hz : iInt.size = 1 := by kernel_rfl
          rw [run_callFunc_extern Try.func135 (by kernel_rfl) (by kernel_rfl) (by kernel_rfl) (e := Extern.ReflectliteSwapper.swap true) (by kernel_rfl)]
          have q1 := cX 0 x rfl
          have q2 := cY 0 y rfl
          simp only [List.length_cons, List.length_nil, Nat.zero_add, Nat.mul_one, Nat.add_zero] at q1 q2 ⊢
          have := run_swap_one (P := Try.prog) true 3 iInt (by kernel_rfl) hz (fun _ => by kernel_rfl) b 0 n' c' i j hi hj x y (oX x (by simp)) (oY y (by simp)) W (by rw [Nat.zero_add]; exact q1) (by rw [Nat.zero_add]; exact q2) (fz _) (fz _)
          rw [Nat.zero_add, Nat.zero_add] at this
          rw [this]
          rfl)
      refine this.mono fun e w' ⟨he, hf, F', hO', hp⟩ => ⟨he, hcell hf n3 hc3, hf, F', ?_, hp⟩
      rw [ordP, ← hy]
      exact hO'
    refine wp_mono (ord_tail t0 t2 t4 t5 t6 t7 t8 t9 t10 t11 t12 t13 t14 t15 t16 t17 t18 t19 t20 t21 t22 t23 t24 t25 b1 b3 p n c w1 (fun w2 => Fr w1 (Value.slice p n c).ownBlock.toList w2 ∧ ∃ F', OwnRep w2 Mx 3 [.int .i64] dp (.slice p n c) (ordP (x1.den Φ env).asList) F' ∧ F'.Perm F) hc3 hsort) fun e a' w' hq => ?_
    refine bodyPost_up (fun e w' ⟨he, hf, F', hO', hp⟩ => ?_) hq
    have hfr := hfrw hf
    refine ⟨[.slice p n c], [F'], he, ⟨hfr.os, hfr.tape, hfr.output, hfr.size, fun k hk => hfr.block k hk (by simp)⟩, ?_, by simpa using hp.nodup_iff.2 hF, fun b hb => ?_⟩
    · have : (mOrder 0 [x1.den Φ env]).asList = ordP (x1.den Φ env).asList := by simp [mOrder]
      refine ⟨_, [], F', [], rfl, rfl, ?_, rfl, rfl⟩
      show OwnRep _ _ _ _ _ _ (mOrder 0 [x1.den Φ env]).asList _
      rw [this]
      exact own_ints hO'
    · have hb' := hFlt b (hp.mem_iff.1 (by simpa using hb))
      exact ⟨hX b hb'.1, Nat.lt_of_lt_of_le hb'.2 hf.size⟩
  refine seq3 ?_
  have := run_soundR (C := C) (Φ := Φ) (CT := sigs []) (F := Exit.then (ordTail.wp Try.prog (bodyPost Try.prog Try.f82 Rr)) (bodyPost Try.prog Try.f82 Rr)) false mixed (told_of (l := []) (by simp)) (post := fun l => ∃ x y, l = [x, y] ∧ x = d ∧ y.asList = placesN d.asList d.asList.length) hend 2000 1 _ _ vOrd vOrd_eq [d] (fun _ _ => False) _ G0 _ w (.inr (by kernel_rfl)) rfl ⟨_, ⟨_, ⟨_, rfl, rfl⟩, rfl⟩, rfl⟩ R0 (vOrd_wp hd)
  exact this
theorem ok82 : Good1 Try.prog Φ g82 := ⟨fun _ => ord_funR, fun l e => (by cases e), _, Try.func82, by decide, by decide⟩
end Go.Proofs.Ytllhihloidkghaa

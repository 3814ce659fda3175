/-
  A program logic of our own, parts 40 to 41.
-/
import Derived.Test.YtllhihloidkghaaVxb
import Derived.ProofKit
import Derived.OpenShut
import Derived.SizedLaws
import Derived.WideKeyArgs
set_option linter.unusedVariables false
set_option linter.unusedSimpArgs false
/-
  Vx, part 40: what an argument reads as; from a law's contract to its row.
-/
namespace Go.Vx
open Go.RowKit Go.ChangeShapes Go.WideShapes

def fldsChk (P : Program) (chk : TypeId → List K → Bool) : Nat → List Field → List K → Bool
  | _, [], [] => true
  | _, [], _ :: _ => false
  | j, x :: fs, ks => x.offset == j && (chk x.type (ks.take (P.cellsOf x.type)) && fldsChk P chk (j + P.cellsOf x.type) fs (ks.drop (P.cellsOf x.type)))
/-- The cells of a type. -/
def ksChk (P : Program) : Nat → TypeId → List K → Bool
  | 0, _, _ => false
  | f + 1, t, ks => P.cellsOf t == ks.length && match P.underlying t, ks with
    | some .bool, [.bool] => true
    | some (.int k), [.int k'] => decide (k = k')
    | some .string, [.str] => true
    | some (.slice e), [.sl e' ks'] => e == e' && (Nat.blt 0 (P.bytesOf e) && (!(ks'.length == 0) && ksChk P f e ks'))
    | some (.struct fs), ks => fldsChk P (ksChk P f) 0 fs.toList ks
    | _, _ => false

theorem exists_list {α : Type} {P : Nat → α → Prop} : ∀ (n : Nat), (∀ i, i < n → ∃ x, P i x) → ∃ l : List α, l.length = n ∧ ∀ i x, l[i]? = some x → P i x
  | 0, _ => ⟨[], rfl, fun i x h => by simp at h⟩
  | n + 1, h => by
    obtain ⟨l, h1, h2⟩ := exists_list n fun i hi => h i (by omega)
    obtain ⟨x, hx⟩ := h n (by omega)
    refine ⟨l ++ [x], by simp [h1], fun i y hy => ?_⟩
    rcases Nat.lt_or_ge i n with hi | hi
    · rw [List.getElem?_append_left (by omega)] at hy
      exact h2 i y hy
    · rw [List.getElem?_append_right (by omega)] at hy
      have : i - l.length = 0 := by
        have := (List.getElem?_eq_some_iff.1 hy).1
        simp at this; omega
      rw [this] at hy
      simp at hy
      subst hy
      have : i = n := by omega
      subst this
      exact hx

section
variable {H : Type} {enc : TypeId × Value → H} {P : Program} {w : World}

theorem ksChk_len {f : Nat} {t : TypeId} {ks : List K} (h : ksChk P f t ks = true) : P.cellsOf t = ks.length := by
  cases f with
  | zero => simp [ksChk] at h
  | succ f => simp only [ksChk, Bool.and_eq_true, beq_iff_eq] at h; exact h.1

theorem flds_rep {chk : TypeId → List K → Bool} {n : Nat} {cs : List Value}
    (hchk : ∀ t ks, chk t ks = true → P.cellsOf t = ks.length ∧ ∀ cs d ps, DataW.trod enc P w 0 (fun _ => true) true n t cs = some (d, ps) → (∀ m ∈ d.weights P t, m ≤ reachBytes) → ∃ ds, ds.length = ks.length ∧ RepCs w (fun _ _ => False) ks cs ds) :
    ∀ (fs : List Field) (j : Nat) (ks : List K) (xs : List (DataW H × List MemPlace)), fldsChk P chk j fs ks = true → xs.length = fs.length → (∀ (i : Nat) (x : Field), fs[i]? = some x → DataW.trod enc P w 0 (fun _ => true) true n x.type ((cs.drop x.offset).take (P.cellsOf x.type)) = xs[i]?) →
      (∀ m ∈ DataW.weightsEach P (fs.map (·.type)) (xs.map (·.1)), m ≤ reachBytes) → j + ks.length = cs.length → ∃ ds, ds.length = ks.length ∧ RepCs w (fun _ _ => False) ks (cs.drop j) ds
  | [], j, [], xs, _, _, _, _, hl => ⟨[], rfl, by simp at hl; simp [RepCs, hl]⟩
  | [], j, _ :: _, xs, h, _, _, _, _ => by simp [fldsChk] at h
  | x :: fs, j, ks, [], _, hx, _, _, _ => by simp at hx
  | x :: fs, j, ks, y :: xs, h, hx, ht, hw, hl => by
    simp only [fldsChk, Bool.and_eq_true, beq_iff_eq] at h
    obtain ⟨h1, h2, h3⟩ := h
    obtain ⟨c1, c2⟩ := hchk _ _ h2
    have hn : P.cellsOf x.type ≤ ks.length := by rw [List.length_take] at c1; omega
    have t0 := ht 0 x rfl
    rw [h1] at t0
    simp only [List.map_cons, DataW.weightsEach, List.mem_append] at hw
    obtain ⟨ds1, l1, r1⟩ := c2 _ y.1 y.2 t0 fun m hm => hw m (.inl hm)
    obtain ⟨ds2, l2, r2⟩ := flds_rep hchk fs (j + P.cellsOf x.type) (ks.drop (P.cellsOf x.type)) xs h3 (by simpa using hx) (fun i z hz => by simpa using ht (i + 1) z (by simpa using hz)) (fun m hm => hw m (.inr hm)) (by rw [List.length_drop]; omega)
    refine ⟨ds1 ++ ds2, by rw [List.length_append, l1, l2, List.length_take, List.length_drop]; omega, ?_⟩
    have := RepCs.append l1 r1 r2
    rwa [List.take_append_drop, ← List.drop_drop, List.take_append_drop] at this

theorem trod_rep : ∀ (f : Nat) (t : TypeId) (ks : List K), ksChk P f t ks = true → ∀ (n : Nat) (cs : List Value) (d : DataW H) (ps : List MemPlace), DataW.trod enc P w 0 (fun _ => true) true n t cs = some (d, ps) →
    (∀ m ∈ d.weights P t, m ≤ reachBytes) → ∃ ds, ds.length = ks.length ∧ RepCs w (fun _ _ => False) ks cs ds
  | 0, _, _, h, _, _, _, _, _, _ => by simp [ksChk] at h
  | f + 1, t, ks, h, n, cs, d, ps, hd, hwt => by
    have hlen := ksChk_len h
    simp only [ksChk, Bool.and_eq_true] at h
    replace h := h.2
    split at h
    · rename_i hu
      obtain ⟨b, rfl, hx⟩ := DataW.trod_bool hu hd
      exact ⟨[.bool b], rfl, .bool b, [], rfl, rfl, rfl⟩
    · rename_i k k' hu
      have := of_decide_eq_true h
      subst this
      obtain ⟨m, rfl, hx, hwf⟩ := DataW.trod_int hu hd
      refine ⟨[.int m], rfl, .int k m, [], rfl, ⟨rfl, ?_⟩, rfl⟩
      simp only [Lit.wf, Bool.and_eq_true, decide_eq_true_eq] at hwf
      exact hwf
    · rename_i hu
      obtain ⟨s, rfl, hx, _⟩ := DataW.trod_string hu hd
      simp only [Prod.mk.injEq] at hx
      obtain ⟨rfl, rfl⟩ := hx
      refine ⟨[.str s], rfl, .string s, [], rfl, ⟨rfl, ?_⟩, rfl⟩
      have := hwt s.data.toList.length (by simp [DataW.weights])
      have h2 := reachBytes_lt
      have e : s.size = s.data.toList.length := rfl
      show s.size ≤ 2 ^ 47
      omega
    · rename_i e e' ks' hu
      simp only [Bool.and_eq_true, beq_iff_eq, Bool.not_eq_true', beq_eq_false_iff_ne, ne_eq] at h
      obtain ⟨rfl, hb, hk0, hc⟩ := h
      have hb : 0 < P.bytesOf e := Nat.le_of_ble_eq_true hb
      have hce := ksChk_len hc
      rcases DataW.trod_slice hu hd with ⟨rfl, hx⟩ | ⟨a, len, cap, elems, rest, n', _, rfl, hx, _, hl, _, hlen', hel, _, _⟩
      · exact ⟨[.sl []], rfl, .slice none 0 0, [], rfl, ⟨none, 0, rfl, Nat.le_refl _, by simp [lenMax], .inl rfl⟩, rfl⟩
      · simp only [Prod.mk.injEq] at hx
        obtain ⟨rfl, _⟩ := hx
        simp only [DataW.weights, hu, List.mem_cons, List.mem_append] at hwt
        have hlm : len ≤ lenMax := by
          have := hwt _ (.inl rfl)
          have h2 := reachBytes_lt
          simp only [List.length_map] at this
          have h3 : elems.length * 1 ≤ (elems.length + rest.length) * P.bytesOf e := Nat.mul_le_mul (by omega) hb
          simp only [lenMax]
          omega
        have hall : ∀ i, i < len → ∃ row, ∃ vs, w.cells? 0 (a.add (i * P.cellsOf e)) (P.cellsOf e) = some vs ∧ RepCs w (fun _ _ => False) ks' vs row := fun i hi => by
          have h1 := hel i hi
          have hget : elems[i]? = some elems[i] := List.getElem?_eq_getElem (by omega)
          rw [hget, Option.bind_eq_some_iff] at h1
          obtain ⟨vs, q1, q2⟩ := h1
          have hmem : ∀ (l : List (DataW H)) (x : DataW H), x ∈ l → ∀ m ∈ x.weights P e, m ∈ DataW.weightsAll P e l := by
            intro l
            induction l with
            | nil => intro x hx; simp at hx
            | cons y l ih =>
              intro x hx m hm
              simp only [DataW.weightsAll, List.mem_append]
              rcases List.mem_cons.1 hx with rfl | hx
              · exact .inl hm
              · exact .inr (ih x hx m hm)
          obtain ⟨row, _, hr⟩ := trod_rep f e ks' hc n' vs elems[i].1 elems[i].2 q2 fun m hm => hwt m (.inr (.inl (hmem _ _ (List.mem_map.2 ⟨_, List.getElem_mem _, rfl⟩) m hm)))
          exact ⟨row, vs, q1, hr⟩
        obtain ⟨rows, r1, r2⟩ := exists_list len hall
        refine ⟨[.sl rows], rfl, .slice (some a) len cap, [], rfl, ⟨some a, cap, by simp [r1], by simp [r1, hl], by simp [r1, hlm], ?_⟩, rfl⟩
        simp only [List.headD_cons, D.asList_sl]
        by_cases h0 : rows = []
        · exact .inl h0
        · right
          have hpos : 0 < len := by rw [← r1]; exact List.length_pos_iff.2 h0
          have hkpos : 0 < P.cellsOf e := by rw [hce]; omega
          have spot : a.spot = none := by
            obtain ⟨row, vs, q1, _⟩ := hall 0 hpos
            obtain ⟨_, s2, s3⟩ := World.cells?_some q1
            have := s3 0 hkpos
            rw [Nat.zero_mul, show a.add 0 = a by simp [Addr.add]] at this
            have hne : (a.add 0) = a := by simp [Addr.add]
            rw [hne] at this
            unfold World.cell? at this
            have hv : vs[0]? = some vs[0] := List.getElem?_eq_getElem (by omega)
            rw [hv] at this
            split at this
            · split at this
              · cases this
              · rename_i hs; simpa using hs
            · cases this
          obtain ⟨b, off, sp⟩ := a
          simp only at spot
          subst spot
          have hadd : ∀ m, (⟨b, off, none⟩ : Addr).add m = ⟨b, off + m, none⟩ := fun m => by unfold Addr.add; split <;> simp_all
          refine ⟨b, off, rfl, fun i row hi => ?_⟩
          obtain ⟨vs, q1, q2⟩ := r2 i row hi
          refine ⟨vs, Row.of_get fun j v hv => ?_, fun _ _ h => h, q2⟩
          obtain ⟨_, s2, s3⟩ := World.cells?_some q1
          have hjl := (List.getElem?_eq_some_iff.1 hv).1
          have := s3 j (by omega)
          rw [hadd, hv, hce] at this
          have hadd2 : (⟨b, off + i * ks'.length, none⟩ : Addr).add j = ⟨b, off + i * ks'.length + j, none⟩ := by unfold Addr.add; split <;> simp_all
          rw [hadd2] at this
          exact this
    · rename_i fs hu
      obtain ⟨xs, n', rfl, hx, hcl, hxl, hfl⟩ := DataW.trod_struct hu hd
      simp only [Prod.mk.injEq] at hx
      obtain ⟨rfl, _⟩ := hx
      simp only [DataW.weights, hu] at hwt
      have := flds_rep (H := H) (enc := enc) (P := P) (w := w) (chk := ksChk P f) (n := n') (cs := cs) (fun t ks hc => ⟨ksChk_len hc, fun cs d ps hd hw => trod_rep f t ks hc n' cs d ps hd hw⟩) fs.toList 0 _ xs h (by simpa using hxl)
        (fun i x hi => hfl i x (by simpa using hi)) hwt (by omega)
      simpa using this
    · cases h

/-- The shape of a parameter. -/
def argChk (P : Program) (t : TypeId) : ASh → Bool
  | .one k => (match P.underlying t with | some (.struct _) => false | _ => true) && ksChk P 30 t [k]
  | .agg ks => (match P.underlying t with | some (.struct _) => true | _ => false) && ksChk P 30 t ks
def argsChk (P : Program) : List TypeId → List ASh → Bool
  | [], [] => true
  | t :: ts, s :: ss => argChk P t s && argsChk P ts ss
  | _, _ => false

theorem arg_rep {r : Reach} {b0 : Nat} {t : TypeId} {sh : ASh} (h : argChk P t sh = true) {v : Value} {d : DataW H} {ps : List MemPlace} (hv : Value.okWide P w r b0 t v) (hd : DataW.Trod enc P w 0 (fun _ => true) true t v d ps)
    (hw : ∀ m ∈ d.weights P t, m ≤ reachBytes) : ∃ x : D, ArgRep w (fun _ _ => False) sh v x := by
  obtain ⟨n, hn⟩ := hd
  cases sh with
  | one k =>
    simp only [argChk, Bool.and_eq_true] at h
    obtain ⟨ds, hl, hr⟩ := trod_rep 30 t [k] h.2 n _ d ps hn hw
    obtain ⟨u, us, hu, hc, rfl⟩ := hr
    have hcell : v.cells = #[v] := by
      have h2 := h.2
      simp only [ksChk, Bool.and_eq_true] at h2
      replace h2 := h2.2
      split at h2
      · rename_i hu _; obtain ⟨b, rfl⟩ := okWide_bool hu hv; rfl
      · rename_i hu _; obtain ⟨b, rfl⟩ := okWide_int hu hv; rfl
      · rename_i hu _; obtain ⟨b, rfl⟩ := okWide_string hu hv; rfl
      · rename_i hu _; obtain ⟨_, _, _, rfl⟩ := okWide_slice hu hv; rfl
      · rename_i hu; have := h.1; rw [hu] at this; cases this
      · cases h2
    rw [hcell] at hu
    simp only [List.cons.injEq, and_true] at hu
    subst hu
    exact ⟨_, hc⟩
  | agg ks =>
    simp only [argChk, Bool.and_eq_true] at h
    obtain ⟨ds, hl, hr⟩ := trod_rep 30 t ks h.2 n _ d ps hn hw
    have h1 := h.1
    split at h1
    · rename_i fs hu
      obtain ⟨cs, rfl, _⟩ := okWide_struct hu hv
      exact ⟨.sl [ds], cs.toList, by simp, hr⟩
    · cases h1

theorem args_rep : ∀ {ts : List TypeId} {shs : List ASh}, argsChk P ts shs = true → ∀ {vs : List Value} {ds : List (DataW H)} {ps : List MemPlace}, DataW.TrodAll enc P w 0 (fun _ => true) true ts vs ds ps →
    (∀ (j : Nat) t v, ts[j]? = some t → vs[j]? = some v → ∃ r b0, Value.okWide P w r b0 t v) → (∀ m ∈ DataW.weightsEach P ts ds, m ≤ reachBytes) → ∃ xs, ArgReps w (fun _ _ => False) shs vs xs
  | [], [], _, vs, ds, ps, h, _, _ => by
    obtain ⟨rfl, rfl, rfl⟩ := trodAll_nil h
    exact ⟨[], rfl, rfl⟩
  | [], _ :: _, h, _, _, _, _, _, _ => by simp [argsChk] at h
  | _ :: _, [], h, _, _, _, _, _, _ => by simp [argsChk] at h
  | t :: ts, s :: ss, h, vs, ds, ps, ht, hv, hw => by
    simp only [argsChk, Bool.and_eq_true] at h
    obtain ⟨v, vs', d, ds', p, q, rfl, rfl, rfl, h1, h2⟩ := trodAll_cons ht
    simp only [DataW.weightsEach, List.mem_append] at hw
    obtain ⟨r, b0, hv0⟩ := hv 0 t v rfl rfl
    obtain ⟨x, hx⟩ := arg_rep h.1 hv0 h1 fun m hm => hw m (.inl hm)
    obtain ⟨xs, hxs⟩ := args_rep h.2 h2 (fun j t v q1 q2 => hv (j + 1) t v (by simpa using q1) (by simpa using q2)) fun m hm => hw m (.inr hm)
    exact ⟨x :: xs, v, vs', x, xs, rfl, rfl, hx, hxs⟩

/-- The arguments read on as they did. -/
theorem args_stay (hl : laidOutB P = true) : ∀ {ts : List TypeId}, (∀ t ∈ ts, P.readableRec t = true ∧ t < P.types.size) → ∀ {vs : List Value} {ds : List (DataW H)} {ps : List MemPlace} {W' : World} {sp : Nat → Bool},
    DataW.TrodAll enc P w 0 (fun _ => true) true ts vs ds ps → Below w.heap.size w W' → (∀ x ∈ ps, x.block < w.heap.size) → (∀ x ∈ ps, sp x.block = true) → DataW.TrodAll enc P W' 0 sp true ts vs ds ps
  | [], _, vs, ds, ps, W', sp, h, _, _, _ => by
    obtain ⟨rfl, rfl, rfl⟩ := trodAll_nil h
    exact rfl
  | t :: ts, ht, vs, ds, ps, W', sp, h, hb, hlt, hsp => by
    obtain ⟨v, vs', d, ds', p, q, rfl, rfl, rfl, h1, h2⟩ := trodAll_cons h
    obtain ⟨r1, r2⟩ := ht t (by simp)
    exact ⟨p, q, WideElems.Trod_stays hl r1 r2 h1 (fun x hx => hb.same (hlt x (by simp [hx]))) (fun x hx => hsp x (by simp [hx])),
      args_stay hl (fun t ht' => ht t (by simp [ht'])) h2 hb (fun x hx => hlt x (by simp [hx])) (fun x hx => hsp x (by simp [hx])), rfl⟩

theorem law_post {f : FuncId} {fn : Func} {s : ChangeSpec} {shs : List ASh} {φ : Nat → List D → D} (hF : FunR P f shs [.one (.im .bool)] φ) (hφ : ∀ xs, xs.length = shs.length → (φ 1000 xs).asBool = true ∧ (φ 0 xs).asBool = true)
    (hl : laidOutB P = true) (hr : ∀ t ∈ fn.params.toList, P.readableRec t = true ∧ t < P.types.size) (hc : argsChk P fn.params.toList shs = true) {tb : TypeId} (hres : fn.resultTypes = #[tb]) (htb : P.underlying tb = some .bool)
    (hs : ∀ ds : List (DataW H), ds.length = fn.params.toList.length → s.fn H ds = { results := [.lit (.bool true)], args := ds }) (hv : s.vars = []) {W : World} {base : Nat} {args : Array Value} {ds gs : List (DataW H)} {before : List MemPlace}
    (hval : ∀ (j : Nat) t v, fn.params[j]? = some t → args[j]? = some v → Value.okWide P W .any base t v) (hW : DataW.Whole enc P fn.params.toList s.vars false W args.toList ds gs before)
    (hw : (DataW.weightsEach P (fn.params.toList ++ s.plain.varTypes P) (ds ++ gs)).all (· ≤ reachBytes) = true) :
    Calls P f args W fun e W' => ∃ v, e = .returned v ∧ s.post enc P fn false true false false W args v W' := by
  have hW' := hW
  have hlt := hW.lt
  obtain ⟨p, q, hA, hV, hpq, hfz, hnd⟩ := hW
  rw [hv] at hV
  obtain ⟨rfl, rfl⟩ := trodVars_none hV
  simp only [List.append_nil] at hpq
  subst hpq
  have hdl : ∀ {ts : List TypeId} {vs : List Value} {ds : List (DataW H)} {ps : List MemPlace}, DataW.TrodAll enc P W 0 (fun _ => true) true ts vs ds ps → ds.length = ts.length := by
    intro ts
    induction ts with
    | nil => intro vs ds ps h; obtain ⟨rfl, rfl, rfl⟩ := trodAll_nil h; rfl
    | cons t ts ih => intro vs ds ps h; obtain ⟨v, vs', d, ds', p, q, rfl, rfl, rfl, _, h2⟩ := trodAll_cons h; simp [ih h2]
  have hwt : ∀ m ∈ DataW.weightsEach P fn.params.toList ds, m ≤ reachBytes := fun m hm => by
    have h1 : s.plain.varTypes P = [] := by simp [DataSpec.varTypes, ChangeSpec.plain, hv]
    rw [h1, List.append_nil, List.append_nil] at hw
    simpa using List.all_eq_true.1 hw m hm
  obtain ⟨xs, hxs⟩ := args_rep hc hA (fun j t v h1 h2 => ⟨_, _, hval j t v (by simpa using h1) (by simpa using h2)⟩) hwt
  obtain ⟨_, hxl, _⟩ := hxs.wf
  obtain ⟨q1, q2⟩ := hφ xs hxl
  have := hF W (fun _ _ => False) args.toList xs (fun _ _ h => h.elim) hxs q1
  rw [show args.toList.toArray = args by simp] at this
  refine this.mono fun e W' ⟨us, Fs, he, hb, hret, _, _⟩ => ?_
  obtain ⟨u, us', rfl, hu, hret⟩ := hret
  obtain ⟨rfl, rfl⟩ := hret
  have hu : u = .bool true := by
    have : u = .bool (φ 0 xs).asBool := hu
    rw [this, q2]
  subst hu
  refine ⟨.bool true, he, ?_⟩
  have hfn : s.fn H (ds ++ []) = { results := [.lit (.bool true)], args := ds } := by rw [List.append_nil]; exact hs ds (hdl hA)
  have hold : ∀ x ∈ before, (fun b => decide (b < W.heap.size)) x.block = true := fun x hx => by simpa using hlt x hx
  have hres' : ∀ (b : Nat) (sp : Nat → Bool) (hd : Bool), DataW.TrodAll enc P W' b sp hd fn.resultTypes.toList ((Value.bool true).resultList fn.resultTypes.size) (s.fn H (ds ++ [])).results [] := fun b sp hd => by
    rw [hres, hfn]
    exact trodAll_cons_mk (shut_bool htb true) trodAll_mk0
  have hargs : ∀ sp : Nat → Bool, (∀ x ∈ before, sp x.block = true) → DataW.TrodAll enc P W' 0 sp true fn.params.toList args.toList (s.fn H (ds ++ [])).args before := fun sp hsp => by
    rw [hfn]
    exact args_stay hl hr hA hb hlt hsp
  have hvars : ∀ sp : Nat → Bool, DataW.TrodVars enc P W' sp s.vars (s.fn H (ds ++ [])).vars [] := fun sp => by
    rw [hv, hfn]
    rfl
  refine ⟨ds, [], before, [], before, [], hW', hres' _ _ _, hargs _ hold, hvars _, World.keptBut_mono (fun x hx => ⟨hx, .inr (by simpa using hx)⟩) (hb.frame (· ∈ before)), fun _ => ?_⟩
  refine ⟨ok_one hres rfl (okWide_bool_mk htb _), _, _, ([] ++ before) ++ [], ⟨[] ++ before, [], trodAll_append (hargs _ (fun _ _ => rfl)) (hres' _ _ _), hvars _, rfl, ?_, ?_⟩, ?_⟩
  · intro b off hp
    have hp : MemPlace.cell b off ∈ before := by simpa using hp
    rw [hb.frozen (hlt _ hp)]
    exact hfz b off hp
  · intro ha; cases ha
  · intro x hx _
    simpa using hx

theorem returns_sized {a : Assume} {C : Checked} {os : Os} {f : FuncId} {fn : Func} {s : ChangeSpec} {conds : List PathCond} {apart fresh handsOn again : Bool}
    (own : ownKnob C.prog.godebug = none) (started : os.Started) (noInit : C.prog.inits.idxOf? f = none) (hfn : C.prog.funcs[f]? = some fn)
    (witness : ∃ (w : World) (tape : Tape) (i : Input), w.os = os ∧ (w.forCall tape i).Shaped C.prog ∧ i.vars = [] ∧ Input.okWide C.prog (w.forCall tape i) .any w.heap.size f i ∧
      s.pre6 enc C.prog fn conds apart (w.forCall tape i).memory i.args ∧ a.holds C.prog (lone (Frame.enter C.prog f i.args .normal) [] (w.forCall tape i)))
    (contract : ∀ (W : World) (base : Nat) (args : Array Value) (ds gs : List (DataW H)) (before : List MemPlace),
      (∀ (j : Nat) t v, fn.params[j]? = some t → args[j]? = some v → Value.okWide C.prog W .any base t v) →
      DataW.Whole enc C.prog fn.params.toList s.vars apart W args.toList ds gs before →
      (DataW.weightsEach C.prog (fn.params.toList ++ s.plain.varTypes C.prog) (ds ++ gs)).all (· ≤ reachBytes) = true →
      Calls C.prog f args W fun e W' => ∃ v, e = .returned v ∧ s.post enc C.prog fn apart fresh handsOn again W args v W') :
    ReturnsInHanded a C os f .any (s.pre6 enc C.prog fn conds apart) (s.post enc C.prog fn apart fresh handsOn again) := by
  refine returnsInHanded_of_calls own started noInit witness ?_
  intro w tape i _ _ _ hok hpre hholds
  obtain ⟨_, _, _, fn', hfn', _, _, _, _, hval⟩ := hok
  have e : fn' = fn := Option.some.inj (hfn'.symm.trans hfn)
  subst e
  obtain ⟨⟨ds, gs, before, hw, hc⟩, hz⟩ := hpre
  have hw' := DataW.Whole.of_heap (w' := w.forCall tape i) (by rfl) hw
  refine (contract (w.forCall tape i) w.heap.size i.args ds gs before hval hw' (hz.weights hw)).mono fun e W' ⟨v, he, hp⟩ => ?_
  subst he
  exact ChangeSpec.post_blind hp
end

end Go.Vx

/-
  Vx, part 41: loops over the rows of a slice.
-/
namespace Go.Vx
open Go.RowKit (Below)

theorem kinds_intro {env : List D} : ∀ {l : List (K × Nat)} {p : Prop}, ((∀ q ∈ l, WFD q.1 (cell env q.2)) → p) → kinds env l p
  | [], p, h => h fun q hq => by simp at hq
  | (k, i) :: l, p, h => fun hw => kinds_intro fun hq => h fun q hm => by
      rcases List.mem_cons.1 hm with rfl | hm
      · exact hw
      · exact hq q hm

theorem VC.wp_mono2 {Φ : Fns} {post post' : List D → Prop} (h : ∀ l, post l → post' l) : ∀ (t : VC) (env : List D) (B B' : Nat → List D → Prop), (∀ l v, B l v → B' l v) → t.wp Φ post env B → t.wp Φ post' env B' := by
  have hN : ∀ (n : Nat) {p q : List D → Prop}, (∀ l, p l → q l) → allN n p → allN n q := by
    intro n
    induction n with
    | zero => intro p q hpq hp; exact hpq _ hp
    | succ n ih => intro p q hpq hp d; exact ih (fun l => hpq (d :: l)) (hp d)
  have hK : ∀ (l : List (K × Nat)) (env : List D) {p q : Prop}, (p → q) → kinds env l p → kinds env l q := by
    intro l env
    induction l with
    | nil => intro p q hpq hp; exact hpq hp
    | cons x l ih => intro p q hpq hp hw; exact ih hpq (hp hw)
  intro t
  induction t with
  | req cs t ih => intro env B B' hB ht; exact ⟨ht.1, ih env B B' hB ht.2⟩
  | ite c x y ihx ihy => intro env B B' hB ht; exact ⟨fun hc => ihx env B B' hB (ht.1 hc), fun hc => ihy env B B' hB (ht.2 hc)⟩
  | loop id l m fs init body ih =>
    intro env B B' hB ⟨I, μ, h0, hI⟩
    refine ⟨I, μ, h0, hN m (fun vs hk => hK fs _ (fun hb hi => ih _ _ _ (fun j v hv => ?_) (hb hi)) hk) hI⟩
    by_cases e : j = l
    · subst e; simpa only [setB_eq] using hv
    · rw [setB_ne e] at hv ⊢; exact hB j v hv
  | back l es => intro env B B' hB ht; exact hB _ _ ht
  | ret es => intro env B B' hB ht; exact h _ ht

section
variable {Φ : Fns} {post : List D → Prop} {env : List D} {B : Nat → List D → Prop}

/-- A loop that counts. -/
theorem loop1_wp {id l n : Nat} {fs : List (K × Nat)} {L : E} {body rest : VC} {N : Nat} (hn : env.length = n) (hL : ∀ d, (L.den Φ (env ++ [d])).asInt = N) (hN : (N : Int) ≤ 140737488355328) (I : Nat → Prop) (h0 : I 0)
    (hb : ∀ i : Nat, i < N → I i → body.wp Φ post (env ++ [.int i]) (setB B l fun v => v = [.int (IntKind.i64.wrap (i + 1))] ∧ I (i + 1)))
    (hr : I N → ∀ p, rest.wp Φ post (env ++ [.int N]) (setB B l p)) :
    (VC.loop id l 1 fs [.int 0] (.ite (.op (.bin .lss .i64) [.var n, L]) body rest)).wp Φ post env B := by
  refine wp_loop' (fun v => ∃ i : Nat, v = [.int i] ∧ i ≤ N ∧ I i) (fun v => N - (cell v 0).asInt.toNat) ⟨0, rfl, by omega, h0⟩ ?_
  simp only [allN_succ, allN_zero]
  intro d
  refine kinds_intro fun _ => ?_
  rintro ⟨i, hd, hi, hI⟩
  simp only [List.cons.injEq, and_true] at hd
  subst hd
  have hv : cell (env ++ [.int i]) n = .int i := by subst hn; simp [cell]
  simp only [wp_ite', den_op, dens_cons, dens_nil, den_var, op_bin, intV_lss, hL, hv, D.asInt_int, D.asBool_bool, cell_zero, cell_succ, tt_ok, tt_no]
  refine ⟨fun hlt => ?_, fun hge => ?_⟩
  · refine VC.wp_mono2 (fun _ h => h) _ _ _ _ (fun j v h => ?_) (hb i (by omega) hI)
    by_cases e : j = l
    · subst e
      simp only [setB_eq] at h ⊢
      obtain ⟨rfl, h⟩ := h
      rw [w64 (by omega) (by omega)]
      exact ⟨⟨i + 1, by simp, by omega, h⟩, by simp; omega⟩
    · rw [setB_ne e] at h ⊢; exact h
  · have : i = N := by omega
    subst this
    exact hr hI _

/-- A loop that counts and turns another value. -/
theorem loop2_wp {id l n : Nat} {fs : List (K × Nat)} {L e0 : E} {body rest : VC} {N : Nat} (hn : env.length = n) (hL : ∀ d d', (L.den Φ (env ++ [d, d'])).asInt = N) (hN : (N : Int) ≤ 140737488355328) (I : Nat → D → Prop) (h0 : I 0 (e0.den Φ env))
    (hb : ∀ (i : Nat) (x : D), i < N → (∀ q ∈ fs, WFD q.1 (cell (env ++ [.int i, x]) q.2)) → I i x → body.wp Φ post (env ++ [.int i, x]) (setB B l fun v => ∃ y, v = [.int (IntKind.i64.wrap (i + 1)), y] ∧ I (i + 1) y))
    (hr : ∀ x, (∀ q ∈ fs, WFD q.1 (cell (env ++ [.int N, x]) q.2)) → I N x → ∀ p, rest.wp Φ post (env ++ [.int N, x]) (setB B l p)) :
    (VC.loop id l 2 fs [.int 0, e0] (.ite (.op (.bin .lss .i64) [.var n, L]) body rest)).wp Φ post env B := by
  refine wp_loop' (fun v => ∃ (i : Nat) (x : D), v = [.int i, x] ∧ i ≤ N ∧ I i x) (fun v => N - (cell v 0).asInt.toNat) ⟨0, _, rfl, by omega, h0⟩ ?_
  simp only [allN_succ, allN_zero]
  intro d d'
  refine kinds_intro fun hk => ?_
  rintro ⟨i, x, hd, hi, hI⟩
  simp only [List.cons.injEq, and_true] at hd
  obtain ⟨rfl, rfl⟩ := hd
  have hv : cell (env ++ [.int i, d']) n = .int i := by subst hn; simp [cell]
  simp only [wp_ite', den_op, dens_cons, dens_nil, den_var, op_bin, intV_lss, hL, hv, D.asInt_int, D.asBool_bool, cell_zero, cell_succ, tt_ok, tt_no]
  refine ⟨fun hlt => ?_, fun hge => ?_⟩
  · refine VC.wp_mono2 (fun _ h => h) _ _ _ _ (fun j v h => ?_) (hb i d' (by omega) hk hI)
    by_cases e : j = l
    · subst e
      simp only [setB_eq] at h ⊢
      obtain ⟨y, rfl, h⟩ := h
      rw [w64 (by omega) (by omega)]
      exact ⟨⟨i + 1, y, by simp, by omega, h⟩, by simp; omega⟩
    · rw [setB_ne e] at h ⊢; exact h
  · have : i = N := by omega
    subst this
    exact hr _ hk hI _

/-- The same, the count behind. -/
theorem loop2'_wp {id l n : Nat} {fs : List (K × Nat)} {L e0 : E} {body rest : VC} {N : Nat} (hn : env.length + 1 = n) (hL : ∀ d d', (L.den Φ (env ++ [d', d])).asInt = N) (hN : (N : Int) ≤ 140737488355328) (I : Nat → D → Prop) (h0 : I 0 (e0.den Φ env))
    (hb : ∀ (i : Nat) (x : D), i < N → (∀ q ∈ fs, WFD q.1 (cell (env ++ [x, .int i]) q.2)) → I i x → body.wp Φ post (env ++ [x, .int i]) (setB B l fun v => ∃ y, v = [y, .int (IntKind.i64.wrap (i + 1))] ∧ I (i + 1) y))
    (hr : ∀ x, (∀ q ∈ fs, WFD q.1 (cell (env ++ [x, .int N]) q.2)) → I N x → ∀ p, rest.wp Φ post (env ++ [x, .int N]) (setB B l p)) :
    (VC.loop id l 2 fs [e0, .int 0] (.ite (.op (.bin .lss .i64) [.var n, L]) body rest)).wp Φ post env B := by
  refine wp_loop' (fun v => ∃ (i : Nat) (x : D), v = [x, .int i] ∧ i ≤ N ∧ I i x) (fun v => N - (cell v 1).asInt.toNat) ⟨0, _, rfl, by omega, h0⟩ ?_
  simp only [allN_succ, allN_zero]
  intro d d'
  refine kinds_intro fun hk => ?_
  rintro ⟨i, x, hd, hi, hI⟩
  simp only [List.cons.injEq, and_true] at hd
  obtain ⟨rfl, rfl⟩ := hd
  have hv : cell (env ++ [d, .int i]) n = .int i := by subst hn; simp [cell]
  simp only [wp_ite', den_op, dens_cons, dens_nil, den_var, op_bin, intV_lss, hL, hv, D.asInt_int, D.asBool_bool, cell_zero, cell_succ, tt_ok, tt_no]
  refine ⟨fun hlt => ?_, fun hge => ?_⟩
  · refine VC.wp_mono2 (fun _ h => h) _ _ _ _ (fun j v h => ?_) (hb i d (by omega) hk hI)
    by_cases e : j = l
    · subst e
      simp only [setB_eq] at h ⊢
      obtain ⟨y, rfl, h⟩ := h
      rw [w64 (by omega) (by omega)]
      exact ⟨⟨i + 1, y, by simp, by omega, h⟩, by simp; omega⟩
    · rw [setB_ne e] at h ⊢; exact h
  · have : i = N := by omega
    subst this
    exact hr _ hk hI _
end

/-! The first row of some sort. -/
open Classical in
/-- The place of the first row of which p holds, or -1. -/
noncomputable def findR (p : List D → Prop) : List (List D) → Nat → Int
  | [], _ => -1
  | x :: xs, n => if p x then n else findR p xs (n + 1)
theorem findR_at {p : List D → Prop} : ∀ {xs : List (List D)} {n i : Nat}, i < xs.length → (∀ m, m < i → ¬ p (rowN xs m)) → p (rowN xs i) → findR p xs n = (n + i : Nat)
  | [], n, i, h, _, _ => by simp at h
  | x :: xs, n, 0, _, _, h2 => by simp only [rowN_zero] at h2; simp [findR, h2]
  | x :: xs, n, i + 1, h, h1, h2 => by
    have h0 := h1 0 (by omega)
    simp only [rowN_zero] at h0
    rw [findR, if_neg h0, findR_at (xs := xs) (n := n + 1) (i := i) (by simpa using h) (fun m hm => by have := h1 (m + 1) (by omega); simpa using this) (by simpa using h2)]
    congr 1
    omega
theorem findR_no {p : List D → Prop} : ∀ {xs : List (List D)} {n : Nat}, (∀ m, m < xs.length → ¬ p (rowN xs m)) → findR p xs n = -1
  | [], n, _ => rfl
  | x :: xs, n, h => by
    have h0 := h 0 (by simp)
    simp only [rowN_zero] at h0
    rw [findR, if_neg h0, findR_no (xs := xs) fun m hm => by have := h (m + 1) (by simpa using hm); simpa using this]
theorem findR_cases (p : List D → Prop) (xs : List (List D)) : (findR p xs 0 = -1 ∧ ∀ m, m < xs.length → ¬ p (rowN xs m)) ∨ ∃ i : Nat, i < xs.length ∧ findR p xs 0 = i ∧ p (rowN xs i) ∧ ∀ m, m < i → ¬ p (rowN xs m) := by
  by_cases h : ∀ m, m < xs.length → ¬ p (rowN xs m)
  · exact .inl ⟨findR_no h, h⟩
  · simp only [Classical.not_forall, Classical.not_not] at h
    obtain ⟨m, hm, hp⟩ := h
    obtain ⟨i, ⟨hi, hpi⟩, hmin⟩ := least (p := fun i => i < xs.length ∧ p (rowN xs i)) m ⟨hm, hp⟩
    have h1 : ∀ j, j < i → ¬ p (rowN xs j) := fun j hj hpj => by
      have := hmin j ⟨by omega, hpj⟩
      omega
    exact .inr ⟨i, hi, by rw [findR_at hi h1 hpi]; simp, hpi, h1⟩
theorem rowN_take {xs : List (List D)} {n i : Nat} (h : i < n) : rowN (xs.take n) i = rowN xs i := by
  simp [rowN, List.getElem?_take, h]

/-- A test of each row: the loop. -/
theorem eqR_iff {p : List D → List D → Bool} : ∀ {xs ys : List (List D)}, eqR p xs ys = true ↔ xs.length = ys.length ∧ ∀ i, i < xs.length → p (rowN xs i) (rowN ys i) = true
  | [], [] => by simp [eqR]
  | [], _ :: _ => by simp [eqR]
  | _ :: _, [] => by simp [eqR]
  | x :: xs, y :: ys => by
    simp only [eqR, Bool.and_eq_true, eqR_iff (xs := xs) (ys := ys), List.length_cons, Nat.add_right_cancel_iff]
    constructor
    · rintro ⟨h1, h2, h3⟩
      refine ⟨h2, fun i hi => ?_⟩
      cases i with
      | zero => exact h1
      | succ i => exact h3 i (by omega)
    · rintro ⟨h1, h2⟩
      exact ⟨h2 0 (by omega), h1, fun i hi => by simpa using h2 (i + 1) (by omega)⟩

@[simp] theorem op_rows (Φ : Fns) (m : Nat) (ds : List D) : opD Φ (.rows m) ds = .sl (chunk m (ds.length / m) ds) := rfl

theorem sumR_map {p : List D → Nat} {f : List D → List D} (h : ∀ r, p (f r) = p r) : ∀ xs, sumR p (xs.map f) = sumR p xs
  | [] => rfl
  | x :: xs => by simp [sumR, h, sumR_map h xs]
mutual
theorem szD_cnD : ∀ (k : K) (d : D), szD k (cnD k d) = szD k d
  | .int _, d => rfl
  | .bool, d => rfl
  | .str, d => rfl
  | .sl _ ks, d => by simp only [cnD, szD, D.asList_sl, List.length_map, sumR_map (szDs_cnDs ks)]
theorem szDs_cnDs : ∀ (ks : List K) (r : List D), szDs ks (cnDs ks r) = szDs ks r
  | [], r => rfl
  | k :: ks, r => by simp only [cnDs, szDs, List.headD_cons, List.tail_cons, szD_cnD k, szDs_cnDs ks]
end


/-! A struct as its cells. -/
def aslC : K → D → D
  | .sl _ _, d => .sl d.asList
  | _, d => d
def aslRow : List K → Nat → List D → List D
  | [], _, _ => []
  | k :: ks, j, r => aslC k (cell r j) :: aslRow ks (j + 1) r
theorem szD_asl (k : K) (d : D) : szD k (aslC k d) = szD k d := by cases k <;> rfl
theorem szDs_aslRow : ∀ (ks : List K) (j : Nat) (r : List D), szDs ks (aslRow ks j r) = szDs ks (r.drop j)
  | [], _, _ => rfl
  | k :: ks, j, r => by
    rw [aslRow, szDs_cons, szDs_cons, cell_zero, szD_asl, List.tail_cons, szDs_aslRow ks (j + 1) r, List.tail_drop]
    congr 2
    simp [cell, List.getD_eq_getElem?_getD]
theorem szDs_asl (ks : List K) (r : List D) : szDs ks (aslRow ks 0 r) = szDs ks r := szDs_aslRow ks 0 r

end Go.Vx

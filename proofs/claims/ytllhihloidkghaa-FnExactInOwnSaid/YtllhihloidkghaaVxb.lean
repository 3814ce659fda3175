/-
  A program logic of our own, parts 18 to 39.
-/
import Derived.Test.YtllhihloidkghaaVxa
import Derived.Calls
import Derived.Orders
set_option linter.unusedVariables false
set_option linter.unusedSimpArgs false
/-
  Vx, part 18: append on closed states; all operations but calls.
-/
namespace Go.Vx
open Go.RowKit (Below)

def ssrc (T : TypeId → TI) (s : SSt) (t : TypeId) (ks : List K) (y : Operand) : Option E := match sev T t s y with
  | .one (.ref z q) => match s.obj z with
    | some (.arr _ ks' _ xs) => bif K.eqbs ks' ks then some (scut xs q) else none
    | _ => none
  | v => match v.dn with
    | .one (.dat (.sl _ ks') d) => bif K.eqbs ks' ks then some d else none
    | _ => none

def offC : Option (E × E) → List E
  | none => []
  | some (o, _) => [.op .le [o, .int 0]]

/-- An array of the call's own whose rows own what they hold, as the source of an append. -/
def deepSrc (T : TypeId → TI) (s : SSt) (t : TypeId) (kd : Nat) (ks : List K) (dp : Bool) (y : Operand) : Option (Nat × TypeId × E) :=
  bif dp && !(plainK ks) then match sev T t s y with
    | .one (.ref z none) => bif z == kd then none else match s.obj z with
      | some (.arr e ks' true ys) => bif K.eqbs ks' ks then some (z, e, ys) else none
      | _ => none
    | _ => none
  else none
def fAppCore (T : TypeId → TI) (key : Nat) (s : SSt) (t e : TypeId) (y : Operand) (kd : Nat) (p : Option (E × E)) : Option Res :=
  match s.obj kd with
  | some (.arr e' ks dp xs) => bif e' == e && ks.length == (T e).ks.length then match deepSrc T s t kd ks dp y with
    | some (z, ez, ys) => some ⟨.op (.appfit (T e).bytes) [scut xs p, ys] :: offC p, .one (.ref key none), [(z, .sealed ez ks ys), (kd, .gone), (key, .arr e ks true (.op .lapp [scut xs p, ys]))]⟩
    | none => match ssrc T s t ks y with
    | some ys => some ⟨.op (.appfit (T e).bytes) [scut xs p, ys] :: offC p, .one (.ref key none), [(kd, .gone), (key, .arr e ks (dp && plainK ks) (.op .lapp [scut xs p, ys]))]⟩
    | none => none
    else none
  | _ => none

def fAppend (T : TypeId → TI) (key : Nat) (s : SSt) (t : TypeId) (x y : Operand) : Option Res :=
  match (T t).sl with
  | some e => bif (T t).ok && ((T e).ok && !((T e).ks.length == 0)) then match sev T t s x with
    | .one (.ref kd p) => fAppCore T key s t e y kd p
    | .one (.nil e' ks) => match s.obj (key + 1) with
      | none => match fAppCore T key (s.setO (key + 1) (.arr e' ks true .nl)) t e y (key + 1) none with
        | some r => some { r with upd := (key + 1, .arr e' ks true .nl) :: r.upd }
        | none => none
      | _ => none
    | _ => none
    else none
  | none => none

section
variable {Φ : Fns} {env : List D} {C : Cx} {g : Gh} {s : SSt} {a : Act} {w : World} {o : Oper} {key : Nat}

theorem ssrc_src (R : Rel C g (s.den Φ env) a w) {t : TypeId} {ks : List K} {y : Operand} {ys : E} (h : ssrc C.T s t ks y = some ys) : ∃ vssn, Src w (Me C.M (s.den Φ env).obj g.hd) ks (a.eval y) (ys.den Φ env).asList vssn := by
  unfold ssrc at h
  split at h
  · rename_i z q hy
    split at h
    · rename_i e ks' dp xs hz
      obtain ⟨h1, h2⟩ := bif_some h
      have h3 := K.eqbs_eq h1
      clear h h1
      subst h3
      simp only [Option.some.injEq] at h2
      subst h2
      have hr := ev_rep R t y
      rw [sev_is hy] at hr
      obtain ⟨vssn, S⟩ := R.src (obj_is hz) hr.1
      exact ⟨vssn, by rw [scut_den]; exact S⟩
    · cases h
  · split at h
    · rename_i v hv e ks' d hy
      obtain ⟨h1, h2⟩ := bif_some h
      have h3 := K.eqbs_eq h1
      clear h h1
      subst h3
      simp only [Option.some.injEq] at h2
      subst h2
      exact Src.of_dat (R.datv (sev_dat hy))
    · cases h

theorem Rel.srcDeep {σ : St} (R : Rel C g σ a w) {y : Nat} {e : TypeId} {ks : List K} {ys : List (List D)} (hy : σ.obj y = some (.arr e ks true ys)) {v : Value} (hr : RefRep (sur C g σ w) y none v) :
    ∃ (vssn : List (List Value)) (fpsn : List (List Nat)), Src w (Me C.M (σ.setO y (.sealed e ks ys)).obj (g.upd y (g.hd y) []).hd) ks v ys vssn ∧ fpsn.length = ys.length ∧
      (∀ (i : Nat) (row : List D) (vs : List Value) (f : List Nat), ys[i]? = some row → vssn[i]? = some vs → fpsn[i]? = some f → RepDs w ks vs row f) ∧ fpsn.flatten.Nodup ∧ ∀ c, c ∈ fpsn.flatten → c ∈ g.fp y := by
  obtain ⟨vss, fps, h1, h2, h3, h4, h5, hlen, h6⟩ := R.arrAll hy
  unfold RefRep at hr
  simp only [sur, hy] at hr
  have hv := hr.2
  subst hv
  have hmem : ∀ c, c ∈ fps.flatten → c ∈ g.fp y := fun c hc => by rw [h5]; simp [hc]
  have hnd : fps.flatten.Nodup := by
    have := R.own y
    rw [h5] at this
    exact (List.nodup_append.1 this).2.1
  have hme : ∀ c, c ∈ g.fp y → ∀ o, ¬ Me C.M (σ.setO y (.sealed e ks ys)).obj (g.upd y (g.hd y) []).hd c o := fun c hc o => R.notMe hc (fun z hl hb => by
    rw [St.obj_setO] at hl
    split at hl
    · simp [Ob.live] at hl
    · rename_i hz
      exact ⟨hl, hz, by simp [Gh.upd, upd_ne _ _ hz]⟩) o
  refine ⟨vss, fps, ⟨h3, hlen, ?_, fun i row vs e1 e2 => ?_⟩, h4, fun i row vs f e1 e2 e3 => (h6 i row vs f e1 e2 e3).2.1 rfl, hnd, hmem⟩
  · rcases ownsRow_cases h1 with ⟨hh, h00⟩ | ⟨b, cap', hh, hn, _⟩
    · exact ⟨none, 0, by rw [hh, h00], fun h => by omega⟩
    · refine ⟨some ⟨b, 0, none⟩, cap', hh, fun _ => ⟨b, 0, rfl, ?_⟩⟩
      refine row_flatten (sz := ks.length) _ _ fun i vs hi => ?_
      have hr := ownsRow_row h1 hlen (by rw [hh]; rfl : (g.hd y).ownBlock = some b) hi
      rw [Nat.zero_add]
      exact ⟨hr, hlen vs (List.mem_of_getElem? hi)⟩
  · have hi := (List.getElem?_eq_some_iff.1 e2).1
    have hf : fps[i]? = some fps[i] := List.getElem?_eq_getElem (by omega)
    exact ((h6 i row vs _ e1 e2 hf).2.1 rfl).toC fun b hb o => hme b (hmem b (List.mem_flatten.2 ⟨_, List.getElem_mem _, hb⟩)) o

theorem setO_setO_comm_free {σ : St} {x : Nat} {o : Ob} {z : Nat} (h : z ≠ x) : (σ.setO x o).obj z = σ.obj z := by rw [St.obj_setO, if_neg h]

theorem good_appCore (R : Rel C g (s.den Φ env) a w) (hkey : s.obj key = none) {t e : TypeId} {x y : Operand} (ho : o.op = .call { callee := .builtin .append, args := #[x, y], argTypes := #[t, t] })
    (ht : (C.T t).ok = true) (hs : (C.T t).sl = some e) (het : (C.T e).ok = true) (hpos : 0 < (C.T e).ks.length) {kd : Nat} {p : Option (E × E)} (hx : RefRep (sur C g (s.den Φ env) w) kd (denP Φ env p) (a.eval x))
    {r : Res} (h : fAppCore C.T key s t e y kd p = some r) : Good Φ env C s a w o r := fun hc => by
  unfold fAppCore at h
  split at h
  · rename_i e' ks dp xs hk
    obtain ⟨h1, h2⟩ := bif_some h
    clear h
    simp only [Bool.and_eq_true, beq_iff_eq] at h1
    obtain ⟨h3, h4⟩ := h1
    subst h3
    split at h2
    · rename_i z ez ys hys
      simp only [Option.some.injEq] at h2
      subst h2
      unfold deepSrc at hys
      obtain ⟨hb, hys0⟩ := bif_some hys
      clear hys
      have hys := hys0
      clear hys0
      simp only [Bool.and_eq_true] at hb
      split at hys
      · rename_i z' hz'
        cases hzk : z' == kd with
        | true => rw [hzk] at hys; cases hys
        | false =>
          rw [hzk] at hys
          simp only [cond_false] at hys
          split at hys
          · rename_i e2 ks2 ys2 hzo
            obtain ⟨hk2, hys3⟩ := bif_some hys
            clear hys
            have hk3 := K.eqbs_eq hk2
            subst hk3
            have hys4 := Option.some.inj hys3
            clear hys3
            simp only [Prod.mk.injEq] at hys4
            obtain ⟨rfl, rfl, rfl⟩ := hys4
            have hne : z' ≠ kd := by simpa using hzk
            have hdp : dp = true := hb.1
            have hzo' := obj_is (Φ := Φ) (env := env) hzo
            have hrz : RefRep (sur C g (s.den Φ env) w) z' none (a.eval y) := by
              have := ev_rep R t y
              rw [sev_is hz'] at this
              exact this.1
            obtain ⟨vssn, fpsn, S, f1, f2, f3, f4⟩ := R.srcDeep hzo' hrz
            have R1 := R.shutOb hzo'
            have hkd1 : ((s.den Φ env).setO z' (.sealed e2 ks2 (ys2.den Φ env).asList)).obj kd = some (.arr e' ks2 dp (xs.den Φ env).asList) := by
              rw [setO_setO_comm_free (fun e => hne e.symm)]; exact obj_is hk
            have hx1 : RefRep (sur C (g.upd z' (g.hd z') []) ((s.den Φ env).setO z' (.sealed e2 ks2 (ys2.den Φ env).asList)) w) kd (denP Φ env p) (a.eval x) := by
              have hkd0 := obj_is (Φ := Φ) (env := env) hk
              have hhd : (g.upd z' (g.hd z') []).hd kd = g.hd kd := by simp [Gh.upd, upd_ne _ _ (fun e => hne e.symm : kd ≠ z')]
              unfold RefRep at hx ⊢
              simp only [sur] at hx ⊢
              rw [hkd1, hhd]
              rw [hkd0] at hx
              exact hx
            have hkn : ((s.den Φ env).setO z' (.sealed e2 ks2 (ys2.den Φ env).asList)).obj key = none := by
              rw [setO_setO_comm_free (fun e => by rw [e, hzo] at hkey; cases hkey)]
              exact none_den hkey
            have c0 := hc (.op (.appfit (C.T e').bytes) [scut xs p, ys2]) (by simp)
            simp only [E.den, E.dens, opD, D.asBool, decide_eq_true_eq, List.getD_cons_zero, List.getD_cons_succ, scut_den, D.asList] at c0
            have hp0 : cutOff (denP Φ env p) = 0 := by
              cases p with
              | none => rfl
              | some q =>
                obtain ⟨f, l⟩ := q
                have c1 := hc (.op .le [f, .int 0]) (by simp [offC])
                simp [E.den, E.dens, opD, D.asBool, D.asInt] at c1
                simp only [denP, cutOff, D.n]
                have c1' : (f.den Φ env).asInt ≤ 0 := c1
                omega
            have := did_append R1 ho ht hs het hpos hx1 hp0 hkd1 h4 S hkn (dp2 := true) (fun _ => ⟨hdp, fpsn, f1, f2, f3, fun c hcc => by
              have hcy := f4 c hcc
              refine ⟨fun z hz => ?_, R.alw _ c hcy⟩
              by_cases hzz : z = z'
              · subst hzz; simp [Gh.upd, upd_eq] at hz
              · simp only [Gh.upd, upd_ne _ _ hzz] at hz
                exact R.apart z z' hzz c hz hcy⟩) c0.1 c0.2
            simpa [SSt.upds, SSt.den_setO, SOb.den, SV.den, SC.den, denP, E.den, E.dens, opD, D.asList, scut_den] using this
          · cases hys
      · cases hys
    split at h2
    · rename_i ys hys
      simp only [Option.some.injEq] at h2
      subst h2
      obtain ⟨vssn, S⟩ := ssrc_src R hys
      have c0 := hc (.op (.appfit (C.T e').bytes) [scut xs p, ys]) (by simp)
      simp only [E.den, E.dens, opD, D.asBool, decide_eq_true_eq, List.getD_cons_zero, List.getD_cons_succ, scut_den, D.asList] at c0
      have hp0 : cutOff (denP Φ env p) = 0 := by
        cases p with
        | none => rfl
        | some q =>
          obtain ⟨f, l⟩ := q
          have c1 := hc (.op .le [f, .int 0]) (by simp [offC])
          simp [E.den, E.dens, opD, D.asBool, D.asInt] at c1
          simp only [denP, cutOff, D.n]
          have c1' : (f.den Φ env).asInt ≤ 0 := c1
          omega
      have := did_append R ho ht hs het hpos hx hp0 (obj_is hk) h4 S (none_den hkey) (dp2 := dp && plainK ks) (fun hd => by
        simp only [Bool.and_eq_true] at hd
        refine ⟨hd.1, List.replicate (ys.den Φ env).asList.length [], by simp, fun i row vs f e1 e2 e3 => ?_, by simp, fun c hcc => by simp at hcc⟩
        rw [(List.mem_replicate.1 (List.mem_of_getElem? e3)).2]
        exact (S.rows i row vs e1 e2).plain hd.2) c0.1 c0.2
      simpa [SSt.upds, SSt.den_setO, SOb.den, SV.den, SC.den, denP, E.den, E.dens, opD, D.asList, scut_den] using this
    · cases h2
  · cases h

theorem obj_setO_ne {x y : Nat} {ob : SOb} (h : x ≠ y) : (s.setO y ob).obj x = s.obj x := by
  have hd : ∀ l, slook x (sdrop y l) = slook x l := by
    intro l
    induction l with
    | nil => rfl
    | cons q l ih =>
      obtain ⟨z, ob'⟩ := q
      by_cases hz : y = z
      · subst hz
        have : (x == y) = false := by simpa using h
        simp [sdrop, slook, this, ih]
      · have : (y == z) = false := by simpa using hz
        simp [sdrop, slook, this, ih]
  have : (x == y) = false := by simpa using h
  simp [SSt.obj, SSt.setO, slook, this, hd]

theorem good_append (R : Rel C g (s.den Φ env) a w) (hkey : s.obj key = none) {t : TypeId} {x y : Operand} (ho : o.op = .call { callee := .builtin .append, args := #[x, y], argTypes := #[t, t] }) {r : Res}
    (h : fAppend C.T key s t x y = some r) : Good Φ env C s a w o r := by
  unfold fAppend at h
  split at h
  · rename_i e he
    obtain ⟨h1, h2⟩ := bif_some h
    clear h
    simp only [Bool.and_eq_true, Bool.not_eq_true', beq_eq_false_iff_ne, ne_eq] at h1
    have hr := ev_rep R t x
    split at h2
    · rename_i kd p hx
      rw [sev_is hx] at hr
      exact good_appCore R hkey ho h1.1 he h1.2.1 (by omega) hr.1 h2
    · rename_i e' ks hx
      rw [sev_is hx] at hr
      have hv : a.eval x = .slice none 0 0 := hr.1
      split at h2
      · rename_i hk2
        split at h2
        · rename_i r' hr'
          simp only [Option.some.injEq] at h2
          subst h2
          have R' := R.nilArr (none_den (Φ := Φ) (env := env) hk2) e' ks
          have e1 : (s.den Φ env).setO (key + 1) (.arr e' ks true []) = (s.setO (key + 1) (.arr e' ks true .nl)).den Φ env := by rw [SSt.den_setO]; rfl
          rw [e1] at R'
          refine good_appCore R' (by rw [obj_setO_ne (by omega)]; exact hkey) ho h1.1 he h1.2.1 (by omega) ?_ hr'
          unfold RefRep
          simp only [sur, ← e1, St.obj_setO, if_true, Gh.upd, upd_eq]
          exact ⟨trivial, hv⟩
        · cases h2
      · cases h2
    · cases h2
  · cases h
end

/-- Bytes as a text. -/
def fBytes (T : TypeId → TI) (s : SSt) (st t : TypeId) (x : Operand) : Option Res := match (T st).sl with
  | some e => match (T e).ik with
    | some .u8 => bif (T st).ok && ((T e).ok && ((T t).ok && (T t).isStr)) then match ssrc T s st [.int .u8] x with
      | some ys => some ⟨[.op .le [.op .len [ys], .int 140737488355328]], .one (.dat .str (.op .bstr [ys])), []⟩
      | none => none
      else none
    | _ => none
  | none => none

section
variable {Φ : Fns} {env : List D} {C : Cx} {g : Gh} {s : SSt} {a : Act} {w : World} {o : Oper} {key : Nat}

theorem bytes_flatten {w : World} {me : Nat → Nat → Prop} : ∀ (ys : List (List D)) (vssn : List (List Value)), vssn.length = ys.length → (∀ (i : Nat) (row : List D) (vs : List Value), ys[i]? = some row → vssn[i]? = some vs → RepCs w me [.int .u8] vs row) →
    vssn.flatten = (ys.map fun r => (r.headD default).asInt).map (Value.int .u8)
  | [], [], _, _ => rfl
  | [], _ :: _, h, _ => by simp at h
  | _ :: _, [], h, _ => by simp at h
  | y :: ys, vs :: vss, h, hr => by
    have h0 := hr 0 y vs rfl rfl
    obtain ⟨v, vs', rfl, hc, hn⟩ := h0
    have hn : vs' = [] := hn
    subst hn
    rw [List.flatten_cons, bytes_flatten ys vss (by simpa using h) fun i row vs e1 e2 => hr (i + 1) row vs (by simpa using e1) (by simpa using e2), hc.1]
    rfl

theorem did_bytes {σ : St} (R : Rel C g σ a w) {st t e : TypeId} {x : Operand} (ho : o.op = .convert st t x) (hst : (C.T st).ok = true) (hsl : (C.T st).sl = some e) (he : (C.T e).ok = true) (hik : (C.T e).ik = some .u8)
    (ht : (C.T t).ok = true) (hstr : (C.T t).isStr = true) {me : Nat → Nat → Prop} {ys : List (List D)} {vssn : List (List Value)} (S : Src w me [.int .u8] (a.eval x) ys vssn) (hmax : ys.length ≤ lenMax) :
    Did C a w o (.one (.dat .str (.str (bytesOf ys)))) σ := by
  obtain ⟨_, d1, _, _, hu1, _, _, _, _, h1⟩ := (C.tok st hst).ex
  obtain ⟨_, d2, _, _, hu2, _, _, _, _, h2⟩ := (C.tok e he).ex
  obtain ⟨_, d3, _, _, hu3, _, _, _, _, h3⟩ := (C.tok t ht).ex
  have e1 : d1 = .slice e := by
    cases d1 with
    | slice e' => have := h1.2.1; rw [hsl] at this; simp at this; rw [this]
    | struct fs => have := h1.2.1; rw [hsl] at this; cases this
    | int k => have := h1.2.1; rw [hsl] at this; cases this
    | bool => have := h1.2.1; rw [hsl] at this; cases this
    | string => have := h1.2.1; rw [hsl] at this; cases this
    | _ => exact h1.elim
  have e2 : d2 = .int .u8 := by
    cases d2 with
    | int k => have := h2.2.2.1; rw [hik] at this; simp at this; rw [this]
    | slice e' => have := h2.2.2.1; rw [hik] at this; cases this
    | struct fs => have := h2.2.2.1; rw [hik] at this; cases this
    | bool => have := h2.2.2.1; rw [hik] at this; cases this
    | string => have := h2.2.2.1; rw [hik] at this; cases this
    | _ => exact h2.elim
  have e3 : d3 = .string := by
    cases d3 with
    | string => rfl
    | int k => have := h3.2.2.2.1; rw [hstr] at this; cases this
    | slice e' => have := h3.2.2.2.1; rw [hstr] at this; cases this
    | struct fs => have := h3.2.2.2.1; rw [hstr] at this; cases this
    | bool => have := h3.2.2.2.1; rw [hstr] at this; cases this
    | _ => exact h3.elim
  subst e1 e2 e3
  obtain ⟨ad, cap, ev, hrow⟩ := S.val
  have hfl := bytes_flatten ys vssn S.len S.rows
  have hsz : (bytesOf ys).size ≤ lenMax := by simp [bytesOf, strOfNums_size, hmax]
  have key : (convert st t (.slice ad ys.length cap)).run C.P w = .ok (.string (bytesOf ys)) w := by
    cases ys with
    | nil =>
      rw [run_convert_bytes_string w st t e ad _ cap hu1 hu2 hu3]
      cases ad with
      | none => simp [Conv.bytesToString, bytesOf, strOfNums]; rfl
      | some a0 =>
        have hl : (loadCells a0 0).run C.P w = .ok (([] : List Int).map (Value.int .u8)).toArray w := by
          simpa using run_loadCells_list (P := C.P) w a0 [] (fun j v hj => by simp at hj)
        have := run_bytesToString (P := C.P) w a0 0 cap [] hl
        exact this.trans rfl
    | cons y ys =>
      obtain ⟨b, p, rfl, hr⟩ := hrow (by simp)
      rw [hfl] at hr
      exact run_convert_bytes_arg (P := C.P) w st e hu1 hu2 b p (y :: ys).length cap ((y :: ys).map fun r => (r.headD default).asInt) (by simp) (fun i hi => by
        have hi' : i < ((y :: ys).map fun r => (r.headD default).asInt).length := by simpa using hi
        have := hr.get i (.int .u8 (((y :: ys).map fun r => (r.headD default).asInt)[i])) (by rw [List.getElem?_map, List.getElem?_eq_getElem hi', Option.map_some])
        rw [this, List.getD_eq_getElem?_getD, List.getElem?_eq_getElem hi', Option.getD_some]) t hu3
  exact .quiet R (v := .string (bytesOf ys)) (by simp [execOp, ho, ev, key]) (rep_one ⟨rfl, hsz⟩)

theorem good_bytes (R : Rel C g (s.den Φ env) a w) {st t : TypeId} {x : Operand} (ho : o.op = .convert st t x) {r : Res} (h : fBytes C.T s st t x = some r) : Good Φ env C s a w o r := fun hc => by
  unfold fBytes at h
  split at h
  · rename_i e he
    split at h
    · rename_i hik
      obtain ⟨h1, h2⟩ := bif_some h
      simp only [Bool.and_eq_true] at h1
      split at h2
      · rename_i ys hys
        simp only [Option.some.injEq] at h2
        subst h2
        obtain ⟨vssn, S⟩ := ssrc_src R hys
        have c0 := hc (.op .le [.op .len [ys], .int 140737488355328]) (by simp)
        simp [E.den, E.dens, opD, D.asBool, D.asInt] at c0
        exact did_bytes R ho h1.1 he h1.2.1 hik h1.2.2.1 h1.2.2.2 S (by show (ys.den Φ env).asList.length ≤ 2 ^ 47; omega)
      · cases h2
    · cases h
  · cases h
end

/-- An operation that is no call of a function. `key`, `key + 1`: names for what it makes. -/
def opF (T : TypeId → TI) (key : Nat) (s : SSt) (o : Oper) : Option Res := match o.op with
  | .move x => some ⟨[], sev T o.type s x, []⟩
  | .assign x => some ⟨[], sev T o.type s x, []⟩
  | .load t x => fLoad T s t x
  | .fieldAddr t x f => fFieldAddr T s t x f
  | .indexAddr t x y => fIndexAddr T s t x y
  | .binOp op t x y u => match fEq T s op t x y u with | some r => some r | none => fBin T s op t x y u
  | .unOp op t x => fUn T s op t x
  | .convert st t x => match fBytes T s st t x with | some r => some r | none => fConv T s st t x
  | .index t x y => fIndex T s t x y
  | .pick c x y => fPick T s o.type c x y
  | .slice t x lo hi none => fSlice T s t x lo hi
  | .extract x i => fExtract T s x i
  | .field st x f => fField T s st x f
  | .nilCheck x => fNilCheck T s x
  | .alloc t => fAlloc T key t
  | .box t y => fBox T key s t y
  | .store t x y => fStore T s t x y
  | .build t parts => fBuild T s t parts.toList
  | .buildSlice t n parts => fBuildSlice T key s t n parts.toList
  | .makeSlice t x y => fMake T key s t x y
  | .call c => match c.callee, c.args.toList, c.argTypes.toList with
    | .builtin .len, [x], [t] => fLen T s t x
    | .builtin .append, [x, y], [t, t'] => bif t == t' then fAppend T key s t x y else none
    | _, _, _ => none
  | _ => none

section
variable {Φ : Fns} {env : List D} {C : Cx} {g : Gh} {s : SSt} {a : Act} {w : World} {o : Oper} {key : Nat}

theorem good_op (R : Rel C g (s.den Φ env) a w) (hkey : s.obj key = none) {r : Res} (h : opF C.T key s o = some r) : Good Φ env C s a w o r := by
  unfold opF at h
  split at h
  case h_1 ho => simp only [Option.some.injEq] at h; subst h; exact good_move R _ (.inl ho)
  case h_2 ho => simp only [Option.some.injEq] at h; subst h; exact good_move R _ (.inr ho)
  case h_3 ho => exact good_load R ho h
  case h_4 ho => exact good_fieldAddr R ho h
  case h_5 ho => exact good_indexAddr R ho h
  case h_6 ho =>
    split at h
    · rename_i r' hr
      simp only [Option.some.injEq] at h
      subst h
      exact good_eq R ho hr
    · exact good_bin R ho h
  case h_7 ho => exact good_un R ho h
  case h_8 ho =>
    split at h
    · rename_i r' hr
      simp only [Option.some.injEq] at h
      subst h
      exact good_bytes R ho hr
    · exact good_conv R ho h
  case h_9 ho => exact good_index R ho h
  case h_10 ho => exact good_pick R ho h
  case h_11 ho => exact good_slice R ho h
  case h_12 ho => exact good_extract R ho h
  case h_13 ho => exact good_field R ho h
  case h_14 ho => exact good_nilCheck R ho h
  case h_15 ho => exact good_alloc R hkey ho h
  case h_16 ho => exact good_box R hkey ho h
  case h_17 ho => exact good_store R ho h
  case h_18 ho => exact good_build R ho h
  case h_19 ho => exact good_buildSlice R hkey ho h
  case h_20 ho => exact good_make R hkey ho h
  case h_21 c ho =>
    split at h
    · rename_i x t h1 h2 h3
      have e1 : c = { callee := .builtin .len, args := #[x], argTypes := #[t] } := by
        obtain ⟨cl, ar, at'⟩ := c
        simp only at h1 h2 h3
        subst h1
        rw [show ar = #[x] from Array.ext' h2, show at' = #[t] from Array.ext' h3]
      rw [e1] at ho
      exact good_len R ho h
    · rename_i x y t t' h1 h2 h3
      obtain ⟨h4, h5⟩ := bif_some h
      clear h
      have h6 : t = t' := by simpa using h4
      clear h4
      subst h6
      have e1 : c = { callee := .builtin .append, args := #[x, y], argTypes := #[t, t] } := by
        obtain ⟨cl, ar, at'⟩ := c
        simp only at h1 h2 h3
        subst h1
        rw [show ar = #[x, y] from Array.ext' h2, show at' = #[t, t] from Array.ext' h3]
      rw [e1] at ho
      exact good_append R hkey ho h5
    · cases h
  case h_22 => cases h
end

end Go.Vx

/-
  Vx, part 19: many new objects at once; what a function is told to do.
-/
namespace Go.Vx
open Go.RowKit (Below)

abbrev New := Nat → Option (Ob × Value × List Nat)
def Gh.many (g : Gh) (N : New) : Gh := ⟨fun x => match N x with | some (_, h, _) => h | none => g.hd x, fun x => match N x with | some (_, _, f) => f | none => g.fp x⟩

theorem Shift.many {C : Cx} {g : Gh} {σ σ' : St} {w w' : World} (hb : Below w.heap.size w w') {N : New} (hN : ∀ x q, N x = some q → σ.obj x = none)
    (hσ : ∀ x, σ'.obj x = match N x with | some (o, _, _) => some o | none => σ.obj x) (hh : ∀ x o h f, N x = some (o, h, f) → ∀ b, blkOf h = some b → w.heap.size ≤ b) :
    Shift (sur C g σ w) (sur C (g.many N) σ' w') := by
  have hk : Keeps w (Me C.M σ.obj g.hd) w' (Me C.M σ'.obj (g.many N).hd) := fun b p v hc hn => by
    have hlt := cell_lt hc
    refine ⟨by rw [hb.cell (p := ⟨b, p, none⟩) hlt]; exact hc, ?_⟩
    rintro (hM | ⟨y, hl, hbk⟩)
    · exact hn (.inl hM)
    · cases hy : N y with
      | some q =>
        obtain ⟨o, h, f⟩ := q
        simp only [Gh.many, hy] at hbk
        have := hh y o h f hy b hbk
        omega
      | none =>
        rw [hσ, hy] at hl
        simp only [Gh.many, hy] at hbk
        exact hn (.inr ⟨y, hl, hbk⟩)
  refine ⟨hk, fun y q v hr => ?_, fun y i j v hp => ?_⟩
  · cases hy : N y with
    | some q' => unfold RefRep at hr; simp only [sur, hN y q' hy] at hr
    | none =>
      have h1 : σ'.obj y = σ.obj y := by rw [hσ, hy]
      have h2 : (g.many N).hd y = g.hd y := by simp only [Gh.many, hy]
      unfold RefRep at hr ⊢
      simp only [sur, h1, h2] at hr ⊢
      cases he : σ.obj y with
      | none => rw [he] at hr; exact hr
      | some q =>
        rw [he] at hr
        cases q with
        | «sealed» e ks xs => exact ⟨hr.1, hr.2.keeps hk⟩
        | _ => exact hr
  · cases hy : N y with
    | some q' => unfold PtrRep at hp; simp only [sur, hN y q' hy] at hp
    | none =>
      have h1 : σ'.obj y = σ.obj y := by rw [hσ, hy]
      have h2 : (g.many N).hd y = g.hd y := by simp only [Gh.many, hy]
      unfold PtrRep at hp ⊢
      simp only [sur, h1, h2] at hp ⊢
      exact hp

theorem Rel.many {C : Cx} {g : Gh} {σ σ' : St} {a : Act} {w w' : World} (R : Rel C g σ a w) (hb : Below w.heap.size w w') {N : New} (ht : σ'.tmps = σ.tmps) (hN : ∀ x q, N x = some q → σ.obj x = none)
    (hσ : ∀ x, σ'.obj x = match N x with | some (o, _, _) => some o | none => σ.obj x) (hh : ∀ x o h f, N x = some (o, h, f) → ∀ b, blkOf h = some b → w.heap.size ≤ b)
    (hf : ∀ x o h f, N x = some (o, h, f) → f.Nodup ∧ ∀ b, b ∈ f → w.heap.size ≤ b ∧ b < w'.heap.size)
    (hd : ∀ x y o h f o' h' f', x ≠ y → N x = some (o, h, f) → N y = some (o', h', f') → ∀ b, b ∈ f → b ∉ f')
    (ho : ∀ x q, N x = some q → RepOb (sur C (g.many N) σ' w') (g.many N).fp x) : Rel C (g.many N) σ' a w' := by
  have hs := Shift.many (C := C) (g := g) hb hN hσ hh
  have old : ∀ y b, b ∈ g.fp y → b < w.heap.size := fun y b hm => (R.alw y b hm).2
  have fpo : ∀ y, N y = none → (g.many N).fp y = g.fp y := fun y hy => by simp only [Gh.many, hy]
  have fpn : ∀ y o h f, N y = some (o, h, f) → (g.many N).fp y = f := fun y o h f hy => by simp only [Gh.many, hy]
  refine R.move ht hs (fun y => ?_) (fun y => ?_) (fun y z hyz b hy hz => ?_) (fun y b hy => ?_) (R.fr.below hb)
  · cases hy : N y with
    | some q => exact ho y q hy
    | none =>
      refine (R.objs y).shift hs ?_ ?_ (fpo y hy) fun b hm => hb.block b (old y b hm)
      · show σ'.obj y = σ.obj y
        rw [hσ, hy]
      · show (g.many N).hd y = g.hd y
        simp only [Gh.many, hy]
  · cases hy : N y with
    | some q => obtain ⟨o, h, f⟩ := q; rw [fpn y o h f hy]; exact (hf y o h f hy).1
    | none => rw [fpo y hy]; exact R.own y
  · cases hy' : N y with
    | some q =>
      obtain ⟨o, h, f⟩ := q
      rw [fpn y o h f hy'] at hy
      cases hz' : N z with
      | some q' =>
        obtain ⟨o', h', f'⟩ := q'
        rw [fpn z o' h' f' hz'] at hz
        exact hd y z o h f o' h' f' hyz hy' hz' b hy hz
      | none =>
        rw [fpo z hz'] at hz
        have := ((hf y o h f hy').2 b hy).1
        have := old z b hz
        omega
    | none =>
      rw [fpo y hy'] at hy
      cases hz' : N z with
      | some q' =>
        obtain ⟨o', h', f'⟩ := q'
        rw [fpn z o' h' f' hz'] at hz
        have := ((hf z o' h' f' hz').2 b hz).1
        have := old y b hy
        omega
      | none =>
        rw [fpo z hz'] at hz
        exact R.apart y z hyz b hy hz
  · cases hy' : N y with
    | some q =>
      obtain ⟨o, h, f⟩ := q
      rw [fpn y o h f hy'] at hy
      have := (hf y o h f hy').2 b hy
      exact ⟨.inl (Nat.le_trans R.fr.size this.1), this.2⟩
    | none =>
      rw [fpo y hy'] at hy
      exact ⟨(R.alw y b hy).1, Nat.lt_of_lt_of_le (R.alw y b hy).2 hb.size⟩

/-- Nothing of the call's own is turned. -/
theorem Rel.below {C : Cx} {g : Gh} {σ : St} {a : Act} {w w' : World} (R : Rel C g σ a w) (hb : Below w.heap.size w w') : Rel C g σ a w' :=
  R.many (N := fun _ => none) hb rfl (fun _ _ h => by cases h) (fun _ => rfl) (fun _ _ _ _ h => by cases h) (fun _ _ _ _ h => by cases h) (fun _ _ _ _ _ _ _ _ _ h => by cases h) (fun _ _ h => by cases h)

/-- An array that nobody else names. -/
def OwnRep (w : World) (M : Nat → Nat → Prop) (e : TypeId) (ks : List K) (dp : Bool) (v : Value) (xs : List (List D)) (F : List Nat) : Prop :=
  ∃ (vss : List (List Value)) (fps : List (List Nat)), w.ownsRow 0 e ks.length v xs.length vss.flatten ∧ xs.length ≤ lenMax ∧
      vss.length = xs.length ∧ fps.length = xs.length ∧ F = v.ownBlock.toList ++ fps.flatten ∧
      (∀ (i : Nat) (row : List D) (vs : List Value) (f : List Nat), xs[i]? = some row → vss[i]? = some vs → fps[i]? = some f →
        if dp then RepDs w ks vs row f else (RepCs w M ks vs row ∧ f = []))

/-- A cell of a result: data; an array of its own. -/
inductive RC where
  | im (k : K)
  | own (e : TypeId) (ks : List K) (dp : Bool)
  deriving Inhabited

def RetCs (w : World) (M : Nat → Nat → Prop) : List RC → List Value → List D → List (List Nat) → Prop
  | [], vs, _, Fs => vs = [] ∧ Fs = []
  | .im k :: cs, vs, ds, Fs => ∃ v vs', vs = v :: vs' ∧ RepC w M k v (ds.headD default) ∧ RetCs w M cs vs' ds.tail Fs
  | .own e ks dp :: cs, vs, ds, Fs => ∃ v vs' F Fs', vs = v :: vs' ∧ Fs = F :: Fs' ∧ OwnRep w M e ks dp v (ds.headD default).asList F ∧ RetCs w M cs vs' ds.tail Fs'

/-- What an argument is. -/
inductive ASh where
  | one (k : K)
  | agg (ks : List K)
  deriving Inhabited
inductive RSh where
  | one (c : RC)
  | agg (cs : List RC)
  deriving Inhabited

def ArgRep (w : World) (M : Nat → Nat → Prop) : ASh → Value → D → Prop
  | .one k, v, d => RepC w M k v d
  | .agg ks, v, d => ∃ vs, v = .agg (List.toArray vs) ∧ RepCs w M ks vs d.row
def ArgReps (w : World) (M : Nat → Nat → Prop) : List ASh → List Value → List D → Prop
  | [], vs, ds => vs = [] ∧ ds = []
  | s :: ss, vs, ds => ∃ v vs' d ds', vs = v :: vs' ∧ ds = d :: ds' ∧ ArgRep w M s v d ∧ ArgReps w M ss vs' ds'

/-- The cells of a result that heads an array of its own are not to be written by others. -/
def MeR (M : Nat → Nat → Prop) (Fs : List (List Nat)) (b o : Nat) : Prop := M b o ∨ ∃ F, F ∈ Fs ∧ b ∈ F

end Go.Vx

/-
  Vx, part 20: contracts of functions, and what an operation does to what comes after it.
-/
namespace Go.Vx
open Go.RowKit (Below)

theorem RepC.mono {w : World} {M M' : Nat → Nat → Prop} (h : ∀ b o, M' b o → M b o) {k : K} {v : Value} {d : D} (hr : RepC w M k v d) : RepC w M' k v d :=
  hr.keeps (fun _ _ _ hc hn => ⟨hc, fun hm => hn (h _ _ hm)⟩)
theorem RepCs.mono {w : World} {M M' : Nat → Nat → Prop} (h : ∀ b o, M' b o → M b o) {ks : List K} {vs : List Value} {ds : List D} (hr : RepCs w M ks vs ds) : RepCs w M' ks vs ds :=
  hr.keeps (fun _ _ _ hc hn => ⟨hc, fun hm => hn (h _ _ hm)⟩)

def RC.head : RC → Value → List Nat
  | .own _ _ _, v => v.ownBlock.toList
  | .im _, _ => []
def retHeads : List RC → List Value → List Nat
  | c :: cs, v :: vs => c.head v ++ retHeads cs vs
  | _, _ => []
def MeH (M : Nat → Nat → Prop) (hs : List Nat) (b o : Nat) : Prop := M b o ∨ b ∈ hs

def RSh.cells : RSh → List RC
  | .one c => [c]
  | .agg cs => cs
def RSh.mk : RSh → List Value → Value
  | .one _, vs => vs.headD undef
  | .agg _, vs => .agg vs.toArray
def RSh.ds (r : RSh) (d : D) : List D := match r with
  | .one _ => [d]
  | .agg cs => (List.range cs.length).map fun j => d.row.getD j default
def mkRets : List RSh → List Value → List Value
  | [], _ => []
  | r :: rs, vs => r.mk (vs.take r.cells.length) :: mkRets rs (vs.drop r.cells.length)
def mkRet (rets : List RSh) (vs : List Value) : Value := match rets with
  | [r] => r.mk vs
  | rs => .tuple (mkRets rs vs).toArray
def retDs (φ : Nat → D) : Nat → List RSh → List D
  | _, [] => []
  | c, r :: rs => r.ds (φ c) ++ retDs φ (c + 1) rs

/-- A function answers its contract. Its condition: component 1000. -/
def FunR (P : Program) (f : FuncId) (args : List ASh) (rets : List RSh) (φ : Nat → List D → D) : Prop :=
  ∀ (w : World) (M : Nat → Nat → Prop) (vs : List Value) (ds : List D), (∀ b o, M b o → b < w.heap.size) → ArgReps w M args vs ds → (φ 1000 ds).asBool = true →
    Calls P f vs.toArray w fun e w' => ∃ us Fs, e = .returned (mkRet rets us) ∧ Below w.heap.size w w' ∧
      RetCs w' (MeH M (retHeads (rets.flatMap RSh.cells) us)) (rets.flatMap RSh.cells) us (retDs (fun c => φ c ds) 0 rets) Fs ∧
      Fs.flatten.Nodup ∧ ∀ b, b ∈ Fs.flatten → w.heap.size ≤ b ∧ b < w'.heap.size

/-- What an operation does to what comes after it. -/
def Does (C : Cx) (a : Act) (w : World) (o : Oper) (u : AV) (σ' : St) : Prop :=
  ∀ (next : Act → World → Prop) (Q : Exit → Act → World → Prop), (∀ v w' g', RepAV (sur C g' σ' w') u v → Rel C g' σ' a w' → next (a.put o.dst v) w') → o.wp C.P a w next Q

theorem Did.does {C : Cx} {a : Act} {w : World} {o : Oper} {u : AV} {σ' : St} (h : Did C a w o u σ') : Does C a w o u σ' := fun next Q hn => by
  obtain ⟨nx, w', g', h1, h2, h3⟩ := h
  unfold Oper.wp
  rw [h1]
  rcases h2 with ⟨v, rfl, h2⟩ | ⟨rfl, rfl⟩
  · exact hn v w' g' h2 h3
  · exact hn undef w' g' trivial h3

theorem does_call {C : Cx} {g : Gh} {σ : St} {a : Act} {w : World} {o : Oper} (R : Rel C g σ a w) {f : FuncId} {c : Call} {fn : Func} (hfn : C.P.funcs[f]? = some fn) (hb : fn.body ≠ none)
    (hname : fn.name ≠ "runtime.NumGoroutine") (ho : o.op = .call c) (hc : c.callee = .value (.func f)) {u : AV} {σ' : St}
    (h : Calls C.P f (c.args.map a.eval) w fun e w' => ∃ v g', e = .returned v ∧ RepAV (sur C g' σ' w') u v ∧ Rel C g' σ' a w') : Does C a w o u σ' := fun next Q hn => by
  unfold Oper.wp
  have he : (execOp a.eval o).run C.P w = .ok (.enter f (c.args.map a.eval)) w := by
    simp [execOp, ho, resolve, hc, Act.eval, Deferred.ofValue, invoke, callFunc, hfn, hb, hname]
  rw [he, Oper.upon_enter]
  refine h.mono fun e w' ⟨v, g', he, h1, h2⟩ => ?_
  subst he
  exact hn v w' g' h1 h2

/-- Facts that every datum of a kind has. -/
def WFD : K → D → Prop
  | .int k, d => inR k d.asInt
  | .bool, _ => True
  | .str, d => d.asStr.size ≤ lenMax
  | .sl _ _, d => d.asList.length ≤ lenMax

theorem RepC.wf {w : World} {M : Nat → Nat → Prop} {k : K} {v : Value} {d : D} (h : RepC w M k v d) : WFD k d := by
  cases k with
  | int k => exact h.2
  | bool => trivial
  | str => exact h.2
  | sl e ks => obtain ⟨_, _, _, _, h, _⟩ := h; exact h
end Go.Vx

/-
  Vx, part 21: the arguments of a call.
-/
namespace Go.Vx
open Go.RowKit (Below)

/-- A cell as an argument's datum; whether it is an array that may yet be written. -/
def sargC (s : SSt) (k : K) (c : SC) : Option (E × Bool) := match c with
  | .dat k' e => bif K.eqb k' k then some (e, false) else none
  | .nil t ks => bif K.eqb (.sl t ks) k then some (.nl, false) else none
  | .ref z p => match s.obj z with
    | some (.arr t ks _ xs) => bif K.eqb (.sl t ks) k then some (scut xs p, true) else none
    | some (.sealed t ks xs) => bif K.eqb (.sl t ks) k then some (scut xs p, false) else none
    | _ => none
  | .dead => none
def sargCs (s : SSt) : List K → List SC → Option (List E × Bool)
  | [], [] => some ([], false)
  | k :: ks, c :: cs => match sargC s k c, sargCs s ks cs with
    | some (e, b), some (es, b') => some (e :: es, b || b')
    | _, _ => none
  | _, _ => none
/-- All cells of one row, in order: that row. -/
def isFlds (e : E) : Nat → List E → Bool
  | _, [] => true
  | j, .op (.fld i) [e'] :: es => i == j && (E.eqb e e' && isFlds e (j + 1) es)
  | _, _ => false
def etaE (es : List E) : E := match es with
  | .op (.fld 0) [e] :: _ => bif isFlds e 0 es then e else .op .mk es
  | _ => .op .mk es
def sarg (T : TypeId → TI) (s : SSt) (ty : TypeId) (x : Operand) : ASh → Option (E × Bool)
  | .one k => match sev T ty s x with
    | .one c => sargC s k c
    | _ => none
  | .agg ks => match sev T ty s x with
    | .agg cs => match sargCs s ks cs with
      | some (es, b) => some (etaE es, b)
      | none => none
    | _ => none
def sargs (T : TypeId → TI) (s : SSt) : List ASh → List TypeId → List Operand → Option (List E × Bool)
  | [], [], [] => some ([], false)
  | h :: hs, t :: ts, x :: xs => match sarg T s t x h, sargs T s hs ts xs with
    | some (e, b), some (es, b') => some (e :: es, b || b')
    | _, _ => none
  | _, _, _ => none

/-- What the called function may not rely on: the cells that may be written; or, if it is handed such cells, none. -/
def calleeM (live : Bool) (me : Nat → Nat → Prop) (b o : Nat) : Prop := live = false ∧ me b o

theorem calleeM_or {l l' : Bool} {me : Nat → Nat → Prop} {b o : Nat} (h : calleeM (l || l') me b o) : calleeM l me b o ∧ calleeM l' me b o := by
  obtain ⟨h1, h2⟩ := h
  simp only [Bool.or_eq_false_iff] at h1
  exact ⟨⟨h1.1, h2⟩, ⟨h1.2, h2⟩⟩

theorem ArgRep.mono {w : World} {M M' : Nat → Nat → Prop} (h : ∀ b o, M' b o → M b o) {sh : ASh} {v : Value} {d : D} (hr : ArgRep w M sh v d) : ArgRep w M' sh v d := by
  cases sh with
  | one k => exact RepC.mono h hr
  | agg ks => obtain ⟨vs, e, hr⟩ := hr; exact ⟨vs, e, hr.mono h⟩
theorem ArgReps.mono {w : World} {M M' : Nat → Nat → Prop} (h : ∀ b o, M' b o → M b o) : ∀ {ss : List ASh} {vs : List Value} {ds : List D}, ArgReps w M ss vs ds → ArgReps w M' ss vs ds
  | [], _, _, hr => hr
  | _ :: _, _, _, ⟨v, vs', d, ds', e1, e2, h1, h2⟩ => ⟨v, vs', d, ds', e1, e2, h1.mono h, ArgReps.mono h h2⟩

section
variable {Φ : Fns} {env : List D} {C : Cx} {g : Gh} {s : SSt} {a : Act} {w : World} {o : Oper}

theorem sargC_rep (R : Rel C g (s.den Φ env) a w) {k : K} {c : SC} {v : Value} (hv : RepAC (sur C g (s.den Φ env) w) (c.den Φ env) v) {e : E} {b : Bool} (h : sargC s k c = some (e, b)) :
    RepC w (calleeM b (Me C.M (s.den Φ env).obj g.hd)) k v (e.den Φ env) := by
  have weak : ∀ (b : Bool) (c o : Nat), calleeM b (Me C.M (s.den Φ env).obj g.hd) c o → Me C.M (s.den Φ env).obj g.hd c o := fun _ _ _ h => h.2
  cases c with
  | dat k' e' =>
    obtain ⟨h1, h2⟩ := bif_some h
    have h3 := K.eqb_eq h1
    subst h3
    simp only [Option.some.injEq, Prod.mk.injEq] at h2
    obtain ⟨rfl, rfl⟩ := h2
    exact RepC.mono (weak _) hv
  | nil t ks =>
    obtain ⟨h1, h2⟩ := bif_some h
    have h3 := K.eqb_eq h1
    subst h3
    simp only [Option.some.injEq, Prod.mk.injEq] at h2
    obtain ⟨rfl, rfl⟩ := h2
    have := RepAC.dn hv
    exact RepC.mono (weak _) this
  | ref z p =>
    simp only [sargC] at h
    have hr : RefRep (sur C g (s.den Φ env) w) z (denP Φ env p) v := hv
    split at h
    · rename_i t ks dp xs hz
      obtain ⟨h1, h2⟩ := bif_some h
      have h3 := K.eqb_eq h1
      subst h3
      simp only [Option.some.injEq, Prod.mk.injEq] at h2
      obtain ⟨rfl, rfl⟩ := h2
      rw [scut_den]
      exact R.sealRep (obj_is hz) hr _ (fun _ _ _ hc hn => ⟨hc, fun hm => by cases hm.1⟩) (fun _ _ _ hm => by cases hm.1)
    · rename_i t ks xs hz
      obtain ⟨h1, h2⟩ := bif_some h
      have h3 := K.eqb_eq h1
      subst h3
      simp only [Option.some.injEq, Prod.mk.injEq] at h2
      obtain ⟨rfl, rfl⟩ := h2
      rw [scut_den]
      unfold RefRep at hr
      have ho : (sur C g (s.den Φ env) w).obj z = _ := obj_is (Φ := Φ) (env := env) hz
      rw [ho] at hr
      exact RepC.mono (weak _) hr.2
    · cases h
  | dead => simp [sargC] at h

theorem sargCs_rep (R : Rel C g (s.den Φ env) a w) : ∀ {ks : List K} {cs : List SC} {vs : List Value} {es : List E} {b : Bool}, RepACs (sur C g (s.den Φ env) w) (cs.map (SC.den Φ env)) vs → sargCs s ks cs = some (es, b) →
    RepCs w (calleeM b (Me C.M (s.den Φ env).obj g.hd)) ks vs (es.map (E.den Φ env))
  | [], [], vs, es, b, hv, h => by simp only [sargCs, Option.some.injEq, Prod.mk.injEq] at h; obtain ⟨rfl, rfl⟩ := h; exact hv
  | [], _ :: _, _, _, _, _, h => by simp [sargCs] at h
  | _ :: _, [], _, _, _, _, h => by simp [sargCs] at h
  | k :: ks, c :: cs, vs, es, b, hv, h => by
    obtain ⟨v, vs', rfl, _, hc, hr⟩ := hv
    simp only [sargCs] at h
    split at h
    · rename_i e b1 es1 b2 h1 h2
      simp only [Option.some.injEq, Prod.mk.injEq] at h
      obtain ⟨rfl, rfl⟩ := h
      exact ⟨v, vs', rfl, RepC.mono (fun _ _ hm => (calleeM_or hm).1) (sargC_rep R hc h1), RepCs.mono (fun _ _ hm => (calleeM_or hm).2) (sargCs_rep R hr h2)⟩
    · cases h

theorem RepCs.ext {w : World} {M : Nat → Nat → Prop} : ∀ {ks : List K} {vs : List Value} {ds ds' : List D}, RepCs w M ks vs ds → (∀ j, j < ks.length → ds.getD j default = ds'.getD j default) → RepCs w M ks vs ds'
  | [], _, _, _, h, _ => h
  | k :: ks, vs, ds, ds', h, he => by
    obtain ⟨v, vs', e, hc, hr⟩ := h
    have h0 : ds.headD default = ds'.headD default := by
      have := he 0 (by simp)
      simp only [List.headD_eq_head?_getD, List.getD_eq_getElem?_getD, List.head?_eq_getElem?] at this ⊢
      exact this
    refine ⟨v, vs', e, by rw [← h0]; exact hc, hr.ext fun j hj => ?_⟩
    have := he (j + 1) (by simpa using hj)
    simp only [List.getD_eq_getElem?_getD, List.getElem?_tail] at this ⊢
    exact this

theorem sargCs_len : ∀ {ks : List K} {cs : List SC} {es : List E} {b : Bool}, sargCs s ks cs = some (es, b) → es.length = ks.length
  | [], [], es, b, h => by simp only [sargCs, Option.some.injEq, Prod.mk.injEq] at h; obtain ⟨rfl, rfl⟩ := h; rfl
  | [], _ :: _, _, _, h => by simp [sargCs] at h
  | _ :: _, [], _, _, h => by simp [sargCs] at h
  | k :: ks, c :: cs, es, b, h => by
    simp only [sargCs] at h
    split at h
    · rename_i e b1 es1 b2 h1 h2
      simp only [Option.some.injEq, Prod.mk.injEq] at h
      obtain ⟨rfl, rfl⟩ := h
      simp [sargCs_len h2]
    · cases h

theorem isFlds_get {e : E} : ∀ {es : List E} {j : Nat}, isFlds e j es = true → ∀ i, i < es.length → (es.map (E.den Φ env)).getD i default = (e.den Φ env).row.getD (j + i) default
  | [], _, _, i, hi => by simp at hi
  | x :: es, j, h, i, hi => by
    unfold isFlds at h
    split at h
    · rename_i heq; cases heq
    · rename_i j' i' e' es' heq
      simp only [List.cons.injEq] at heq
      obtain ⟨rfl, rfl⟩ := heq
      simp only [Bool.and_eq_true, beq_iff_eq] at h
      obtain ⟨rfl, h2, h3⟩ := h
      have h4 := E.eqb_eq h2
      subst h4
      cases i with
      | zero => simp [E.den, E.dens, opD]
      | succ i =>
        have := isFlds_get h3 i (by simpa using hi)
        simp only [List.map_cons, List.getD_cons_succ]
        rw [this]
        congr 1
        omega
    · cases h

theorem etaE_get (es : List E) (i : Nat) (hi : i < es.length) : (es.map (E.den Φ env)).getD i default = ((etaE es).den Φ env).row.getD i default := by
  unfold etaE
  split
  · rename_i e es'
    cases hf : isFlds e 0 (.op (.fld 0) [e] :: es') with
    | true =>
      simp only [cond_true]
      have := isFlds_get (Φ := Φ) (env := env) hf i hi
      rwa [Nat.zero_add] at this
    | false => simp [E.den, E.dens_map, opD, D.row, D.asList]
  · simp [E.den, E.dens_map, opD, D.row, D.asList]

theorem sarg_rep (R : Rel C g (s.den Φ env) a w) {ty : TypeId} {x : Operand} {sh : ASh} {e : E} {b : Bool} (h : sarg C.T s ty x sh = some (e, b)) :
    ArgRep w (calleeM b (Me C.M (s.den Φ env).obj g.hd)) sh (a.eval x) (e.den Φ env) := by
  have hr := ev_rep R ty x
  cases sh with
  | one k =>
    simp only [sarg] at h
    split at h
    · rename_i c hx
      rw [sev_is hx] at hr
      exact sargC_rep R hr.1 h
    · cases h
  | agg ks =>
    simp only [sarg] at h
    split at h
    · rename_i cs hx
      rw [sev_is hx] at hr
      obtain ⟨vs, e1, hr⟩ := hr
      split at h
      · rename_i es b1 h1
        simp only [Option.some.injEq, Prod.mk.injEq] at h
        obtain ⟨rfl, rfl⟩ := h
        refine ⟨vs, e1, ?_⟩
        have := sargCs_rep R hr h1
        exact this.ext fun j hj => etaE_get es j (by rw [sargCs_len h1]; exact hj)
      · cases h
    · cases h

theorem sargs_rep (R : Rel C g (s.den Φ env) a w) : ∀ {hs : List ASh} {ts : List TypeId} {xs : List Operand} {es : List E} {b : Bool}, sargs C.T s hs ts xs = some (es, b) →
    ArgReps w (calleeM b (Me C.M (s.den Φ env).obj g.hd)) hs (xs.map a.eval) (es.map (E.den Φ env))
  | [], [], [], es, b, h => by simp only [sargs, Option.some.injEq, Prod.mk.injEq] at h; obtain ⟨rfl, rfl⟩ := h; exact ⟨rfl, rfl⟩
  | h :: hs, t :: ts, x :: xs, es, b, hh => by
    simp only [sargs] at hh
    split at hh
    · rename_i e b1 es1 b2 h1 h2
      simp only [Option.some.injEq, Prod.mk.injEq] at hh
      obtain ⟨rfl, rfl⟩ := hh
      exact ⟨_, _, _, _, rfl, rfl, ArgRep.mono (fun _ _ hm => (calleeM_or hm).1) (sarg_rep R h1), ArgReps.mono (fun _ _ hm => (calleeM_or hm).2) (sargs_rep R h2)⟩
    · cases hh
  | [], [], _ :: _, _, _, h => by simp [sargs] at h
  | [], _ :: _, _, _, _, h => by simp [sargs] at h
  | _ :: _, [], _, _, _, h => by simp [sargs] at h
  | _ :: _, _ :: _, [], _, _, h => by simp [sargs] at h
end

end Go.Vx

/-
  Vx, part 22: the results of a call; the call.
-/
namespace Go.Vx
open Go.RowKit (Below)

def scells : Nat → List RC → List E → List SC
  | key, .im k :: cs, e :: es => .dat k e :: scells (key + 1) cs es
  | key, .own _ _ _ :: cs, _ :: es => .ref key none :: scells (key + 1) cs es
  | _, _, _ => []
def supds : Nat → List RC → List E → List (Nat × SOb)
  | key, .im _ :: cs, _ :: es => supds (key + 1) cs es
  | key, .own t ks dp :: cs, e :: es => (key, .arr t ks dp e) :: supds (key + 1) cs es
  | _, _, _ => []
def newN : Nat → List RC → List Value → List D → List (List Nat) → New
  | key, .im _ :: cs, _ :: vs, ds, Fs, x => newN (key + 1) cs vs ds.tail Fs x
  | key, .own t ks dp :: cs, v :: vs, ds, F :: Fs, x => if x = key then some (.arr t ks dp (ds.headD default).asList, v, F) else newN (key + 1) cs vs ds.tail Fs x
  | _, _, _, _, _, _ => none

theorem newN_spec {w : World} {M : Nat → Nat → Prop} : ∀ (cs : List RC) {key : Nat} {vs : List Value} {ds : List D} {Fs : List (List Nat)}, RetCs w M cs vs ds Fs → ∀ {x : Nat} {o : Ob} {h : Value} {f : List Nat},
    newN key cs vs ds Fs x = some (o, h, f) → key ≤ x ∧ (∃ t ks dp xs, o = .arr t ks dp xs ∧ OwnRep w M t ks dp h xs f) ∧ f ∈ Fs ∧ ∀ b, h.ownBlock = some b → b ∈ retHeads cs vs
  | [], key, vs, ds, Fs, _, x, o, h, f, hn => by simp [newN] at hn
  | .im k :: cs, key, vs, ds, Fs, hr, x, o, h, f, hn => by
    obtain ⟨v, vs', rfl, _, hr⟩ := hr
    simp only [newN] at hn
    obtain ⟨q1, q2, q3, q4⟩ := newN_spec cs hr hn
    exact ⟨by omega, q2, q3, fun b hb => by simpa [retHeads, RC.head] using q4 b hb⟩
  | .own t ks dp :: cs, key, vs, ds, Fs, hr, x, o, h, f, hn => by
    obtain ⟨v, vs', F, Fs', rfl, rfl, ho, hr⟩ := hr
    simp only [newN] at hn
    split at hn
    · rename_i hx
      simp only [Option.some.injEq, Prod.mk.injEq] at hn
      obtain ⟨rfl, rfl, rfl⟩ := hn
      exact ⟨by omega, ⟨t, ks, dp, _, rfl, ho⟩, by simp, fun b hb => by simp [retHeads, RC.head, hb]⟩
    · obtain ⟨q1, q2, q3, q4⟩ := newN_spec cs hr hn
      exact ⟨by omega, q2, by simp [q3], fun b hb => by simp only [retHeads, List.mem_append]; exact .inr (q4 b hb)⟩

theorem newN_apart {w : World} {M : Nat → Nat → Prop} : ∀ (cs : List RC) {key : Nat} {vs : List Value} {ds : List D} {Fs : List (List Nat)}, RetCs w M cs vs ds Fs → Fs.flatten.Nodup → ∀ {x y : Nat} {o o' : Ob} {h h' : Value} {f f' : List Nat},
    x ≠ y → newN key cs vs ds Fs x = some (o, h, f) → newN key cs vs ds Fs y = some (o', h', f') → ∀ b, b ∈ f → b ∉ f'
  | [], key, vs, ds, Fs, _, _, x, y, o, o', h, h', f, f', _, hn, _ => by simp [newN] at hn
  | .im k :: cs, key, vs, ds, Fs, hr, hd, x, y, o, o', h, h', f, f', hxy, hn, hn' => by
    obtain ⟨v, vs', rfl, _, hr⟩ := hr
    simp only [newN] at hn hn'
    exact newN_apart cs hr hd hxy hn hn'
  | .own t ks dp :: cs, key, vs, ds, Fs, hr, hd, x, y, o, o', h, h', f, f', hxy, hn, hn' => by
    obtain ⟨v, vs', F, Fs', rfl, rfl, ho, hr⟩ := hr
    rw [List.flatten_cons] at hd
    obtain ⟨d1, d2, d3⟩ := List.nodup_append.1 hd
    simp only [newN] at hn hn'
    split at hn
    · rename_i hx
      simp only [Option.some.injEq, Prod.mk.injEq] at hn
      obtain ⟨rfl, rfl, rfl⟩ := hn
      rw [if_neg (by omega)] at hn'
      have := (newN_spec cs hr hn').2.2.1
      exact fun b hb hb' => d3 b hb b (List.mem_flatten.2 ⟨_, this, hb'⟩) rfl
    · split at hn'
      · simp only [Option.some.injEq, Prod.mk.injEq] at hn'
        obtain ⟨rfl, rfl, rfl⟩ := hn'
        have := (newN_spec cs hr hn).2.2.1
        exact fun b hb hb' => d3 b hb' b (List.mem_flatten.2 ⟨_, this, hb⟩) rfl
      · exact newN_apart cs hr d2 hxy hn hn'

theorem supds_keys : ∀ (cs : List RC) (key : Nat) (es : List E) (x : Nat), x < key → ((supds key cs es).all fun p => !(p.1 == x)) = true
  | [], _, _, _, _ => by simp [supds]
  | .im k :: cs, key, [], _, _ => by simp [supds]
  | .own t ks dp :: cs, key, [], _, _ => by simp [supds]
  | .im k :: cs, key, e :: es, x, h => by simp only [supds]; exact supds_keys cs (key + 1) es x (by omega)
  | .own t ks dp :: cs, key, e :: es, x, h => by
    simp only [supds, List.all_cons, Bool.and_eq_true, Bool.not_eq_true', beq_eq_false_iff_ne, ne_eq]
    exact ⟨by omega, supds_keys cs (key + 1) es x (by omega)⟩

theorem SSt.upds_tmps : ∀ (l : List (Nat × SOb)) (s : SSt), (s.upds l).tmps = s.tmps
  | [], _ => rfl
  | (x, o) :: l, s => by rw [show s.upds ((x, o) :: l) = (s.setO x o).upds l from rfl, SSt.upds_tmps l]; rfl

section
variable {Φ : Fns} {env : List D}

theorem supds_obj {w : World} {M : Nat → Nat → Prop} : ∀ (cs : List RC) {key : Nat} {vs : List Value} {es : List E} {Fs : List (List Nat)} (s : SSt), RetCs w M cs vs (es.map (E.den Φ env)) Fs → es.length = cs.length → ∀ x,
    ((s.upds (supds key cs es)).den Φ env).obj x = match newN key cs vs (es.map (E.den Φ env)) Fs x with | some (o, _, _) => some o | none => (s.den Φ env).obj x
  | [], key, vs, es, Fs, s, _, _, x => by simp [supds, newN, SSt.upds]
  | .im k :: cs, key, vs, [], Fs, s, _, hl, x => by simp at hl
  | .own t ks dp :: cs, key, vs, [], Fs, s, _, hl, x => by simp at hl
  | .im k :: cs, key, vs, e :: es, Fs, s, hr, hl, x => by
    obtain ⟨v, vs', rfl, _, hr⟩ := hr
    simp only [supds, newN, List.map_cons, List.tail_cons]
    exact supds_obj cs s hr (by simpa using hl) x
  | .own t ks dp :: cs, key, vs, e :: es, Fs, s, hr, hl, x => by
    obtain ⟨v, vs', F, Fs', rfl, rfl, ho, hr⟩ := hr
    simp only [supds, newN, List.map_cons, List.tail_cons, List.headD_cons]
    rw [show s.upds ((key, .arr t ks dp e) :: supds (key + 1) cs es) = (s.setO key (.arr t ks dp e)).upds (supds (key + 1) cs es) from rfl]
    by_cases hx : x = key
    · subst hx
      rw [if_pos rfl, upds_obj _ _ _ (supds_keys cs (x + 1) es x (by omega)), SSt.den_setO, St.obj_setO, if_pos rfl]
      rfl
    · rw [if_neg hx, supds_obj cs _ hr (by simpa using hl) x, SSt.den_setO, St.obj_setO, if_neg hx]

theorem scells_rep {w : World} {M : Nat → Nat → Prop} {S : Sur} (hw : S.w = w) (hM : S.me = M) : ∀ (cs : List RC) {key : Nat} {vs : List Value} {es : List E} {Fs : List (List Nat)}, RetCs w M cs vs (es.map (E.den Φ env)) Fs → es.length = cs.length →
    (∀ x o h f, newN key cs vs (es.map (E.den Φ env)) Fs x = some (o, h, f) → S.obj x = some o ∧ S.hd x = h) → RepACs S ((scells key cs es).map (SC.den Φ env)) vs
  | [], key, vs, es, Fs, hr, hl, _ => by
    have : es = [] := List.eq_nil_of_length_eq_zero hl
    subst this
    simp only [scells, List.map_nil]
    exact hr.1
  | .im k :: cs, key, vs, [], Fs, _, hl, _ => by simp at hl
  | .own t ks dp :: cs, key, vs, [], Fs, _, hl, _ => by simp at hl
  | .im k :: cs, key, vs, e :: es, Fs, hr, hl, hN => by
    obtain ⟨v, vs', rfl, hc, hr⟩ := hr
    simp only [newN, List.map_cons, List.tail_cons] at hN
    refine ⟨v, vs', rfl, hc.oneCell, ?_, scells_rep hw hM cs hr (by simpa using hl) hN⟩
    show RepC S.w S.me k v _
    rw [hw, hM]
    exact hc
  | .own t ks dp :: cs, key, vs, e :: es, Fs, hr, hl, hN => by
    obtain ⟨v, vs', F, Fs', rfl, rfl, ho, hr⟩ := hr
    simp only [newN, List.map_cons, List.tail_cons, List.headD_cons] at hN
    obtain ⟨h1, h2⟩ := hN key _ _ _ (if_pos rfl)
    refine ⟨v, vs', rfl, ?_, ?_, scells_rep hw hM cs hr (by simpa using hl) fun x o h f hx => ?_⟩
    · obtain ⟨vss, fps, hown, _⟩ := ho
      rcases ownsRow_cases hown with ⟨e1, _⟩ | ⟨b, c, e1, _⟩ <;> rw [e1] <;> rfl
    · show RefRep S key none v
      unfold RefRep
      rw [h1]
      exact ⟨trivial, h2.symm⟩
    · refine hN x o h f ?_
      have := (newN_spec cs hr hx).1
      rw [if_neg (by omega)]
      exact hx
end

def RC.solid : RC → Bool
  | .im k => k.plain
  | .own _ ks dp => dp || plainK ks

theorem RepC.plain' {w : World} {M M' : Nat → Nat → Prop} {k : K} {v : Value} {d : D} (h : RepC w M k v d) (hp : k.plain = true) : RepC w M' k v d := by
  cases k with
  | sl _ _ => simp [K.plain] at hp
  | _ => exact h

theorem OwnRep.to {w : World} {M M' : Nat → Nat → Prop} {t : TypeId} {ks : List K} {dp : Bool} {v : Value} {xs : List (List D)} {F : List Nat} (h : OwnRep w M t ks dp v xs F)
    (hm : (∀ b o, M' b o → M b o) ∨ (dp || plainK ks) = true) : OwnRep w M' t ks dp v xs F := by
  obtain ⟨vss, fps, h1, h2, h3, h4, h5, h6⟩ := h
  refine ⟨vss, fps, h1, h2, h3, h4, h5, fun i row vs f e1 e2 e3 => ?_⟩
  have := h6 i row vs f e1 e2 e3
  split at this
  · rename_i hd; rw [if_pos hd]; exact this
  · rename_i hd
    rw [if_neg hd]
    refine ⟨?_, this.2⟩
    rcases hm with hm | hm
    · exact this.1.mono hm
    · simp only [Bool.not_eq_true] at hd
      rw [hd, Bool.false_or] at hm
      exact (this.1.plain hm).toC (fun b hb => by simp at hb)

theorem RetCs.to {w : World} {M M' : Nat → Nat → Prop} : ∀ {cs : List RC} {vs : List Value} {ds : List D} {Fs : List (List Nat)}, RetCs w M cs vs ds Fs → ((∀ b o, M' b o → M b o) ∨ cs.all RC.solid = true) → RetCs w M' cs vs ds Fs
  | [], _, _, _, h, _ => h
  | .im k :: cs, _, _, _, ⟨v, vs', e, hc, hr⟩, hm => ⟨v, vs', e, by
      rcases hm with hm | hm
      · exact hc.mono hm
      · simp only [List.all_cons, Bool.and_eq_true] at hm
        exact hc.plain' hm.1, hr.to (hm.imp id fun h => by simp only [List.all_cons, Bool.and_eq_true] at h; exact h.2)⟩
  | .own t ks dp :: cs, _, _, _, ⟨v, vs', F, Fs', e1, e2, ho, hr⟩, hm => ⟨v, vs', F, Fs', e1, e2, ho.to (hm.imp id fun h => by simp only [List.all_cons, Bool.and_eq_true] at h; exact h.1),
      hr.to (hm.imp id fun h => by simp only [List.all_cons, Bool.and_eq_true] at h; exact h.2)⟩

end Go.Vx

/-
  Vx, part 23: the call.
-/
namespace Go.Vx
open Go.RowKit (Below)

structure Sig where
  args : List ASh
  rets : List RSh
  deriving Inhabited

def RSh.smk : RSh → List SC → SV
  | .one _, cs => .one (cs.headD .dead)
  | .agg _, cs => .agg cs
def smkRets : List RSh → List SC → List SV
  | [], _ => []
  | r :: rs, cs => r.smk (cs.take r.cells.length) :: smkRets rs (cs.drop r.cells.length)
def smkRet (rets : List RSh) (cs : List SC) : SV := match rets with
  | [r] => r.smk cs
  | rs => .tup (smkRets rs cs)
def RSh.es (r : RSh) (e : E) : List E := match r with
  | .one _ => [e]
  | .agg cs => (List.range cs.length).map fun j => .op (.fld j) [e]
def sretE (f : Nat) (es : List E) : Nat → List RSh → List E
  | _, [] => []
  | c, r :: rs => r.es (.op (.fn f c) es) ++ sretE f es (c + 1) rs

def fCall (T : TypeId → TI) (CT : Nat → Option Sig) (key : Nat) (s : SSt) (f : Nat) (ts : List TypeId) (xs : List Operand) : Option Res :=
  match CT f with
  | some sg => match sargs T s sg.args ts xs with
    | some (es, live) => bif (!live || (sg.rets.flatMap RSh.cells).all RC.solid) && (supds key (sg.rets.flatMap RSh.cells) (sretE f es 0 sg.rets)).all fun p => (s.obj p.1).isNone then
        some ⟨[.op (.fn f 1000) es], smkRet sg.rets (scells key (sg.rets.flatMap RSh.cells) (sretE f es 0 sg.rets)), supds key (sg.rets.flatMap RSh.cells) (sretE f es 0 sg.rets)⟩
      else none
    | none => none
  | none => none

theorem scells_length : ∀ (cs : List RC) (key : Nat) (es : List E), es.length = cs.length → (scells key cs es).length = cs.length
  | [], _, [], _ => rfl
  | [], _, _ :: _, h => by simp at h
  | .im _ :: cs, key, [], h => by simp at h
  | .own _ _ _ :: cs, key, [], h => by simp at h
  | .im _ :: cs, key, e :: es, h => by simp [scells, scells_length cs (key + 1) es (by simpa using h)]
  | .own _ _ _ :: cs, key, e :: es, h => by simp [scells, scells_length cs (key + 1) es (by simpa using h)]

theorem sretE_length (f : Nat) (es : List E) : ∀ (rs : List RSh) (c : Nat), (sretE f es c rs).length = (rs.flatMap RSh.cells).length
  | [], _ => rfl
  | r :: rs, c => by
    simp only [sretE, List.length_append, sretE_length f es rs (c + 1), List.flatMap_cons]
    cases r <;> simp [RSh.es, RSh.cells]

section
variable {Φ : Fns} {env : List D}

theorem sretE_den (f : Nat) (es : List E) : ∀ (rs : List RSh) (c : Nat), (sretE f es c rs).map (E.den Φ env) = retDs (fun c => Φ f c (es.map (E.den Φ env))) c rs
  | [], _ => rfl
  | r :: rs, c => by
    simp only [sretE, retDs, List.map_append, sretE_den f es rs (c + 1)]
    congr 1
    cases r <;> simp [RSh.es, RSh.ds, E.den, E.dens, E.dens_map, opD, Function.comp_def]

theorem newN_mem : ∀ (cs : List RC) {key : Nat} {vs : List Value} {es : List E} {Fs : List (List Nat)} {x : Nat} {q : Ob × Value × List Nat}, es.length = cs.length → newN key cs vs (es.map (E.den Φ env)) Fs x = some q → ∃ o, (x, o) ∈ supds key cs es
  | [], _, _, _, _, _, _, _, h => by simp [newN] at h
  | .im _ :: cs, key, vs, [], _, _, _, hl, _ => by simp at hl
  | .own _ _ _ :: cs, key, vs, [], _, _, _, hl, _ => by simp at hl
  | .im _ :: cs, key, [], e :: es, Fs, x, q, hl, h => by simp [newN] at h
  | .im _ :: cs, key, v :: vs, e :: es, Fs, x, q, hl, h => by
    simp only [newN, List.map_cons, List.tail_cons] at h
    simp only [supds]
    exact newN_mem cs (by simpa using hl) h
  | .own _ _ _ :: cs, key, [], e :: es, Fs, x, q, hl, h => by simp [newN] at h
  | .own _ _ _ :: cs, key, v :: vs, e :: es, [], x, q, hl, h => by simp [newN] at h
  | .own _ _ _ :: cs, key, v :: vs, e :: es, F :: Fs, x, q, hl, h => by
    simp only [newN, List.map_cons, List.tail_cons] at h
    simp only [supds, List.mem_cons, Prod.mk.injEq]
    split at h
    · rename_i hx; exact ⟨_, .inl ⟨hx, rfl⟩⟩
    · obtain ⟨o, ho⟩ := newN_mem cs (by simpa using hl) h
      exact ⟨o, .inr ho⟩

theorem RSh.smk_rep {S : Sur} (r : RSh) {cs : List SC} {vs : List Value} (h : RepACs S (cs.map (SC.den Φ env)) vs) (hl : cs.length = r.cells.length) : RepAV S ((r.smk cs).den Φ env) (r.mk vs) := by
  cases r with
  | one c =>
    obtain ⟨c', rfl⟩ := List.length_eq_one_iff.1 (show cs.length = 1 from hl)
    obtain ⟨v, vs', rfl, ho, hc, _⟩ := h
    exact ⟨hc, ho⟩
  | agg rc => exact ⟨vs, rfl, h⟩
theorem smkRets_rep {S : Sur} : ∀ (rs : List RSh) {cs : List SC} {vs : List Value}, RepACs S (cs.map (SC.den Φ env)) vs → cs.length = (rs.flatMap RSh.cells).length → RepAVs S ((smkRets rs cs).map (SV.den Φ env)) (mkRets rs vs)
  | [], _, _, _, _ => rfl
  | r :: rs, cs, vs, h, hl => by
    simp only [List.flatMap_cons, List.length_append] at hl
    refine ⟨_, _, rfl, RSh.smk_rep r (by rw [List.map_take]; exact RepACs.take _ h) (by rw [List.length_take]; omega), smkRets_rep rs (by rw [List.map_drop]; exact RepACs.drop _ h) (by rw [List.length_drop]; omega)⟩
theorem smkRet_rep {S : Sur} (rs : List RSh) {cs : List SC} {vs : List Value} (h : RepACs S (cs.map (SC.den Φ env)) vs) (hl : cs.length = (rs.flatMap RSh.cells).length) : RepAV S ((smkRet rs cs).den Φ env) (mkRet rs vs) := by
  rcases rs with _ | ⟨r, _ | ⟨r2, rs⟩⟩
  · exact ⟨_, rfl, by rw [SV.dens_map]; exact smkRets_rep [] h hl⟩
  · exact RSh.smk_rep r h (by simpa using hl)
  · exact ⟨_, rfl, by rw [SV.dens_map]; exact smkRets_rep (r :: r2 :: rs) h hl⟩
end

section
variable {Φ : Fns} {env : List D} {C : Cx} {g : Gh} {s : SSt} {a : Act} {w : World} {o : Oper} {key : Nat}

theorem good_call (R : Rel C g (s.den Φ env) a w) {CT : Nat → Option Sig} (hCT : ∀ f sg, CT f = some sg → FunR C.P f sg.args sg.rets (Φ f) ∧ ∃ fn, C.P.funcs[f]? = some fn ∧ fn.body ≠ none ∧ fn.name ≠ "runtime.NumGoroutine")
    {c : Call} {f : FuncId} (ho : o.op = .call c) (hc : c.callee = .value (.func f)) {r : Res} (h : fCall C.T CT key s f c.argTypes.toList c.args.toList = some r) (hr : holds Φ env r.cs) :
    Does C a w o (r.v.den Φ env) ((s.upds r.upd).den Φ env) := by
  unfold fCall at h
  split at h
  · rename_i sg hsg
    split at h
    · rename_i es live hes
      obtain ⟨h1, h2⟩ := bif_some h
      clear h
      simp only [Option.some.injEq] at h2
      subst h2
      simp only [Bool.and_eq_true, Bool.or_eq_true, Bool.not_eq_true'] at h1
      obtain ⟨hlive, hfree⟩ := h1
      obtain ⟨hF, fn, hfn, hb, hname⟩ := hCT f sg hsg
      generalize hcells : sg.rets.flatMap RSh.cells = cells at *
      have hel : (sretE f es 0 sg.rets).length = cells.length := by rw [sretE_length, hcells]
      have hden := sretE_den (Φ := Φ) (env := env) f es sg.rets 0
      generalize sretE f es 0 sg.rets = rE at *
      have hpre := hr (.op (.fn f 1000) es) (by simp)
      simp only [E.den, E.dens_map, opD] at hpre
      have hMe : ∀ b o, Me C.M (s.den Φ env).obj g.hd b o → b < w.heap.size := by
        rintro b o (hM | ⟨x, hl, hx⟩)
        · exact Nat.lt_of_lt_of_le (C.mold b o hM).1 R.fr.size
        · exact (R.alw x b (R.liveBlk hl hx)).2
      have hcall := hF w (calleeM live (Me C.M (s.den Φ env).obj g.hd)) _ _ (fun b o hm => hMe b o hm.2) (sargs_rep R hes) hpre
      refine does_call R hfn hb hname ho hc ?_
      have harr : (c.args.toList.map a.eval).toArray = c.args.map a.eval := by apply Array.ext'; simp
      rw [harr] at hcall
      refine hcall.mono fun e w' ⟨us, Fs, he, hbel, hret, hnd, hfresh⟩ => ?_
      rw [hcells, ← hden] at hret
      have hNfree : ∀ x q, newN key cells us (rE.map (E.den Φ env)) Fs x = some q → (s.den Φ env).obj x = none := fun x q hq => by
        obtain ⟨ob, hm⟩ := newN_mem cells hel hq
        have := List.all_eq_true.1 hfree (x, ob) hm
        exact none_den (by simpa using this)
      have hσ := supds_obj (Φ := Φ) (env := env) cells (key := key) s hret hel
      have hown : ∀ x ob h f, newN key cells us (rE.map (E.den Φ env)) Fs x = some (ob, h, f) → blkOf h = h.ownBlock ∧ ∀ b, h.ownBlock = some b → b ∈ f := fun x ob h f hq => by
        obtain ⟨_, ⟨t, ks, dp, xs, _, ho⟩, _, _⟩ := newN_spec cells hret hq
        obtain ⟨vss, fps, h1, _, _, _, h5, _⟩ := ho
        exact ⟨blk_own h1, fun b hb => by rw [h5, hb]; simp⟩
      -- what may be written afterwards
      have hsub : ∀ b o, Me C.M ((s.upds (supds key cells rE)).den Φ env).obj (g.many (newN key cells us (rE.map (E.den Φ env)) Fs)).hd b o → MeH (Me C.M (s.den Φ env).obj g.hd) (retHeads cells us) b o := by
        rintro b o (hM | ⟨x, hl, hx⟩)
        · exact .inl (.inl hM)
        · cases hq : newN key cells us (rE.map (E.den Φ env)) Fs x with
          | none =>
            rw [hσ, hq] at hl
            simp only [Gh.many, hq] at hx
            exact .inl (.inr ⟨x, hl, hx⟩)
          | some q =>
            obtain ⟨ob, h, f⟩ := q
            simp only [Gh.many, hq] at hx
            rw [(hown x ob h f hq).1] at hx
            exact .inr ((newN_spec cells hret hq).2.2.2 b hx)
      have hret' : RetCs w' (Me C.M ((s.upds (supds key cells rE)).den Φ env).obj (g.many (newN key cells us (rE.map (E.den Φ env)) Fs)).hd) cells us (rE.map (E.den Φ env)) Fs := by
        refine hret.to ?_
        rcases hlive with hl | hl
        · left
          intro b o hm
          rcases hsub b o hm with q | q
          · exact .inl ⟨hl, q⟩
          · exact .inr q
        · exact .inr hl
      have hN : Rel C (g.many (newN key cells us (rE.map (E.den Φ env)) Fs)) ((s.upds (supds key cells rE)).den Φ env) a w' := by
        refine R.many hbel (by simp [SSt.den, SSt.upds_tmps]) hNfree hσ (fun x ob h f hq b hb => ?_) (fun x ob h f hq => ?_) (fun x y ob h f ob' h' f' hxy hq hq' => newN_apart cells hret hnd hxy hq hq') (fun x q hq => ?_)
        · obtain ⟨e1, e2⟩ := hown x ob h f hq
          rw [e1] at hb
          exact (hfresh b (List.mem_flatten.2 ⟨f, (newN_spec cells hret hq).2.2.1, e2 b hb⟩)).1
        · have hm := (newN_spec cells hret hq).2.2.1
          exact ⟨(List.pairwise_flatten.1 hnd).1 _ hm, fun b hb => hfresh b (List.mem_flatten.2 ⟨f, hm, hb⟩)⟩
        · obtain ⟨ob, h, f⟩ := q
          obtain ⟨_, ⟨t, ks, dp, xs, rfl, hO⟩, _, _⟩ := newN_spec cells hret' hq
          unfold RepOb
          simp only [sur, hσ, hq]
          obtain ⟨vss, fps, h1, h2, h3, h4, h5, h6⟩ := hO
          refine ⟨vss, fps, ?_, h2, h3, h4, ?_, h6⟩
          · simp only [Gh.many, hq]; exact h1
          · simp only [Gh.many, hq]; exact h5
      refine ⟨_, _, he, ?_, hN⟩
      refine smkRet_rep sg.rets (scells_rep rfl rfl cells hret' hel fun x ob h f hq => ⟨?_, ?_⟩) (by rw [scells_length _ _ _ hel, hcells])
      · show ((s.upds (supds key cells rE)).den Φ env).obj x = _
        rw [hσ, hq]
      · show (g.many _).hd x = h
        simp only [Gh.many, hq]
    · cases h
  · cases h
end

end Go.Vx

/-
  Vx, part 24: objects under other names; names that are given up.
-/
namespace Go.Vx
open Go.RowKit (Below)

def AC.mapK (m : Nat → Option Nat) : AC → AC
  | .ref z p => match m z with
    | some z' => .ref z' p
    | none => .dead
  | c => c
mutual
def AV.mapK (m : Nat → Option Nat) : AV → AV
  | .one c => .one (c.mapK m)
  | .agg cs => .agg (cs.map (AC.mapK m))
  | .ptr z i j => match m z with
    | some z' => .ptr z' i j
    | none => .dead
  | .pim ks row => .pim ks row
  | .tup vs => .tup (AV.mapKs m vs)
  | .whn b v => .whn b (v.mapK m)
  | .dead => .dead
def AV.mapKs (m : Nat → Option Nat) : List AV → List AV
  | [] => []
  | v :: vs => v.mapK m :: AV.mapKs m vs
end
def Ob.mapK (m : Nat → Option Nat) : Ob → Ob
  | .box T cs => .box T (cs.map (AC.mapK m))
  | o => o

def Gh.ren (g : Gh) (n : Nat → Option Nat) : Gh :=
  ⟨fun y => match n y with | some x => g.hd x | none => undef, fun y => match n y with | some x => g.fp x | none => []⟩

section
variable {C : Cx} {g : Gh} {σ σ' : St} {a : Act} {w : World} {m n : Nat → Option Nat}

structure Ren (m n : Nat → Option Nat) (σ σ' : St) : Prop where
  mn : ∀ x y, m x = some y → n y = some x
  nm : ∀ x y, n y = some x → m x = some y
  obj : ∀ y, σ'.obj y = match n y with | some x => (σ.obj x).map (Ob.mapK m) | none => none

theorem Ob.live_mapK (o : Option Ob) : Ob.live (o.map (Ob.mapK m)) = Ob.live o := by
  cases o with
  | none => rfl
  | some o => cases o <;> rfl

theorem Ren.me (r : Ren m n σ σ') {b o : Nat} (h : Me C.M σ'.obj (g.ren n).hd b o) : Me C.M σ.obj g.hd b o := by
  rcases h with hM | ⟨y, hl, hb⟩
  · exact .inl hM
  · rw [r.obj] at hl
    cases hn : n y with
    | none => rw [hn] at hl; simp [Ob.live] at hl
    | some x =>
      rw [hn] at hl
      simp only [Gh.ren, hn] at hb
      exact .inr ⟨x, by rw [Ob.live_mapK] at hl; exact hl, hb⟩

theorem Ren.keeps (r : Ren m n σ σ') : Keeps w (Me C.M σ.obj g.hd) w (Me C.M σ'.obj (g.ren n).hd) := fun _ _ _ hc hn => ⟨hc, fun h => hn (r.me h)⟩

theorem Ren.ref (r : Ren m n σ σ') {x y : Nat} (hxy : m x = some y) {p : Option (Nat × Nat)} {v : Value} (h : RefRep (sur C g σ w) x p v) : RefRep (sur C (g.ren n) σ' w) y p v := by
  have hn := r.mn x y hxy
  unfold RefRep at h ⊢
  simp only [sur, r.obj, hn] at h ⊢
  have hh : (g.ren n).hd y = g.hd x := by simp only [Gh.ren, hn]
  cases he : σ.obj x with
  | none => rw [he] at h; exact h
  | some o =>
    rw [he] at h
    cases o with
    | box T cs => exact h
    | arr e ks dp xs => simp only [Option.map_some, Ob.mapK, hh]; exact h
    | «sealed» e ks xs => exact ⟨h.1, h.2.keeps r.keeps⟩
    | gone => trivial

theorem Ren.ptr (r : Ren m n σ σ') {x y : Nat} (hxy : m x = some y) {i j : Nat} {v : Value} (h : PtrRep (sur C g σ w) x i j v) : PtrRep (sur C (g.ren n) σ' w) y i j v := by
  have hn := r.mn x y hxy
  unfold PtrRep at h ⊢
  simp only [sur, r.obj, hn] at h ⊢
  have hh : (g.ren n).hd y = g.hd x := by simp only [Gh.ren, hn]
  cases he : σ.obj x with
  | none => rw [he] at h; exact h
  | some o =>
    rw [he] at h
    cases o with
    | box T cs => simp only [Option.map_some, Ob.mapK, hh]; exact h
    | arr e ks dp xs => simp only [Option.map_some, Ob.mapK, hh]; exact h
    | «sealed» e ks xs => trivial
    | gone => trivial

theorem Ren.ac (r : Ren m n σ σ') : ∀ {c : AC} {v : Value}, RepAC (sur C g σ w) c v → RepAC (sur C (g.ren n) σ' w) (c.mapK m) v
  | .dat k d, v, h => RepC.keeps r.keeps h
  | .nil _ _, v, h => h
  | .ref x p, v, h => by
    simp only [AC.mapK]
    cases hm : m x with
    | none => trivial
    | some y => exact r.ref hm h
  | .dead, v, h => trivial
theorem Ren.acs (r : Ren m n σ σ') : ∀ {cs : List AC} {vs : List Value}, RepACs (sur C g σ w) cs vs → RepACs (sur C (g.ren n) σ' w) (cs.map (AC.mapK m)) vs
  | [], _, h => h
  | _ :: _, _, ⟨v, vs', e, o, h1, h2⟩ => ⟨v, vs', e, o, r.ac h1, r.acs h2⟩
mutual
theorem Ren.av (r : Ren m n σ σ') : ∀ {u : AV} {v : Value}, RepAV (sur C g σ w) u v → RepAV (sur C (g.ren n) σ' w) (u.mapK m) v
  | .one _, _, h => ⟨r.ac h.1, h.2⟩
  | .agg _, _, h => let ⟨vs, e, h⟩ := h; ⟨vs, e, r.acs h⟩
  | .ptr x i j, _, h => by
    simp only [AV.mapK]
    cases hm : m x with
    | none => trivial
    | some y => exact r.ptr hm h
  | .pim ks row, _, h => by
    obtain ⟨b, o, vs, rfl, hr, hn, hc⟩ := h
    exact ⟨b, o, vs, rfl, hr, fun j hj hme => hn j hj (r.me hme), hc.keeps r.keeps⟩
  | .tup _, _, h => let ⟨vs, e, h⟩ := h; ⟨vs, e, r.avs h⟩
  | .whn _ _, _, h => ⟨fun e => r.av (h.1 e), h.2⟩
  | .dead, _, _ => trivial
theorem Ren.avs (r : Ren m n σ σ') : ∀ {us : List AV} {vs : List Value}, RepAVs (sur C g σ w) us vs → RepAVs (sur C (g.ren n) σ' w) (AV.mapKs m us) vs
  | [], _, h => h
  | _ :: _, _, ⟨v, vs', e, h1, h2⟩ => ⟨v, vs', e, r.av h1, r.avs h2⟩
end

/-- Objects under other names. -/
theorem Rel.ren (R : Rel C g σ a w) (r : Ren m n σ σ') (ht : σ'.tmps = σ.tmps.map (AV.mapK m)) : Rel C (g.ren n) σ' a w := by
  refine ⟨R.defers, R.size, by rw [ht, List.length_map]; exact R.len, fun t => ?_, fun y => ?_, fun y => ?_, fun y z hyz b hy hz => ?_, fun y b hy => ?_, R.fr⟩
  · have : σ'.tmp t = (σ.tmp t).mapK m := by
      unfold St.tmp
      rw [ht, List.getD_eq_getElem?_getD, List.getD_eq_getElem?_getD, List.getElem?_map]
      cases σ.tmps[t]? <;> rfl
    rw [this]
    exact r.av (R.tmps t)
  · unfold RepOb
    simp only [sur]
    cases hn : n y with
    | none =>
      have e0 : σ'.obj y = none := by rw [r.obj, hn]
      rw [e0]
      simp only [Gh.ren, hn]
    | some x =>
      have e0 : σ'.obj y = (σ.obj x).map (Ob.mapK m) := by rw [r.obj, hn]
      rw [e0]
      have hh : (g.ren n).hd y = g.hd x := by simp only [Gh.ren, hn]
      have hf : (g.ren n).fp y = g.fp x := by simp only [Gh.ren, hn]
      have h := R.objs x
      unfold RepOb at h
      simp only [sur] at h
      rw [hh, hf]
      cases he : σ.obj x with
      | none => rw [he] at h; exact h
      | some o =>
        rw [he] at h
        cases o with
        | box T cs =>
          obtain ⟨b, vs, h1, h2, h3, h4⟩ := h
          exact ⟨b, vs, h1, h2, h3, r.acs h4⟩
        | arr e ks dp xs =>
          obtain ⟨vss, fps, h1, h2, h3, h4, h5, h6⟩ := h
          refine ⟨vss, fps, h1, h2, h3, h4, h5, fun i row vs f q1 q2 q3 => ?_⟩
          have := h6 i row vs f q1 q2 q3
          split at this
          · rename_i hd; rw [if_pos hd]; exact this
          · rename_i hd; rw [if_neg hd]; exact ⟨this.1.keeps r.keeps, this.2⟩
        | «sealed» e ks xs => exact h
        | gone => exact h
  · cases hn : n y with
    | none => simp only [Gh.ren, hn]; exact List.nodup_nil
    | some x => simp only [Gh.ren, hn]; exact R.own x
  · cases hn : n y with
    | none => simp [Gh.ren, hn] at hy
    | some x =>
      cases hn' : n z with
      | none => simp [Gh.ren, hn'] at hz
      | some x' =>
        simp only [Gh.ren, hn] at hy
        simp only [Gh.ren, hn'] at hz
        refine R.apart x x' (fun e => ?_) b hy hz
        subst e
        have h1 := r.nm x y hn
        have h2 := r.nm x z hn'
        rw [h1] at h2
        exact hyz (Option.some.inj h2)
  · cases hn : n y with
    | none => simp [Gh.ren, hn] at hy
    | some x => simp only [Gh.ren, hn] at hy; exact R.alw x b hy
end

end Go.Vx

/-
  Vx, part 25: names are freed on closed states.
-/
namespace Go.Vx
open Go.RowKit (Below)

def SC.mapK (m : Nat → Option Nat) : SC → SC
  | .ref z p => match m z with
    | some z' => .ref z' p
    | none => .dead
  | c => c
mutual
def SV.mapK (m : Nat → Option Nat) : SV → SV
  | .one c => .one (c.mapK m)
  | .agg cs => .agg (cs.map (SC.mapK m))
  | .ptr z i j => match m z with
    | some z' => .ptr z' i j
    | none => .dead
  | .pim ks e off => .pim ks e off
  | .tup vs => .tup (SV.mapKs m vs)
  | .whn b v => .whn b (v.mapK m)
  | .dead => .dead
def SV.mapKs (m : Nat → Option Nat) : List SV → List SV
  | [] => []
  | v :: vs => v.mapK m :: SV.mapKs m vs
end
def SOb.mapK (m : Nat → Option Nat) : SOb → SOb
  | .box T cs => .box T (cs.map (SC.mapK m))
  | o => o

/-- All names d * 64 .. d * 64 + 63 are given up. -/
def killM (d : Nat) (z : Nat) : Option Nat := bif z / 64 == d then none else some z
def skill (d : Nat) : List (Nat × SOb) → List (Nat × SOb)
  | [] => []
  | (y, o) :: l => bif y / 64 == d then skill d l else (y, o.mapK (killM d)) :: skill d l
def SSt.kill (d : Nat) (s : SSt) : SSt := ⟨s.tmps.map (SV.mapK (killM d)), skill d s.objs⟩
def SSt.free (d : Nat) (s : SSt) : SSt := bif s.objs.any fun p => p.1 / 64 == d then s.kill d else s

section
variable {Φ : Fns} {env : List D}

theorem SC.den_mapK (m : Nat → Option Nat) (c : SC) : (c.mapK m).den Φ env = (c.den Φ env).mapK m := by
  cases c with
  | ref z p => simp only [SC.mapK, SC.den, AC.mapK]; cases m z <;> rfl
  | _ => rfl
theorem SC.dens_mapK (m : Nat → Option Nat) (cs : List SC) : (cs.map (SC.mapK m)).map (SC.den Φ env) = (cs.map (SC.den Φ env)).map (AC.mapK m) := by
  simp [Function.comp_def, SC.den_mapK]
mutual
theorem SV.den_mapK (m : Nat → Option Nat) : ∀ v : SV, (v.mapK m).den Φ env = (v.den Φ env).mapK m
  | .one c => by simp only [SV.mapK, SV.den, AV.mapK, SC.den_mapK]
  | .agg cs => by simp only [SV.mapK, SV.den, AV.mapK, SC.dens_mapK]
  | .ptr z i j => by simp only [SV.mapK, SV.den, AV.mapK]; cases m z <;> rfl
  | .pim _ _ _ => rfl
  | .tup vs => by simp only [SV.mapK, SV.den, AV.mapK, SV.dens_mapK m vs]
  | .whn c v => by simp only [SV.mapK, SV.den, AV.mapK, SV.den_mapK m v]
  | .dead => rfl
theorem SV.dens_mapK (m : Nat → Option Nat) : ∀ vs : List SV, SV.dens Φ env (SV.mapKs m vs) = AV.mapKs m (SV.dens Φ env vs)
  | [] => rfl
  | v :: vs => by simp only [SV.mapKs, SV.dens, AV.mapKs, SV.den_mapK m v, SV.dens_mapK m vs]
end
theorem SOb.den_mapK (m : Nat → Option Nat) (o : SOb) : (o.mapK m).den Φ env = (o.den Φ env).mapK m := by
  cases o with
  | box T cs => simp only [SOb.mapK, SOb.den, Ob.mapK, SC.dens_mapK]
  | _ => rfl

theorem slook_skill (d y : Nat) : ∀ l, slook y (skill d l) = match killM d y with | some _ => (slook y l).map (SOb.mapK (killM d)) | none => none
  | [] => by simp only [skill, slook]; split <;> rfl
  | (z, o) :: l => by
    have ih := slook_skill d y l
    by_cases hz : z / 64 = d
    · have h1 : (z / 64 == d) = true := by simpa using hz
      simp only [skill, h1, cond_true, ih, slook]
      by_cases hy : y = z
      · subst hy; simp [killM, h1]
      · have h2 : (y == z) = false := by simpa using hy
        simp [h2]
    · have h1 : (z / 64 == d) = false := by simpa using hz
      simp only [skill, h1, cond_false, slook]
      by_cases hy : y = z
      · subst hy; simp [killM, h1]
      · have h2 : (y == z) = false := by simpa using hy
        simp only [h2, cond_false, ih]

theorem kill_free (d : Nat) (s : SSt) {y : Nat} (h : y / 64 = d) : (s.kill d).obj y = none := by
  have := slook_skill d y s.objs
  have hk : killM d y = none := by simp [killM, h]
  rw [hk] at this
  exact this

theorem ren_kill (d : Nat) (s : SSt) : Ren (killM d) (killM d) (s.den Φ env) ((s.kill d).den Φ env) := by
  have key : ∀ x y, killM d x = some y → killM d y = some x := fun x y h => by
    unfold killM at h
    cases hx : (x / 64 == d) with
    | true => simp [hx] at h
    | false => simp [hx] at h; subst h; simp [killM, hx]
  refine ⟨key, fun x y h => key y x h, fun y => ?_⟩
  rw [SSt.den_obj, show (s.kill d).obj y = slook y (skill d s.objs) from rfl, slook_skill]
  cases hk : killM d y with
  | none => rfl
  | some x =>
    have hx : x = y := by
      unfold killM at hk
      cases hy : (y / 64 == d) with
      | true => simp [hy] at hk
      | false => simp [hy] at hk; exact hk.symm
    subst hx
    show Option.map (SOb.den Φ env) (Option.map (SOb.mapK (killM d)) (slook x s.objs)) = Option.map (Ob.mapK (killM d)) ((SSt.den Φ env s).obj x)
    rw [SSt.den_obj, show s.obj x = slook x s.objs from rfl]
    cases slook x s.objs with
    | none => rfl
    | some o => simp [SOb.den_mapK]

variable {C : Cx} {g : Gh} {s : SSt} {a : Act} {w : World}

theorem Rel.kill (R : Rel C g (s.den Φ env) a w) (d : Nat) : ∃ g', Rel C g' ((s.kill d).den Φ env) a w :=
  ⟨_, R.ren (ren_kill d s) (by simp [SSt.den, SSt.kill, Function.comp_def, SV.den_mapK])⟩

theorem Rel.free (R : Rel C g (s.den Φ env) a w) (d : Nat) : ∃ g', Rel C g' ((s.free d).den Φ env) a w := by
  unfold SSt.free
  cases s.objs.any fun p => p.1 / 64 == d with
  | true => exact R.kill d
  | false => exact ⟨g, R⟩

theorem slook_none (x : Nat) : ∀ l : List (Nat × SOb), (l.any fun p => p.1 / 64 == x / 64) = false → slook x l = none
  | [], _ => rfl
  | (y, o) :: l, h => by
    simp only [List.any_cons, Bool.or_eq_false_iff, beq_eq_false_iff_ne, ne_eq] at h
    have : (x == y) = false := by
      simp only [beq_eq_false_iff_ne, ne_eq]
      intro e; subst e; exact h.1 rfl
    simp only [slook, this, cond_false]
    exact slook_none x l h.2

theorem free_free (d : Nat) (s : SSt) {y : Nat} (h : y / 64 = d) : (s.free d).obj y = none := by
  unfold SSt.free
  cases hc : s.objs.any fun p => p.1 / 64 == d with
  | true => exact kill_free d s h
  | false => subst h; exact slook_none y s.objs hc
end

end Go.Vx

/-
  Vx, part 26: one operation of a region, with its guard.
-/
namespace Go.Vx
open Go.RowKit (Below)

def strip (cs : List E) (v : SV) : SV := bif v.conds.all fun c => cs.any (E.eqb c) then v.core else v
def SSt.strip (cs : List E) (s : SSt) : SSt := ⟨s.tmps.map (Vx.strip cs), s.objs⟩
def wrap : List E → SV → SV
  | [], v => v
  | c :: cs, v => .whn c (wrap cs v)
def gimp : List E → E → E
  | [], e => e
  | c :: cs, e => .op .ite [c, gimp cs e, .bool true]

def guardCs (s : SSt) (ops : Array Oper) (o : Oper) : Option (List E) := match o.guard with
  | none => some []
  | some (j, want) => match (ops[j]?).bind (·.dst) with
    | some t => match (s.tmp t).core with
      | .one (.dat .bool c) => some ((s.tmp t).conds ++ [bif want then c else .op .not [c]])
      | _ => none
    | none => none

/-- Any operation. -/
def fOp (T : TypeId → TI) (CT : Nat → Option Sig) (key : Nat) (s : SSt) (o : Oper) : Option Res := match o.op with
  | .call c => match c.callee with
    | .value (.func f) => fCall T CT key s f c.argTypes.toList c.args.toList
    | _ => opF T key s o
  | _ => opF T key s o

section
variable {Φ : Fns} {env : List D} {C : Cx} {g : Gh} {s : SSt} {a : Act} {w : World} {o : Oper} {key : Nat}

/-- What is told of the functions that are called. -/
def Told (P : Program) (Φ : Fns) (CT : Nat → Option Sig) : Prop :=
  ∀ f sg, CT f = some sg → FunR P f sg.args sg.rets (Φ f) ∧ ∃ fn, P.funcs[f]? = some fn ∧ fn.body ≠ none ∧ fn.name ≠ "runtime.NumGoroutine"

theorem good_fOp (R : Rel C g (s.den Φ env) a w) {CT : Nat → Option Sig} (hCT : Told C.P Φ CT) (hkey : s.obj key = none) {r : Res} (h : fOp C.T CT key s o = some r) (hr : holds Φ env r.cs) :
    Does C a w o (r.v.den Φ env) ((s.upds r.upd).den Φ env) := by
  unfold fOp at h
  split at h
  · rename_i c ho
    split at h
    · rename_i f hc
      exact good_call R hCT ho hc h hr
    · exact (good_op R hkey h hr).does
  · exact (good_op R hkey h hr).does

theorem Rel.retmps {σ σ' : St} (R : Rel C g σ a w) (ho : σ'.objs = σ.objs) (hl : σ'.tmps.length = σ.tmps.length) (ht : ∀ t v, RepAV (sur C g σ w) (σ.tmp t) v → RepAV (sur C g σ w) (σ'.tmp t) v) : Rel C g σ' a w := by
  have hob : ∀ x, σ'.obj x = σ.obj x := fun x => by unfold St.obj; rw [ho]
  have hs := sur_eq (C := C) (g := g) (w := w) hob
  exact ⟨R.defers, R.size, by rw [hl]; exact R.len, fun t => by rw [hs]; exact ht t _ (R.tmps t), fun x => by rw [hs]; exact R.objs x, R.own, R.apart, R.alw, R.fr⟩

theorem strip_den {cs : List E} (hcs : holds Φ env cs) (v : SV) {S : Sur} {x : Value} : RepAV S (v.den Φ env) x ↔ RepAV S ((strip cs v).den Φ env) x := by
  unfold strip
  cases hc : v.conds.all fun c => cs.any (E.eqb c) with
  | false => rfl
  | true =>
    have hall : ∀ b ∈ (v.den Φ env).conds, b = true := fun b hb => by
      rw [SV.den_conds, List.mem_map] at hb
      obtain ⟨c, hm, rfl⟩ := hb
      have := List.all_eq_true.1 hc c hm
      obtain ⟨c', hm', he⟩ := List.any_eq_true.1 this
      rw [E.eqb_eq he]
      exact hcs c' hm'
    show _ ↔ RepAV S (v.core.den Φ env) x
    rw [SV.den_core]
    exact ⟨fun h => h.core hall, fun h => RepAV.uncore h hall⟩

theorem strip_tmp (cs : List E) (s : SSt) (t : Nat) : (s.strip cs).tmp t = strip cs (s.tmp t) := by
  unfold SSt.tmp SSt.strip
  simp only [List.getD_eq_getElem?_getD, List.getElem?_map]
  cases s.tmps[t]? <;> rfl

theorem Rel.strip (R : Rel C g (s.den Φ env) a w) {cs : List E} (hcs : holds Φ env cs) : Rel C g ((s.strip cs).den Φ env) a w :=
  R.retmps rfl (by simp [SSt.den, SSt.strip]) fun t v h => by
    rw [SSt.den_tmp] at h ⊢
    rw [strip_tmp]
    exact (strip_den hcs _).1 h
theorem Rel.unstrip {cs : List E} (R : Rel C g ((s.strip cs).den Φ env) a w) (hcs : holds Φ env cs) : Rel C g (s.den Φ env) a w :=
  R.retmps rfl (by simp [SSt.den, SSt.strip]) fun t v h => by
    rw [SSt.den_tmp] at h ⊢
    rw [strip_tmp] at h
    exact (strip_den hcs _).2 h

theorem gimp_den (cs : List E) (e : E) (h : ((gimp cs e).den Φ env).asBool = true) (hcs : holds Φ env cs) : (e.den Φ env).asBool = true := by
  induction cs with
  | nil => exact h
  | cons c cs ih =>
    have hc := hcs c (by simp)
    refine ih ?_ fun x hx => hcs x (by simp [hx])
    simpa [gimp, E.den, E.dens, opD, hc] using h

theorem wrap_rep {S : Sur} {v : SV} {x : Value} : ∀ {cs : List E}, (holds Φ env cs → RepAV S (v.den Φ env) x) → (¬ holds Φ env cs → x = undef) → RepAV S ((wrap cs v).den Φ env) x
  | [], h, _ => h fun _ hc => by simp at hc
  | c :: cs, h, h' => by
    refine ⟨fun hc => wrap_rep (cs := cs) (fun hs => h fun e he => ?_) (fun hs => h' fun ha => hs fun e he => ha e (by simp [he])), fun hc => h' fun ha => ?_⟩
    · rcases List.mem_cons.1 he with rfl | he
      · exact hc
      · exact hs e he
    · have := ha c (by simp)
      rw [hc] at this
      cases this

theorem wrap_undef {S : Sur} {v : SV} {cs : List E} (h : ¬ holds Φ env cs) : RepAV S ((wrap cs v).den Φ env) undef := wrap_rep (fun hs => absurd hs h) fun _ => rfl

/-- What guards an operation is what its conditions say. -/
theorem whn_false {S : Sur} : ∀ {v : SV} {x : Value}, RepAV S (v.den Φ env) x → ¬ holds Φ env v.conds → x = undef
  | .whn c v, x, h, hn => by
    by_cases hc : (c.den Φ env).asBool = true
    · exact whn_false (v := v) (h.1 hc) fun hs => hn fun e he => by
        simp only [SV.conds, List.mem_cons] at he
        rcases he with rfl | he
        · exact hc
        · exact hs e he
    · exact h.2 (by simpa using hc)
  | .one _, _, _, hn => absurd (fun _ hc => by simp [SV.conds] at hc) hn
  | .agg _, _, _, hn => absurd (fun _ hc => by simp [SV.conds] at hc) hn
  | .ptr _ _ _, _, _, hn => absurd (fun _ hc => by simp [SV.conds] at hc) hn
  | .pim _ _ _, _, _, hn => absurd (fun _ hc => by simp [SV.conds] at hc) hn
  | .tup _, _, _, hn => absurd (fun _ hc => by simp [SV.conds] at hc) hn
  | .dead, _, _, hn => absurd (fun _ hc => by simp [SV.conds] at hc) hn

theorem guard_wanted (R : Rel C g (s.den Φ env) a w) {ops : Array Oper} {cs : List E} (h : guardCs s ops o = some cs) : Region.wanted o (yielded ops a.tmps) = true ↔ holds Φ env cs := by
  unfold guardCs at h
  unfold Region.wanted
  split at h
  · rename_i hg
    simp only [Option.some.injEq] at h
    subst h
    rw [hg]
    exact ⟨fun _ _ hc => by simp at hc, fun _ => rfl⟩
  · rename_i j want hg
    rw [hg]
    split at h
    · rename_i t ht
      split at h
      · rename_i c hcore
        simp only [Option.some.injEq] at h
        subst h
        have hr := R.tmps t
        rw [SSt.den_tmp] at hr
        have hget : ∀ b : Bool, a.tmps.getD t undef = .bool b → a.tmps[t]? = some (.bool b) := fun b hb => by
          rw [Array.getD_eq_getD_getElem?] at hb
          cases ha : a.tmps[t]? with
          | none => rw [ha] at hb; simp [undef] at hb
          | some x => rw [ha] at hb; exact congrArg some hb
        simp only [yielded, ht, Option.bind_some, beq_iff_eq]
        by_cases hall : holds Φ env (s.tmp t).conds
        · have hv : a.tmps.getD t undef = .bool (c.den Φ env).asBool := by
            have := hr.core (fun b hb => by
              rw [SV.den_conds, List.mem_map] at hb
              obtain ⟨e, he, rfl⟩ := hb
              exact hall e he)
            rw [← SV.den_core, hcore] at this
            exact this.1
          rw [hget _ hv]
          simp only [Option.some.injEq]
          constructor
          · intro hb e he
            rcases List.mem_append.1 he with he | he
            · exact hall e he
            · simp only [List.mem_singleton] at he
              subst he
              cases want with
              | true => exact hb
              | false => simp only [cond_false, E.den, E.dens, opD, D.asBool, List.getD_cons_zero]; simp only [D.asBool] at hb; rw [hb]; rfl
          · intro hh
            have := hh _ (List.mem_append.2 (.inr (List.mem_singleton.2 rfl)))
            cases want with
            | true => exact this
            | false => simpa [E.den, E.dens, opD, D.asBool] using this
        · have hu := whn_false hr hall
          constructor
          · intro hb
            exfalso
            rw [Array.getD_eq_getD_getElem?] at hu
            cases ha : a.tmps[t]? with
            | none => rw [ha] at hb; simp at hb
            | some x =>
              rw [ha] at hu hb
              simp only [Option.getD_some] at hu
              rw [hu] at hb
              simp [undef] at hb
          · intro hh
            exact absurd (fun e he => hh e (List.mem_append.2 (.inl he))) hall
      · cases h
    · cases h
end

end Go.Vx

/-
  Vx, part 27: the operations of a region, one after the other.
-/
namespace Go.Vx
open Go.RowKit (Below)

def sstep (T : TypeId → TI) (CT : Nat → Option Sig) (ops : Array Oper) (s : SSt) (o : Oper) : Option (List E × SSt) :=
  match o.dst with
  | some d => bif Nat.blt d s.tmps.length then match guardCs (s.free d) ops o with
    | some [] => match fOp T CT (d * 64) (s.free d) o with
      | some r => some (r.cs, ((s.free d).upds r.upd).setT d r.v)
      | none => none
    | some (c :: cs) => match fOp T CT (d * 64) ((s.free d).strip (c :: cs)) o with
      | some r => bif r.upd.isEmpty then some (r.cs.map (gimp (c :: cs)), (s.free d).setT d (wrap (c :: cs) r.v)) else none
      | none => none
    | none => none
    else none
  | none => match o.guard with
    | none => match fOp T CT 6400000 (s.free 100000) o with
      | some r => some (r.cs, (s.free 100000).upds r.upd)
      | none => none
    | some _ => none

def srun (T : TypeId → TI) (CT : Nat → Option Sig) (ops : Array Oper) : List Nat → SSt → Option (List E × SSt)
  | [], s => some ([], s)
  | i :: l, s => match ops[i]? with
    | some o => match sstep T CT ops s o with
      | some (cs, s1) => match srun T CT ops l s1 with
        | some (cs', s2) => some (cs ++ cs', s2)
        | none => none
      | none => none
    | none => none

section
variable {Φ : Fns} {env : List D} {C : Cx} {g : Gh} {s : SSt} {a : Act} {w : World} {o : Oper}

theorem free_len (d : Nat) (s : SSt) : (s.free d).tmps.length = s.tmps.length := by
  unfold SSt.free
  cases s.objs.any fun p => p.1 / 64 == d <;> simp [SSt.kill]

theorem Rel.slen (R : Rel C g (s.den Φ env) a w) : s.tmps.length = C.n := by
  have := R.len
  simpa [SSt.den] using this

theorem sstep_sound (R : Rel C g (s.den Φ env) a w) {CT : Nat → Option Sig} (hCT : Told C.P Φ CT) {ops : Array Oper} {cs : List E} {s' : SSt} (h : sstep C.T CT ops s o = some (cs, s')) (hc : holds Φ env cs)
    (next : Act → World → Prop) (Q : Exit → Act → World → Prop) (hn : ∀ a' w' g', Rel C g' (s'.den Φ env) a' w' → next a' w') :
    if Region.wanted o (yielded ops a.tmps) = true then o.wp C.P a w next Q else next (a.put o.dst undef) w := by
  unfold sstep at h
  split at h
  · rename_i d hd
    obtain ⟨h1, h2⟩ := bif_some h
    clear h
    have hdn : d < C.n := by rw [← R.slen]; exact Nat.le_of_ble_eq_true h1
    obtain ⟨g1, R1⟩ := R.free d
    have hkey : (s.free d).obj (d * 64) = none := free_free d s (by omega)
    split at h2
    · rename_i hg
      have hw := (guard_wanted R1 hg).2 (fun _ hc => by simp at hc)
      rw [if_pos hw]
      split at h2
      · rename_i r hr
        simp only [Option.some.injEq, Prod.mk.injEq] at h2
        obtain ⟨rfl, rfl⟩ := h2
        refine good_fOp R1 hCT hkey hr hc next Q fun v w' g' hv R' => hn _ _ g' ?_
        rw [SSt.den_setT, hd]
        exact R'.put hdn hv
      · cases h2
    · rename_i c cs0 hg
      split at h2
      · rename_i r hr
        obtain ⟨h3, h4⟩ := bif_some h2
        clear h2
        simp only [Option.some.injEq, Prod.mk.injEq] at h4
        obtain ⟨rfl, rfl⟩ := h4
        have hupd : r.upd = [] := by simpa using h3
        have hwi := guard_wanted R1 hg
        by_cases hall : holds Φ env (c :: cs0)
        · rw [if_pos (hwi.2 hall)]
          have hkey' : ((s.free d).strip (c :: cs0)).obj (d * 64) = none := hkey
          refine good_fOp (R1.strip hall) hCT hkey' hr (fun e he => gimp_den _ _ (hc _ (List.mem_map.2 ⟨e, he, rfl⟩)) hall) next Q fun v w' g' hv R' => hn _ _ g' ?_
          rw [hupd] at hv R'
          have R2 := Rel.unstrip (s := s.free d) (cs := c :: cs0) R' hall
          rw [SSt.den_setT, hd]
          exact R2.put hdn (wrap_rep (fun _ => hv) fun hno => absurd hall hno)
        · rw [if_neg fun hq => hall (hwi.1 hq)]
          refine hn _ _ g1 ?_
          rw [SSt.den_setT, hd]
          exact R1.put hdn (wrap_undef hall)
      · cases h2
    · cases h2
  · rename_i hd
    split at h
    · rename_i hg
      have hw : Region.wanted o (yielded ops a.tmps) = true := by unfold Region.wanted; rw [hg]
      rw [if_pos hw]
      obtain ⟨g1, R1⟩ := R.free 100000
      have hkey : (s.free 100000).obj 6400000 = none := free_free 100000 s (by decide)
      split at h
      · rename_i r hr
        simp only [Option.some.injEq, Prod.mk.injEq] at h
        obtain ⟨rfl, rfl⟩ := h
        refine good_fOp R1 hCT hkey hr hc next Q fun v w' g' hv R' => hn _ _ g' ?_
        rw [hd]
        exact R'
      · cases h
    · cases h

theorem srun_sound {CT : Nat → Option Sig} (hCT : Told C.P Φ CT) {ops : Array Oper} {Q : Exit → Act → World → Prop} : ∀ (l : List Nat) {g : Gh} {s : SSt} {a : Act} {w : World} {cs : List E} {s' : SSt}, Rel C g (s.den Φ env) a w →
    srun C.T CT ops l s = some (cs, s') → holds Φ env cs → (∀ a' w' g', Rel C g' (s'.den Φ env) a' w' → Q .normal a' w') → wpOps C.P ops Q l a w
  | [], g, s, a, w, cs, s', R, h, hc, hQ => by
    simp only [srun, Option.some.injEq, Prod.mk.injEq] at h
    obtain ⟨rfl, rfl⟩ := h
    exact hQ _ _ g R
  | i :: l, g, s, a, w, cs, s', R, h, hc, hQ => by
    simp only [srun] at h
    split at h
    · rename_i o ho
      split at h
      · rename_i cs1 s1 h1
        split at h
        · rename_i cs2 s2 h2
          simp only [Option.some.injEq, Prod.mk.injEq] at h
          obtain ⟨rfl, rfl⟩ := h
          have := sstep_sound R hCT h1 (fun e he => hc e (List.mem_append.2 (.inl he))) (wpOps C.P ops Q l) Q (fun a' w' g' R' => srun_sound hCT l R' h2 (fun e he => hc e (List.mem_append.2 (.inr he))) hQ)
          simp only [wpOps, ho]
          split at this
          · rename_i hw; rw [if_pos hw]; exact .inl this
          · rename_i hw; rw [if_neg hw]; exact this
        · cases h
      · cases h
    · cases h

/-- A region that is run as it is written. -/
theorem region_sound {CT : Nat → Option Sig} (hCT : Told C.P Φ CT) {ops : Array Oper} {id : Nat} {Q : Exit → Act → World → Prop} {cs : List E} {s' : SSt} (R : Rel C g (s.den Φ env) a w)
    (h : srun C.T CT ops (List.range ops.size) s = some (cs, s')) (hc : holds Φ env cs) (hQ : ∀ a' w' g', Rel C g' (s'.den Φ env) a' w' → Q .normal a' w') : (Code.region id ops false).wp C.P Q a w :=
  wp_region (srun_sound hCT _ R h hc hQ)
end

end Go.Vx

/-
  Vx, part 28: an operation hangs on its operands and on the objects alone.
-/
namespace Go.Vx
open Go.RowKit (Below)

/-- Two states that an operand, and all objects, do not tell apart. -/
def Alike (τ s : SSt) (x : Operand) : Prop := ∀ t, x = .tmp t → τ.tmp t = s.tmp t

section
variable {T : TypeId → TI} {CT : Nat → Option Sig} {τ s : SSt} {key : Nat}

theorem Alike.sev {x : Operand} (h : Alike τ s x) (ty : TypeId) : sev T ty τ x = sev T ty s x := by
  cases x with
  | tmp t => exact h t rfl
  | _ => rfl

theorem fLoad_loc (ho : ∀ y, τ.obj y = s.obj y) {t : TypeId} {x : Operand} (h : Alike τ s x) : fLoad T τ t x = fLoad T s t x := by
  unfold fLoad; simp only [h.sev, ho]
theorem fFieldAddr_loc (ho : ∀ y, τ.obj y = s.obj y) {t : TypeId} {x : Operand} {f : Nat} (h : Alike τ s x) : fFieldAddr T τ t x f = fFieldAddr T s t x f := by
  unfold fFieldAddr; simp only [h.sev, ho]
theorem fIndexAddr_loc (ho : ∀ y, τ.obj y = s.obj y) {t : TypeId} {x y : Operand} (h : Alike τ s x) (h' : Alike τ s y) : fIndexAddr T τ t x y = fIndexAddr T s t x y := by
  unfold fIndexAddr; simp only [h.sev, h'.sev, ho]
theorem fBin_loc {op : BinOp} {t u : TypeId} {x y : Operand} (h : Alike τ s x) (h' : Alike τ s y) : fBin T τ op t x y u = fBin T s op t x y u := by
  unfold fBin; simp only [h.sev, h'.sev]
theorem fEq_loc {op : BinOp} {t u : TypeId} {x y : Operand} (h : Alike τ s x) (h' : Alike τ s y) : fEq T τ op t x y u = fEq T s op t x y u := by
  unfold fEq; simp only [h.sev, h'.sev]
theorem fUn_loc {op : UnOp} {t : TypeId} {x : Operand} (h : Alike τ s x) : fUn T τ op t x = fUn T s op t x := by
  unfold fUn; simp only [h.sev]
theorem fConv_loc {st t : TypeId} {x : Operand} (h : Alike τ s x) : fConv T τ st t x = fConv T s st t x := by
  unfold fConv; simp only [h.sev]
theorem ssrc_loc (ho : ∀ y, τ.obj y = s.obj y) {t : TypeId} {ks : List K} {x : Operand} (h : Alike τ s x) : ssrc T τ t ks x = ssrc T s t ks x := by
  unfold ssrc; simp only [h.sev, ho]
theorem fBytes_loc (ho : ∀ y, τ.obj y = s.obj y) {st t : TypeId} {x : Operand} (h : Alike τ s x) : fBytes T τ st t x = fBytes T s st t x := by
  unfold fBytes; simp only [ssrc_loc ho h]
theorem fIndex_loc {t : TypeId} {x y : Operand} (h : Alike τ s x) (h' : Alike τ s y) : fIndex T τ t x y = fIndex T s t x y := by
  unfold fIndex; simp only [h.sev, h'.sev]
theorem fPick_loc {ty : TypeId} {c x y : Operand} (h0 : Alike τ s c) (h : Alike τ s x) (h' : Alike τ s y) : fPick T τ ty c x y = fPick T s ty c x y := by
  unfold fPick; simp only [h0.sev, h.sev, h'.sev]
theorem fLen_loc (ho : ∀ y, τ.obj y = s.obj y) {t : TypeId} {x : Operand} (h : Alike τ s x) : fLen T τ t x = fLen T s t x := by
  unfold fLen; simp only [h.sev, ho]
theorem sbnd_loc {d : E} {x : Option Operand} (h : ∀ y, x = some y → Alike τ s y) : sbnd T τ d x = sbnd T s d x := by
  cases x with
  | none => rfl
  | some y => simp only [sbnd, (h y rfl).sev]
theorem fSlice_loc (ho : ∀ y, τ.obj y = s.obj y) {t : TypeId} {x : Operand} {lo hi : Option Operand} (h : Alike τ s x) (hl : ∀ y, lo = some y → Alike τ s y) (hh : ∀ y, hi = some y → Alike τ s y) : fSlice T τ t x lo hi = fSlice T s t x lo hi := by
  unfold fSlice; simp only [h.sev, ho, sbnd_loc hl, sbnd_loc hh]
theorem fExtract_loc {x : Operand} {i : Nat} (h : Alike τ s x) : fExtract T τ x i = fExtract T s x i := by
  unfold fExtract; simp only [h.sev]
theorem fField_loc {t : TypeId} {x : Operand} {f : Nat} (h : Alike τ s x) : fField T τ t x f = fField T s t x f := by
  unfold fField; simp only [h.sev]
theorem fNilCheck_loc (ho : ∀ y, τ.obj y = s.obj y) {x : Operand} (h : Alike τ s x) : fNilCheck T τ x = fNilCheck T s x := by
  unfold fNilCheck; simp only [h.sev, ho]

theorem sargC_loc (ho : ∀ y, τ.obj y = s.obj y) (k : K) (c : SC) : sargC τ k c = sargC s k c := by
  cases c <;> simp only [sargC, ho]
theorem sargCs_loc (ho : ∀ y, τ.obj y = s.obj y) : ∀ (ks : List K) (cs : List SC), sargCs τ ks cs = sargCs s ks cs
  | [], [] => rfl
  | [], _ :: _ => rfl
  | _ :: _, [] => rfl
  | k :: ks, c :: cs => by simp only [sargCs, sargC_loc ho, sargCs_loc ho ks cs]
theorem sarg_loc (ho : ∀ y, τ.obj y = s.obj y) {ty : TypeId} {x : Operand} (h : Alike τ s x) (sh : ASh) : sarg T τ ty x sh = sarg T s ty x sh := by
  cases sh <;> simp only [sarg, h.sev, sargC_loc ho, sargCs_loc ho]
theorem sargs_loc (ho : ∀ y, τ.obj y = s.obj y) : ∀ (hs : List ASh) (ts : List TypeId) (xs : List Operand), (∀ x ∈ xs, Alike τ s x) → sargs T τ hs ts xs = sargs T s hs ts xs
  | [], [], [], _ => rfl
  | h :: hs, t :: ts, x :: xs, hx => by
    simp only [sargs, sarg_loc ho (hx x (by simp)), sargs_loc ho hs ts xs fun y hy => hx y (by simp [hy])]
  | [], [], _ :: _, _ => rfl
  | [], _ :: _, _, _ => rfl
  | _ :: _, [], _, _ => rfl
  | _ :: _, _ :: _, [], _ => rfl
theorem fCall_loc (ho : ∀ y, τ.obj y = s.obj y) {f : Nat} {ts : List TypeId} {xs : List Operand} (h : ∀ x ∈ xs, Alike τ s x) : fCall T CT key τ f ts xs = fCall T CT key s f ts xs := by
  unfold fCall
  simp only [sargs_loc ho _ _ _ h, ho]

/-- Operations that change no object. -/
def quietOp (o : Oper) : Bool := match o.op with
  | .move _ | .assign _ | .load .. | .fieldAddr .. | .indexAddr .. | .binOp .. | .unOp .. | .convert .. | .index .. | .pick .. | .extract .. | .field .. | .nilCheck _ => true
  | .slice _ _ _ _ none => true
  | .call c => match c.callee with
    | .value (.func _) => true
    | .builtin .len => true
    | _ => false
  | _ => false

theorem fOp_loc (ho : ∀ y, τ.obj y = s.obj y) {o : Oper} (hq : quietOp o = true) (h : ∀ x ∈ o.op.operands.toList, Alike τ s x) : fOp T CT key τ o = fOp T CT key s o := by
  obtain ⟨dst, op, type, pos, after, guard⟩ := o
  cases op with
  | move x => simp only [fOp, opF, (h x (by simp [Op.operands])).sev]
  | assign x => simp only [fOp, opF, (h x (by simp [Op.operands])).sev]
  | load t x => exact fLoad_loc ho (h x (by simp [Op.operands]))
  | fieldAddr t x f => exact fFieldAddr_loc ho (h x (by simp [Op.operands]))
  | indexAddr t x y => exact fIndexAddr_loc ho (h x (by simp [Op.operands])) (h y (by simp [Op.operands]))
  | binOp op t x y u => simp only [fOp, opF, fBin_loc (op := op) (t := t) (u := u) (h x (by simp [Op.operands])) (h y (by simp [Op.operands])), fEq_loc (op := op) (t := t) (u := u) (h x (by simp [Op.operands])) (h y (by simp [Op.operands]))]
  | unOp op t x => exact fUn_loc (h x (by simp [Op.operands]))
  | convert st t x => simp only [fOp, opF, fConv_loc (st := st) (t := t) (h x (by simp [Op.operands])), fBytes_loc (st := st) (t := t) ho (h x (by simp [Op.operands]))]
  | index t x y => exact fIndex_loc (h x (by simp [Op.operands])) (h y (by simp [Op.operands]))
  | pick c x y => exact fPick_loc (h c (by simp [Op.operands])) (h x (by simp [Op.operands])) (h y (by simp [Op.operands]))
  | extract x i => exact fExtract_loc (h x (by simp [Op.operands]))
  | field t x f => exact fField_loc (h x (by simp [Op.operands]))
  | nilCheck x => exact fNilCheck_loc ho (h x (by simp [Op.operands]))
  | slice t x lo hi m =>
    cases m with
    | none => exact fSlice_loc ho (h x (by simp [Op.operands])) (fun y hy => h y (by simp [Op.operands, hy])) (fun y hy => h y (by simp [Op.operands, hy]))
    | some m => simp [quietOp] at hq
  | call c =>
    obtain ⟨callee, args, argTypes⟩ := c
    cases callee with
    | value f =>
      cases f with
      | func f => exact fCall_loc ho fun x hx => h x (by simp [Op.operands, Call.operands, Array.mem_toList_iff.1 hx])
      | _ => simp [quietOp] at hq
    | builtin b =>
      cases b with
      | len =>
        simp only [fOp, opF]
        split
        · rename_i x t _ hx _
          exact fLen_loc ho (h x (by simp [Op.operands, Call.operands, ← Array.mem_toList_iff, hx]))
        · rename_i hb _ _; cases hb
        · rfl
      | _ => simp [quietOp] at hq
    | invoke _ _ => simp [quietOp] at hq
  | _ => simp [quietOp] at hq
end

end Go.Vx

/-
  Vx, part 29: one quiet operation, in whatever order.
-/
namespace Go.Vx
open Go.RowKit (Below)

def qstep (T : TypeId → TI) (CT : Nat → Option Sig) (ops : Array Oper) (s : SSt) (o : Oper) : Option (Nat × List E × SV) :=
  match o.dst, guardCs s ops o with
  | some d, some cs => bif quietOp o && Nat.blt d s.tmps.length then match fOp T CT (d * 64) (s.strip cs) o with
    | some r => bif r.upd.isEmpty then some (d, r.cs.map (gimp cs), wrap cs r.v) else none
    | none => none
    else none
  | _, _ => none

section
variable {Φ : Fns} {env : List D} {C : Cx} {g : Gh} {s τ : SSt} {a : Act} {w : World} {o : Oper}

theorem qstep_sound (R : Rel C g (s.den Φ env) a w) {CT : Nat → Option Sig} (hCT : Told C.P Φ CT) {ops : Array Oper} {d : Nat} {cs : List E} {v : SV} (h : qstep C.T CT ops s o = some (d, cs, v)) (hkey : s.obj (d * 64) = none)
    (hc : holds Φ env cs) (next : Act → World → Prop) (Q : Exit → Act → World → Prop) (hn : ∀ a' w' g', Rel C g' ((s.setT d v).den Φ env) a' w' → next a' w') :
    if Region.wanted o (yielded ops a.tmps) = true then o.wp C.P a w next Q else next (a.put o.dst undef) w := by
  unfold qstep at h
  split at h
  · rename_i d' cs0 hd hg
    obtain ⟨h1, h2⟩ := bif_some h
    clear h
    simp only [Bool.and_eq_true] at h1
    split at h2
    · rename_i r hr
      obtain ⟨h3, h4⟩ := bif_some h2
      clear h2
      simp only [Option.some.injEq, Prod.mk.injEq] at h4
      obtain ⟨rfl, rfl, rfl⟩ := h4
      have hdn : d' < C.n := by rw [← R.slen]; exact Nat.le_of_ble_eq_true h1.2
      have hupd : r.upd = [] := by simpa using h3
      have hwi := guard_wanted R hg
      by_cases hall : holds Φ env cs0
      · rw [if_pos (hwi.2 hall)]
        have hkey' : (s.strip cs0).obj (d' * 64) = none := hkey
        refine good_fOp (R.strip hall) hCT hkey' hr (fun e he => gimp_den _ _ (hc _ (List.mem_map.2 ⟨e, he, rfl⟩)) hall) next Q fun x w' g' hv R' => hn _ _ g' ?_
        rw [hupd] at hv R'
        have R2 := Rel.unstrip (s := s) (cs := cs0) R' hall
        rw [SSt.den_setT, hd]
        exact R2.put hdn (wrap_rep (fun _ => hv) fun hno => absurd hall hno)
      · rw [if_neg fun hq => hall (hwi.1 hq)]
        refine hn _ _ g ?_
        rw [SSt.den_setT, hd]
        exact R.put hdn (wrap_undef hall)
    · cases h2
  · cases h

theorem qstep_loc {T : TypeId → TI} {CT : Nat → Option Sig} {ops : Array Oper} (ho : ∀ y, τ.obj y = s.obj y) (hl : τ.tmps.length = s.tmps.length) (h : ∀ t ∈ o.looksAt ops, τ.tmp t = s.tmp t) : qstep T CT ops τ o = qstep T CT ops s o := by
  have hg : guardCs τ ops o = guardCs s ops o := by
    unfold guardCs
    cases hgu : o.guard with
    | none => rfl
    | some q =>
      obtain ⟨j, want⟩ := q
      simp only
      cases hj : (ops[j]?).bind (·.dst) with
      | none => rfl
      | some t =>
        have := h t (by simp [Oper.looksAt, hgu, hj])
        simp only [this]
  have hx : ∀ cs, ∀ x ∈ o.op.operands.toList, Alike (τ.strip cs) (s.strip cs) x := fun cs x hx t ht => by
    subst ht
    rw [strip_tmp, strip_tmp, h t]
    unfold Oper.looksAt
    refine List.mem_append.2 (.inl (List.mem_filterMap.2 ⟨.tmp t, hx, rfl⟩))
  unfold qstep
  rw [hg, hl]
  cases o.dst with
  | none => rfl
  | some d =>
    cases guardCs s ops o with
    | none => rfl
    | some cs =>
      simp only
      cases hq : quietOp o with
      | false => rfl
      | true =>
        rw [fOp_loc (τ := τ.strip cs) (s := s.strip cs) (fun y => ho y) hq (hx cs)]
end

end Go.Vx

/-
  Vx, part 30: regions that draw an order, where all operations are quiet.
-/
namespace Go.Vx
open Go.RowKit (Below)

abbrev Plan := List (Nat × List E × SV)

def qrun (T : TypeId → TI) (CT : Nat → Option Sig) (ops : Array Oper) : List Nat → SSt → Option (Plan × SSt)
  | [], s => some ([], s)
  | i :: l, s => match ops[i]? with
    | some o => match qstep T CT ops s o with
      | some (d, cs, v) => match qrun T CT ops l (s.setT d v) with
        | some (p, s') => some ((d, cs, v) :: p, s')
        | none => none
      | none => none
    | none => none

def freeAll : List Nat → SSt → SSt
  | [], s => s
  | d :: ds, s => freeAll ds (s.free d)

def binding (ops : Array Oper) (i j : Nat) : Bool := match ops[i]? with
  | some o => o.after.toList.any fun e => Region.binds .any e && e.on == j
  | none => false

def looksB (ops : Array Oper) (i t : Nat) : Bool := match ops[i]? with
  | some o => (o.looksAt ops).any fun u => u == t
  | none => false

/-- No two write one temporary; who reads what another writes is in order with him. -/
def orderOk (ops : Array Oper) (p : Plan) (n : Nat) : Bool :=
  (List.range n).all fun i =>
    (match ops[i]? with
      | some o => o.after.toList.all fun e => !Region.binds .any e || Nat.blt e.on i
      | none => false) &&
    (List.range n).all fun j => match p[i]?, p[j]? with
      | some pi, some pj => (i == j || !(pi.1 == pj.1)) && (!looksB ops i pj.1 || bif Nat.blt j i then binding ops i j else i == j || binding ops j i)
      | _, _ => false

def dsts (ops : Array Oper) : List Nat := ops.toList.filterMap (·.dst)

def drun (T : TypeId → TI) (CT : Nat → Option Sig) (ops : Array Oper) (s : SSt) : Option (List E × SSt) :=
  match qrun T CT ops (List.range ops.size) (freeAll (dsts ops) s) with
  | some (p, s') => bif orderOk ops p ops.size && p.all fun q => Nat.blt q.1 s.tmps.length && match (freeAll (dsts ops) s).obj (q.1 * 64) with | none => true | some _ => false then some (p.flatMap fun q => q.2.1, s') else none
  | none => none

section
variable {Φ : Fns} {env : List D} {C : Cx} {g : Gh} {s τ : SSt} {a : Act} {w : World} {p : Plan}

structure Has (s : SSt) (p : Plan) (L : Nat → Prop) (τ : SSt) : Prop where
  objs : τ.objs = s.objs
  len : τ.tmps.length = s.tmps.length
  new : ∀ j q, p[j]? = some q → L j → τ.tmp q.1 = q.2.2
  old : ∀ t, (∀ j q, p[j]? = some q → L j → q.1 ≠ t) → τ.tmp t = s.tmp t

theorem tmp_setT {s : SSt} {t u : Nat} {v : SV} (h : t < s.tmps.length) : (s.setT t v).tmp u = if u = t then v else s.tmp u := by
  unfold SSt.tmp SSt.setT
  simp only [List.getD_eq_getElem?_getD, List.getElem?_set]
  by_cases e : t = u
  · subst e; simp [h]
  · simp [e, show ¬ u = t from fun h => e h.symm]

def Apart (p : Plan) : Prop := ∀ (i j : Nat) (q r : Nat × List E × SV), p[i]? = some q → p[j]? = some r → q.1 = r.1 → i = j

theorem Has.step {L L' : Nat → Prop} (h : Has s p L τ) (hp : Apart p) {i : Nat} {q : Nat × List E × SV} (hi : p[i]? = some q) (hd : q.1 < s.tmps.length) (hL : ∀ j, L' j ↔ L j ∨ j = i) : Has s p L' (τ.setT q.1 q.2.2) := by
  have hl : q.1 < τ.tmps.length := by rw [h.len]; exact hd
  refine ⟨h.objs, by rw [show (τ.setT q.1 q.2.2).tmps = τ.tmps.set q.1 q.2.2 from rfl, List.length_set]; exact h.len, fun j r hj hLj => ?_, fun t ht => ?_⟩
  · rw [tmp_setT hl]
    by_cases e : r.1 = q.1
    · have := hp j i r q hj hi e
      subst this
      rw [hi] at hj
      simp only [Option.some.injEq] at hj
      subst hj
      rw [if_pos rfl]
    · rw [if_neg e]
      rcases (hL j).1 hLj with h1 | h1
      · exact h.new j r hj h1
      · subst h1
        rw [hi] at hj
        simp only [Option.some.injEq] at hj
        subst hj
        exact absurd rfl e
  · rw [tmp_setT hl, if_neg fun e => ht i q hi ((hL i).2 (.inr rfl)) e.symm]
    exact h.old t fun j r hj hLj => ht j r hj ((hL j).2 (.inl hLj))

theorem qrun_has {T : TypeId → TI} {CT : Nat → Option Sig} {ops : Array Oper} {s : SSt} {p : Plan} (hp : Apart p) (hd : ∀ q ∈ p, q.1 < s.tmps.length) : ∀ (m k : Nat) {pre suf : Plan} {τ τ' : SSt}, p = pre ++ suf → pre.length = k → Has s p (· < k) τ → qrun T CT ops (List.range' k m) τ = some (suf, τ') →
    Has s p (· < k + m) τ' ∧ ∀ i q, k ≤ i → i < k + m → p[i]? = some q → ∃ o τi, ops[i]? = some o ∧ Has s p (· < i) τi ∧ qstep T CT ops τi o = some q
  | 0, k, pre, suf, τ, τ', he, hk, h, hq => by
    simp only [List.range'_zero, qrun, Option.some.injEq, Prod.mk.injEq] at hq
    obtain ⟨rfl, rfl⟩ := hq
    exact ⟨h, fun i q h1 h2 => by omega⟩
  | m + 1, k, pre, suf, τ, τ', he, hk, h, hq => by
    simp only [List.range'_succ, qrun] at hq
    split at hq
    · rename_i o ho
      split at hq
      · rename_i d cs v h1
        split at hq
        · rename_i suf' τ1 h2
          simp only [Option.some.injEq, Prod.mk.injEq] at hq
          obtain ⟨rfl, rfl⟩ := hq
          have hi : p[k]? = some (d, cs, v) := by rw [he, List.getElem?_append_right (by omega), hk]; simp
          have hs := h.step hp hi (hd _ (List.mem_of_getElem? hi)) (L' := (· < k + 1)) (fun j => by omega)
          obtain ⟨a1, a2⟩ := qrun_has hp hd m (k + 1) (pre := pre ++ [(d, cs, v)]) (by rw [he]; simp) (by simp [hk]) hs h2
          refine ⟨by rw [show k + (m + 1) = k + 1 + m by omega]; exact a1, fun i q q1 q2 q3 => ?_⟩
          by_cases e : i = k
          · subst e
            rw [hi] at q3
            simp only [Option.some.injEq] at q3
            subst q3
            exact ⟨o, τ, ho, h, h1⟩
          · exact a2 i q (by omega) (by omega) q3
        · cases hq
      · cases hq
    · cases hq

theorem qrun_length {T : TypeId → TI} {CT : Nat → Option Sig} {ops : Array Oper} : ∀ (l : List Nat) {s s' : SSt} {p : Plan}, qrun T CT ops l s = some (p, s') → p.length = l.length
  | [], s, s', p, h => by simp only [qrun, Option.some.injEq, Prod.mk.injEq] at h; obtain ⟨rfl, rfl⟩ := h; rfl
  | i :: l, s, s', p, h => by
    simp only [qrun] at h
    split at h
    · split at h
      · split at h
        · rename_i h2
          simp only [Option.some.injEq, Prod.mk.injEq] at h
          obtain ⟨rfl, rfl⟩ := h
          simp [qrun_length l h2]
        · cases h
      · cases h
    · cases h

theorem Rel.freeAll : ∀ (ds : List Nat) {g : Gh} {s : SSt}, Rel C g (s.den Φ env) a w → ∃ g', Rel C g' ((freeAll ds s).den Φ env) a w
  | [], g, s, R => ⟨g, R⟩
  | d :: ds, g, s, R => by
    obtain ⟨g1, R1⟩ := R.free d
    exact Rel.freeAll ds R1

theorem freeAll_len : ∀ (ds : List Nat) (s : SSt), (Vx.freeAll ds s).tmps.length = s.tmps.length
  | [], s => rfl
  | d :: ds, s => by rw [Vx.freeAll, freeAll_len ds, free_len]

structure Inv (Φ : Fns) (env : List D) (C : Cx) (s : SSt) (ops : Array Oper) (p : Plan) (fuel : Nat) (listed : Array Bool) (a : Act) (w : World) : Prop where
  size : listed.size = ops.size
  fuel : listed.toList.count false ≤ fuel
  closed : ∀ i j, listed.getD i false = true → binding ops i j = true → listed.getD j false = true
  rel : ∃ g τ, Rel C g (τ.den Φ env) a w ∧ Has s p (fun i => listed.getD i false = true) τ

theorem binding_ready {ops : Array Oper} {listed : Array Bool} {i j : Nat} (hr : i ∈ Region.ready .any ops listed) (hb : binding ops i j = true) : listed.getD j false = true := by
  obtain ⟨_, o, ho, hall⟩ := mem_ready.1 hr
  unfold binding at hb
  rw [ho] at hb
  simp only [List.any_eq_true, Bool.and_eq_true, beq_iff_eq] at hb
  obtain ⟨e, he, h1, rfl⟩ := hb
  exact hall e (Array.mem_toList_iff.1 he) h1

theorem any_sound {CT : Nat → Option Sig} (hCT : Told C.P Φ CT) {ops : Array Oper} {Q : Exit → Act → World → Prop} {s s' : SSt} {p : Plan} (hq : qrun C.T CT ops (List.range ops.size) s = some (p, s')) (hok : orderOk ops p ops.size = true)
    (hd : ∀ q ∈ p, q.1 < s.tmps.length) (hkey : ∀ q ∈ p, s.obj (q.1 * 64) = none) (hc : ∀ q ∈ p, holds Φ env q.2.1) (hQ : ∀ a' w' g', Rel C g' (s'.den Φ env) a' w' → Q .normal a' w') :
    ∀ (fuel : Nat) (listed : Array Bool) (a : Act) (w : World), Inv Φ env C s ops p fuel listed a w → wpAny C.P .any ops Q fuel listed a w := by
  have hlen := qrun_length _ hq
  rw [List.length_range] at hlen
  simp only [orderOk, List.all_eq_true, List.mem_range, Bool.and_eq_true] at hok
  have hget : ∀ i, i < ops.size → ∃ q, p[i]? = some q := fun i hi => ⟨p[i], List.getElem?_eq_getElem (by omega)⟩
  have hlt : ∀ i q, p[i]? = some q → i < ops.size := fun i q h => by rw [← hlen]; exact (List.getElem?_eq_some_iff.1 h).1
  have pair : ∀ i j q r, p[i]? = some q → p[j]? = some r → ((i == j || !(q.1 == r.1)) && (!looksB ops i r.1 || bif Nat.blt j i then binding ops i j else i == j || binding ops j i)) = true := fun i j q r h1 h2 => by
    have := (hok i (hlt i q h1)).2 j (hlt j r h2)
    rw [h1, h2] at this
    exact this
  have hap : Apart p := fun i j q r h1 h2 he => by
    have := pair i j q r h1 h2
    simp only [Bool.and_eq_true, Bool.or_eq_true, beq_iff_eq, Bool.not_eq_true', beq_eq_false_iff_ne] at this
    exact this.1.resolve_right fun h => h he
  have h0 : Has s p (fun i => i < 0) s := ⟨rfl, rfl, fun j q _ h => by omega, fun _ _ => rfl⟩
  rw [List.range_eq_range'] at hq
  obtain ⟨hfin, hsteps⟩ := qrun_has hap hd ops.size 0 (pre := []) (by simp) rfl h0 hq
  simp only [Nat.zero_add] at hfin hsteps
  -- all listed: the end
  have fin : ∀ listed a w g τ, (∀ i, i < ops.size → listed.getD i false = true) → Rel C g (SSt.den Φ env τ) a w → Has s p (fun i => (listed : Array Bool).getD i false = true) τ → Q .normal a w := fun listed a w g τ hall R H => by
    have hts : ∀ t, τ.tmp t = s'.tmp t := fun t => by
      by_cases h : ∃ (j : Nat) (q : Nat × List E × SV), p[j]? = some q ∧ q.1 = t
      · obtain ⟨j, q, hj, rfl⟩ := h
        rw [H.new j q hj (hall j (hlt j q hj)), hfin.new j q hj (hlt j q hj)]
      · rw [H.old t fun j q hj _ he => h ⟨j, q, hj, he⟩, hfin.old t fun j q hj _ he => h ⟨j, q, hj, he⟩]
    refine hQ a w g (R.retmps ?_ ?_ fun t v hv => ?_)
    · simp only [SSt.den, H.objs, hfin.objs]
    · simp only [SSt.den, List.length_map, H.len, hfin.len]
    · rw [SSt.den_tmp] at hv ⊢
      rw [← hts]
      exact hv
  have notin : ∀ (listed : Array Bool), listed.size = ops.size → (∀ i, i < ops.size → listed.getD i true ≠ false) → ∀ i, i < ops.size → listed.getD i false = true := fun listed hs h i hi => by
    have := h i hi
    rw [← hs] at hi
    simp [hi] at this ⊢
    exact this
  intro fuel
  induction fuel with
  | zero =>
    intro listed a w I
    have hno : ∀ i, i < ops.size → listed.getD i true ≠ false := fun i hi he => by
      have h1 := I.fuel
      have h2 : List.count false listed.toList = 0 := by omega
      rw [← I.size] at hi
      simp [hi] at he
      exact (List.count_eq_zero.1 h2) (by rw [← he]; exact Array.mem_toList_iff.2 (Array.getElem_mem hi))
    refine ⟨?_, ?_⟩
    · refine List.eq_nil_iff_forall_not_mem.2 fun i hi => ?_
      obtain ⟨h1, o, ho, _⟩ := mem_ready.1 hi
      exact hno i (Array.getElem?_eq_some_iff.1 ho).1 h1
    · obtain ⟨g, τ, R, H⟩ := I.rel
      exact fin listed a w g τ (notin listed I.size hno) R H
  | succ fuel ih =>
    intro listed a w I
    obtain ⟨g, τ, R, H⟩ := I.rel
    refine ⟨fun hnil => ?_, fun i hi => ?_⟩
    · -- nothing is ready: all is listed
      have key : ∀ i, i < ops.size → listed.getD i true ≠ false := fun i => by
        induction i using Nat.strongRecOn with
        | _ i ihi =>
          intro hi he
          have hm : i ∈ Region.ready .any ops listed := by
            refine mem_ready.2 ⟨he, ops[i], by simp [hi], fun e hem hb => ?_⟩
            have h1 := (hok i hi).1
            have : ops[i]? = some ops[i] := by simp [hi]
            rw [this] at h1
            simp only [List.all_eq_true] at h1
            have h2 := h1 e (Array.mem_toList_iff.2 hem)
            rw [hb] at h2
            have h3 : e.on < i := by simpa using h2
            have h4 := ihi e.on h3 (by omega)
            have h5 : e.on < listed.size := by rw [I.size]; omega
            simp [h5] at h4 ⊢
            exact h4
          rw [hnil] at hm
          cases hm
      exact fin listed a w g τ (notin listed I.size key) R H
    · obtain ⟨hun, o, ho, hall⟩ := mem_ready.1 hi
      have hilt : i < ops.size := (Array.getElem?_eq_some_iff.1 ho).1
      obtain ⟨q, hpi⟩ := hget i hilt
      obtain ⟨o', τi, ho', Hi, hstep⟩ := hsteps i q (by omega) hilt hpi
      rw [ho] at ho'
      simp only [Option.some.injEq] at ho'
      subst ho'
      have hls : i < listed.size := by rw [I.size]; exact hilt
      have hif : ¬ listed.getD i false = true := by simp [hls] at hun ⊢; exact hun
      have hsame : ∀ t ∈ o.looksAt ops, τ.tmp t = τi.tmp t := fun t ht => by
        by_cases hex : ∃ (j : Nat) (r : Nat × List E × SV), p[j]? = some r ∧ r.1 = t
        · obtain ⟨j, r, hj, rfl⟩ := hex
          have hlk : looksB ops i r.1 = true := by
            unfold looksB
            rw [ho]
            exact List.any_eq_true.2 ⟨r.1, ht, by simp⟩
          have hp2 := pair i j q r hpi hj
          simp only [hlk, Bool.not_true, Bool.false_or, Bool.and_eq_true] at hp2
          have hp2 := hp2.2
          have none' : ¬ listed.getD j false = true → ¬ j < i → τ.tmp r.1 = τi.tmp r.1 := fun n1 n2 => by
            rw [H.old r.1 fun k q' hk hL he => n1 (by rw [← hap k j q' r hk hj he]; exact hL), Hi.old r.1 fun k q' hk hL he => n2 (by rw [← hap k j q' r hk hj he]; exact hL)]
          cases hji : Nat.blt j i with
          | true =>
            rw [hji] at hp2
            have h1 := binding_ready hi hp2
            rw [H.new j r hj h1, Hi.new j r hj (Nat.le_of_ble_eq_true hji)]
          | false =>
            rw [hji] at hp2
            have hnlt : ¬ j < i := fun h => by
              have : Nat.blt j i = true := Nat.ble_eq_true_of_le h
              rw [this] at hji; cases hji
            simp only [cond_false, Bool.or_eq_true, beq_iff_eq] at hp2
            rcases hp2 with h1 | h1
            · subst h1; exact none' hif hnlt
            · exact none' (fun hl => hif (I.closed j i hl h1)) hnlt
        · rw [H.old t fun k q' hk _ he => hex ⟨k, q', hk, he⟩, Hi.old t fun k q' hk _ he => hex ⟨k, q', hk, he⟩]
      have hloc : qstep C.T CT ops τ o = some q := by
        rw [qstep_loc (fun y => by unfold SSt.obj; rw [H.objs, Hi.objs]) (by rw [H.len, Hi.len]) hsame, hstep]
      have hmq : q ∈ p := List.mem_of_getElem? hpi
      obtain ⟨d, cs, v⟩ := q
      have hk : s.obj (d * 64) = none := by have := hkey _ hmq; simpa only using this
      have hobj : τ.obj (d * 64) = s.obj (d * 64) := by unfold SSt.obj; rw [H.objs]
      have := qstep_sound R hCT hloc (hobj.trans hk) (hc (d, cs, v) hmq) (wpAny C.P .any ops Q fuel (listed.setIfInBounds i true)) Q fun a' w' g' R' => ih _ a' w' ?_
      · unfold wpOp
        simp only [ho]
        split at this
        · rename_i hw; rw [if_pos hw]; exact .inl this
        · rename_i hw; rw [if_neg hw]; exact this
      · have hset : ∀ j, (listed.setIfInBounds i true).getD j false = true ↔ listed.getD j false = true ∨ j = i := fun j => by
          by_cases e : i = j
          · subst e; simp [hls]
          · rw [getD_set_ne false e]
            exact ⟨.inl, fun h => h.resolve_right fun h => e h.symm⟩
        refine ⟨by simp [I.size], ?_, fun j k hj hb => ?_, g', _, R', H.step hap hpi (hd _ hmq) hset⟩
        · refine Nat.lt_succ_iff.1 (Nat.lt_of_lt_of_le ?_ I.fuel)
          have hb : listed.toList[i]'(by simpa using hls) = false := by simpa [hls] using hun
          have hpos : 0 < listed.toList.count false := List.count_pos_iff.2 (by rw [← hb]; exact List.getElem_mem _)
          rw [Array.toList_setIfInBounds, List.count_set (by simpa using hls), hb]
          show _ - 1 + 0 < _
          omega
        · rcases (hset j).1 hj with h1 | h1
          · exact (hset k).2 (.inl (I.closed j k h1 hb))
          · subst h1
            exact (hset k).2 (.inl (binding_ready hi hb))

/-- A region that draws. -/
theorem draw_sound {CT : Nat → Option Sig} (hCT : Told C.P Φ CT) (hm : C.P.follows .mixedOrders = true) {ops : Array Oper} {id : Nat} {Q : Exit → Act → World → Prop} {cs : List E} {s' : SSt} (R : Rel C g (s.den Φ env) a w)
    (h : drun C.T CT ops s = some (cs, s')) (hc : holds Φ env cs) (hQ : ∀ a' w' g', Rel C g' (s'.den Φ env) a' w' → Q .normal a' w') : (Code.region id ops true).wp C.P Q a w := by
  unfold drun at h
  split at h
  · rename_i p s1 hq
    obtain ⟨h1, h2⟩ := bif_some h
    clear h
    simp only [Option.some.injEq, Prod.mk.injEq] at h2
    obtain ⟨rfl, rfl⟩ := h2
    simp only [Bool.and_eq_true, List.all_eq_true] at h1
    obtain ⟨g1, R1⟩ := R.freeAll (dsts ops)
    have RR : Rel C g1 ((freeAll (dsts ops) s).den Φ env) a { w with drawn := w.drawn + 1 } := Rel.same (w := w) R1 rfl rfl rfl rfl
    have HH : Has (freeAll (dsts ops) s) p (fun i => (Array.replicate ops.size false).getD i false = true) (freeAll (dsts ops) s) :=
      ⟨rfl, rfl, fun j q _ hL => by by_cases hlt : j < ops.size <;> simp [hlt] at hL, fun _ _ => rfl⟩
    have I : Inv Φ env C (freeAll (dsts ops) s) ops p ops.size (Array.replicate ops.size false) a { w with drawn := w.drawn + 1 } := by
      refine ⟨by simp, by simp, fun i j hi => ?_, ⟨g1, _, RR, HH⟩⟩
      by_cases hlt : i < ops.size <;> simp [hlt] at hi
    refine wp_region_any hm (any_sound hCT hq h1.1 (fun q hm => ?_) (fun q hm => ?_) (fun q hm e he => hc e (List.mem_flatMap.2 ⟨q, hm, he⟩)) hQ _ _ _ _ I)
    · rw [freeAll_len]; exact Nat.le_of_ble_eq_true (h1.2 q hm).1
    · have := (h1.2 q hm).2
      split at this
      · rename_i hn; exact hn
      · cases this
  · cases h
end

end Go.Vx

/-
  Vx, part 31: a state fits a pattern.
-/
namespace Go.Vx
open Go.RowKit (Below)

/-! Terms in the place of variables. -/
mutual
def E.sub (n : Nat) (es : List E) : E → E
  | .var i => bif Nat.blt i n then .var i else es.getD (i - n) (.int 0)
  | .int i => .int i
  | .bool b => .bool b
  | .str s => .str s
  | .nl => .nl
  | .op o fs => .op o (E.subs n es fs)
def E.subs (n : Nat) (es : List E) : List E → List E
  | [] => []
  | f :: fs => E.sub n es f :: E.subs n es fs
end
def SC.sub (n : Nat) (es : List E) : SC → SC
  | .dat k e => .dat k (e.sub n es)
  | .nil t ks => .nil t ks
  | .ref x p => .ref x (p.map fun q => (q.1.sub n es, q.2.sub n es))
  | .dead => .dead
mutual
def SV.sub (n : Nat) (es : List E) : SV → SV
  | .one c => .one (c.sub n es)
  | .agg cs => .agg (cs.map (SC.sub n es))
  | .ptr x i j => .ptr x (i.sub n es) j
  | .pim ks e off => .pim ks (e.sub n es) off
  | .tup vs => .tup (SV.subs n es vs)
  | .whn c v => .whn (c.sub n es) (v.sub n es)
  | .dead => .dead
def SV.subs (n : Nat) (es : List E) : List SV → List SV
  | [] => []
  | v :: vs => v.sub n es :: SV.subs n es vs
end
def SOb.sub (n : Nat) (es : List E) : SOb → SOb
  | .box T cs => .box T (cs.map (SC.sub n es))
  | .arr e ks dp xs => .arr e ks dp (xs.sub n es)
  | .sealed e ks xs => .sealed e ks (xs.sub n es)
  | .gone => .gone
def SSt.sub (n : Nat) (es : List E) (s : SSt) : SSt := ⟨s.tmps.map (SV.sub n es), s.objs.map fun p => (p.1, p.2.sub n es)⟩

section
variable {Φ : Fns} {env : List D} {n : Nat} {es : List E}

def envOf (Φ : Fns) (env : List D) (n : Nat) (es : List E) : List D := env.take n ++ es.map (E.den Φ env)

theorem var_sub (hn : n ≤ env.length) (i : Nat) : ((E.var i).sub n es).den Φ env = (E.var i).den Φ (envOf Φ env n es) := by
  simp only [E.sub, E.den, envOf]
  have hl : (env.take n).length = n := by simp; omega
  cases h : Nat.blt i n with
  | true =>
    have hi : i < n := Nat.le_of_ble_eq_true h
    simp only [cond_true, E.den, List.getD_eq_getElem?_getD]
    rw [List.getElem?_append_left (by omega), List.getElem?_take_of_lt hi]
  | false =>
    have hi : n ≤ i := by
      rcases Nat.lt_or_ge i n with h' | h'
      · have : Nat.blt i n = true := Nat.ble_eq_true_of_le h'
        rw [this] at h; cases h
      · exact h'
    simp only [cond_false, List.getD_eq_getElem?_getD]
    rw [List.getElem?_append_right (by omega), hl, List.getElem?_map]
    cases es[i - n]? <;> rfl
mutual
theorem E.den_sub (hn : n ≤ env.length) : ∀ e : E, (e.sub n es).den Φ env = e.den Φ (envOf Φ env n es)
  | .var i => var_sub hn i
  | .int _ => rfl
  | .bool _ => rfl
  | .str _ => rfl
  | .nl => rfl
  | .op o fs => by simp only [E.sub, E.den, E.dens_sub hn fs]
theorem E.dens_sub (hn : n ≤ env.length) : ∀ fs : List E, E.dens Φ env (E.subs n es fs) = E.dens Φ (envOf Φ env n es) fs
  | [] => rfl
  | f :: fs => by simp only [E.subs, E.dens, E.den_sub hn f, E.dens_sub hn fs]
end
theorem SC.den_sub (hn : n ≤ env.length) (c : SC) : (c.sub n es).den Φ env = c.den Φ (envOf Φ env n es) := by
  cases c with
  | dat k e => simp only [SC.sub, SC.den, E.den_sub hn]
  | ref x p =>
    cases p with
    | none => rfl
    | some q => obtain ⟨a, b⟩ := q; simp only [SC.sub, SC.den, denP, Option.map_some, E.den_sub hn]
  | _ => rfl
theorem SC.dens_sub (hn : n ≤ env.length) (cs : List SC) : (cs.map (SC.sub n es)).map (SC.den Φ env) = cs.map (SC.den Φ (envOf Φ env n es)) := by
  simp [Function.comp_def, SC.den_sub hn]
mutual
theorem SV.den_sub (hn : n ≤ env.length) : ∀ v : SV, (v.sub n es).den Φ env = v.den Φ (envOf Φ env n es)
  | .one c => by simp only [SV.sub, SV.den, SC.den_sub hn]
  | .agg cs => by simp only [SV.sub, SV.den, SC.dens_sub hn]
  | .ptr x i j => by simp only [SV.sub, SV.den, E.den_sub hn]
  | .pim ks e off => by simp only [SV.sub, SV.den, E.den_sub hn]
  | .tup vs => by simp only [SV.sub, SV.den, SV.dens_sub hn vs]
  | .whn c v => by simp only [SV.sub, SV.den, E.den_sub hn, SV.den_sub hn v]
  | .dead => rfl
theorem SV.dens_sub (hn : n ≤ env.length) : ∀ vs : List SV, SV.dens Φ env (SV.subs n es vs) = SV.dens Φ (envOf Φ env n es) vs
  | [] => rfl
  | v :: vs => by simp only [SV.subs, SV.dens, SV.den_sub hn v, SV.dens_sub hn vs]
end
theorem SOb.den_sub (hn : n ≤ env.length) (o : SOb) : (o.sub n es).den Φ env = o.den Φ (envOf Φ env n es) := by
  cases o with
  | box T cs => simp only [SOb.sub, SOb.den, SC.dens_sub hn]
  | arr e ks dp xs => simp only [SOb.sub, SOb.den, E.den_sub hn]
  | «sealed» e ks xs => simp only [SOb.sub, SOb.den, E.den_sub hn]
  | gone => rfl
theorem SSt.den_sub (hn : n ≤ env.length) (s : SSt) : (s.sub n es).den Φ env = s.den Φ (envOf Φ env n es) := by
  simp only [SSt.den, SSt.sub, List.map_map, Function.comp_def, SV.den_sub hn, SOb.den_sub hn]
end

/-! What says less. -/
def eqP : Option (E × E) → Option (E × E) → Bool
  | none, none => true
  | some p, some q => E.eqb p.1 q.1 && E.eqb p.2 q.2
  | _, _ => false
def SC.eqb : SC → SC → Bool
  | .dat k e, .dat k' e' => K.eqb k k' && E.eqb e e'
  | .nil t ks, .nil t' ks' => t == t' && K.eqbs ks ks'
  | .ref z p, .ref z' p' => z == z' && eqP p p'
  | .dead, .dead => true
  | _, _ => false
def SC.eqbs : List SC → List SC → Bool
  | [], [] => true
  | c :: cs, d :: ds => c.eqb d && SC.eqbs cs ds
  | _, _ => false
def SC.le (a : SC) : SC → Bool
  | .dead => true
  | .dat k e => match a with
    | .nil t ks => K.eqb (.sl t ks) k && E.eqb .nl e
    | a => a.eqb (.dat k e)
  | b => a.eqb b
def SC.les : List SC → List SC → Bool
  | [], [] => true
  | c :: cs, d :: ds => c.le d && SC.les cs ds
  | _, _ => false
mutual
def SV.le : SV → SV → Bool
  | _, .dead => true
  | .one c, .one d => c.le d
  | .agg cs, .agg ds => SC.les cs ds
  | .ptr z i j, .ptr z' i' j' => z == z' && E.eqb i i' && j == j'
  | .pim ks e o, .pim ks' e' o' => K.eqbs ks ks' && E.eqb e e' && o == o'
  | .tup us, .tup vs => SV.lesV us vs
  | .whn c u, .whn c' v => E.eqb c c' && u.le v
  | _, _ => false
def SV.lesV : List SV → List SV → Bool
  | [], [] => true
  | u :: us, v :: vs => u.le v && SV.lesV us vs
  | _, _ => false
end
def SOb.eqb : SOb → SOb → Bool
  | .box T cs, .box T' cs' => T == T' && SC.eqbs cs cs'
  | .arr t ks dp e, .arr t' ks' dp' e' => t == t' && K.eqbs ks ks' && dp == dp' && E.eqb e e'
  | .sealed t ks e, .sealed t' ks' e' => t == t' && K.eqbs ks ks' && E.eqb e e'
  | .gone, .gone => true
  | _, _ => false
def oeq : Option SOb → Option SOb → Bool
  | none, none => true
  | some a, some b => a.eqb b
  | _, _ => false
def lesT : List SV → List SV → Bool
  | [], [] => true
  | a :: as, b :: bs => a.le b && lesT as bs
  | _, _ => false
def SSt.le (s s' : SSt) : Bool := lesT s.tmps s'.tmps && (s.objs.all fun p => oeq (s.obj p.1) (s'.obj p.1)) && s'.objs.all fun p => oeq (s.obj p.1) (s'.obj p.1)

theorem eqP_eq {p q : Option (E × E)} (h : eqP p q = true) : p = q := by
  cases p with
  | none => cases q <;> simp_all [eqP]
  | some p =>
    cases q with
    | none => simp [eqP] at h
    | some q =>
      simp only [eqP, Bool.and_eq_true] at h
      obtain ⟨a, b⟩ := p
      obtain ⟨c, d⟩ := q
      rw [show a = c from E.eqb_eq h.1, show b = d from E.eqb_eq h.2]
theorem SC.eqb_eq {a b : SC} (h : a.eqb b = true) : a = b := by
  cases a <;> cases b <;> simp only [SC.eqb, Bool.false_eq_true, Bool.and_eq_true, beq_iff_eq] at h
  · rw [K.eqb_eq h.1, E.eqb_eq h.2]
  · rw [h.1, K.eqbs_eq h.2]
  · rw [h.1, eqP_eq h.2]
  · rfl
theorem SC.eqbs_eq : ∀ {a b : List SC}, SC.eqbs a b = true → a = b
  | [], b, h => by cases b <;> simp_all [SC.eqbs]
  | c :: cs, b, h => by
    cases b with
    | nil => simp [SC.eqbs] at h
    | cons d ds =>
      simp only [SC.eqbs, Bool.and_eq_true] at h
      rw [SC.eqb_eq h.1, SC.eqbs_eq h.2]
theorem SOb.eqb_eq {a b : SOb} (h : a.eqb b = true) : a = b := by
  cases a <;> cases b <;> simp only [SOb.eqb, Bool.false_eq_true, Bool.and_eq_true, beq_iff_eq] at h
  · rw [h.1, SC.eqbs_eq h.2]
  · rw [h.1.1.1, K.eqbs_eq h.1.1.2, h.1.2, E.eqb_eq h.2]
  · rw [h.1.1, K.eqbs_eq h.1.2, E.eqb_eq h.2]
  · rfl
theorem oeq_eq {a b : Option SOb} (h : oeq a b = true) : a = b := by
  cases a <;> cases b <;> simp only [oeq, Bool.false_eq_true] at h
  · rfl
  · rw [SOb.eqb_eq h]

section
variable {Φ : Fns} {env : List D} {C : Cx} {g : Gh} {s s' : SSt} {a : Act} {w : World}

theorem Rel.retmps' {σ σ' : St} (R : Rel C g σ a w) (hob : ∀ x, σ'.obj x = σ.obj x) (hl : σ'.tmps.length = σ.tmps.length) (ht : ∀ t v, RepAV (sur C g σ w) (σ.tmp t) v → RepAV (sur C g σ w) (σ'.tmp t) v) : Rel C g σ' a w := by
  have hs := sur_eq (C := C) (g := g) (w := w) hob
  exact ⟨R.defers, R.size, by rw [hl]; exact R.len, fun t => by rw [hs]; exact ht t _ (R.tmps t), fun x => by rw [hs]; exact R.objs x, R.own, R.apart, R.alw, R.fr⟩

theorem SC.le_rep {S : Sur} {c d : SC} (h : c.le d = true) {v : Value} (hv : RepAC S (c.den Φ env) v) : RepAC S (d.den Φ env) v := by
  cases d with
  | dead => trivial
  | dat k e =>
    cases c with
    | nil t ks =>
      simp only [SC.le, Bool.and_eq_true] at h
      have h1 := K.eqb_eq h.1
      have h2 := E.eqb_eq h.2
      subst h1
      subst h2
      exact hv.dn
    | _ => simp only [SC.le] at h; rw [← SC.eqb_eq h]; exact hv
  | _ => rw [← SC.eqb_eq h]; exact hv
theorem SC.les_rep {S : Sur} : ∀ {cs ds : List SC}, SC.les cs ds = true → ∀ {vs : List Value}, RepACs S (cs.map (SC.den Φ env)) vs → RepACs S (ds.map (SC.den Φ env)) vs
  | [], ds, h, vs, hv => by cases ds <;> simp_all [SC.les]
  | c :: cs, ds, h, vs, hv => by
    cases ds with
    | nil => simp [SC.les] at h
    | cons d ds =>
      simp only [SC.les, Bool.and_eq_true] at h
      obtain ⟨v, vs', e, o, h1, h2⟩ := hv
      exact ⟨v, vs', e, o, SC.le_rep h.1 h1, SC.les_rep h.2 h2⟩
mutual
theorem SV.le_rep {S : Sur} : ∀ {u u' : SV}, u.le u' = true → ∀ {v : Value}, RepAV S (u.den Φ env) v → RepAV S (u'.den Φ env) v
  | u, .dead, _, _, _ => trivial
  | .one c, .one d, h, v, hv => by simp only [SV.le] at h; exact ⟨SC.le_rep h hv.1, hv.2⟩
  | .agg cs, .agg ds, h, v, hv => by
    simp only [SV.le] at h
    obtain ⟨vs, e, hv⟩ := hv
    exact ⟨vs, e, SC.les_rep h hv⟩
  | .ptr z i j, .ptr z' i' j', h, v, hv => by
    simp only [SV.le, Bool.and_eq_true, beq_iff_eq] at h
    rw [← h.1.1, ← E.eqb_eq h.1.2, ← h.2]; exact hv
  | .pim ks e o, .pim ks' e' o', h, v, hv => by
    simp only [SV.le, Bool.and_eq_true, beq_iff_eq] at h
    rw [← K.eqbs_eq h.1.1, ← E.eqb_eq h.1.2, ← h.2]; exact hv
  | .tup us, .tup us', h, v, hv => by
    simp only [SV.le] at h
    obtain ⟨vs, e, hv⟩ := hv
    exact ⟨vs, e, SV.lesV_rep h hv⟩
  | .whn c u, .whn c' u', h, v, hv => by
    simp only [SV.le, Bool.and_eq_true] at h
    rw [← E.eqb_eq h.1]
    exact ⟨fun hc => SV.le_rep h.2 (hv.1 hc), hv.2⟩
  | .one _, .agg _, h, _, _ | .one _, .ptr .., h, _, _ | .one _, .pim .., h, _, _ | .one _, .tup _, h, _, _ | .one _, .whn .., h, _, _ => by simp [SV.le] at h
  | .agg _, .one _, h, _, _ | .agg _, .ptr .., h, _, _ | .agg _, .pim .., h, _, _ | .agg _, .tup _, h, _, _ | .agg _, .whn .., h, _, _ => by simp [SV.le] at h
  | .ptr .., .one _, h, _, _ | .ptr .., .agg _, h, _, _ | .ptr .., .pim .., h, _, _ | .ptr .., .tup _, h, _, _ | .ptr .., .whn .., h, _, _ => by simp [SV.le] at h
  | .pim .., .one _, h, _, _ | .pim .., .agg _, h, _, _ | .pim .., .ptr .., h, _, _ | .pim .., .tup _, h, _, _ | .pim .., .whn .., h, _, _ => by simp [SV.le] at h
  | .tup _, .one _, h, _, _ | .tup _, .agg _, h, _, _ | .tup _, .ptr .., h, _, _ | .tup _, .pim .., h, _, _ | .tup _, .whn .., h, _, _ => by simp [SV.le] at h
  | .whn .., .one _, h, _, _ | .whn .., .agg _, h, _, _ | .whn .., .ptr .., h, _, _ | .whn .., .pim .., h, _, _ | .whn .., .tup _, h, _, _ => by simp [SV.le] at h
  | .dead, .one _, h, _, _ | .dead, .agg _, h, _, _ | .dead, .ptr .., h, _, _ | .dead, .pim .., h, _, _ | .dead, .tup _, h, _, _ | .dead, .whn .., h, _, _ => by simp [SV.le] at h
theorem SV.lesV_rep {S : Sur} : ∀ {us us' : List SV}, SV.lesV us us' = true → ∀ {vs : List Value}, RepAVs S (SV.dens Φ env us) vs → RepAVs S (SV.dens Φ env us') vs
  | [], [], _, _, hv => hv
  | u :: us, u' :: us', h, vs, hv => by
    simp only [SV.lesV, Bool.and_eq_true] at h
    obtain ⟨v, vs', e, h1, h2⟩ := hv
    exact ⟨v, vs', e, SV.le_rep h.1 h1, SV.lesV_rep h.2 h2⟩
  | [], _ :: _, h, _, _ => by simp [SV.lesV] at h
  | _ :: _, [], h, _, _ => by simp [SV.lesV] at h
end

theorem lesT_get : ∀ {as bs : List SV}, lesT as bs = true → as.length = bs.length ∧ ∀ t : Nat, (as.getD t .dead).le (bs.getD t .dead) = true
  | [], [], _ => ⟨rfl, fun t => by simp [SV.le]⟩
  | [], _ :: _, h => by simp [lesT] at h
  | _ :: _, [], h => by simp [lesT] at h
  | a :: as, b :: bs, h => by
    simp only [lesT, Bool.and_eq_true] at h
    have ih := lesT_get h.2
    refine ⟨by simp [ih.1], fun t => ?_⟩
    cases t with
    | zero => exact h.1
    | succ t => simpa using ih.2 t

theorem slook_notin {x : Nat} : ∀ {l : List (Nat × SOb)}, (∀ p ∈ l, p.1 ≠ x) → slook x l = none
  | [], _ => rfl
  | (y, o) :: l, h => by
    have h1 : (x == y) = false := by
      have := h (y, o) (by simp)
      simp only [beq_eq_false_iff_ne, ne_eq]
      exact fun e => this e.symm
    simp only [slook, h1, cond_false]
    exact slook_notin fun p hp => h p (by simp [hp])

theorem Rel.le (R : Rel C g (s.den Φ env) a w) (h : s.le s' = true) : Rel C g (s'.den Φ env) a w := by
  simp only [SSt.le, Bool.and_eq_true, List.all_eq_true] at h
  obtain ⟨⟨h1, h2⟩, h3⟩ := h
  have hob : ∀ x, s.obj x = s'.obj x := fun x => by
    by_cases e1 : ∃ p, p ∈ s.objs ∧ p.1 = x
    · obtain ⟨p, hp, rfl⟩ := e1; exact oeq_eq (h2 p hp)
    · by_cases e2 : ∃ p, p ∈ s'.objs ∧ p.1 = x
      · obtain ⟨p, hp, rfl⟩ := e2; exact oeq_eq (h3 p hp)
      · rw [SSt.obj, SSt.obj, slook_notin fun p hp he => e1 ⟨p, hp, he⟩, slook_notin fun p hp he => e2 ⟨p, hp, he⟩]
  obtain ⟨hl, ht⟩ := lesT_get h1
  refine R.retmps' (fun x => by rw [SSt.den_obj, SSt.den_obj, hob]) (by simp [SSt.den, hl]) fun t v hv => ?_
  rw [SSt.den_tmp] at hv ⊢
  exact SV.le_rep (ht t) hv

/-! The nil slice as an array of its own. -/
def nilOne (s : SSt) (t key : Nat) : SSt := match s.tmp t, s.obj key with
  | .one (.nil e ks), none => (s.setO key (.arr e ks true .nl)).setT t (.one (.ref key none))
  | _, _ => s
theorem Rel.nilArr' {σ : St} (R : Rel C g σ a w) {x : Nat} (hx : σ.obj x = none) (e : TypeId) (ks : List K) (dp : Bool) : Rel C (g.upd x (.slice none 0 0) []) (σ.setO x (.arr e ks dp [])) a w := by
  refine R.grow (Below.refl _ _) hx (fun b hb => by simp [blkOf] at hb) (by simp) (fun b hb => by simp at hb) ?_
  unfold RepOb
  simp only [sur, St.obj_setO, if_pos, Gh.upd, upd_eq]
  exact ⟨[], [], World.ownsRow_nil _ _ _ _, by simp [lenMax], rfl, rfl, rfl, fun i row vs f h => by simp at h⟩
theorem Rel.nilOne (R : Rel C g (s.den Φ env) a w) (t key : Nat) : ∃ g', Rel C g' ((nilOne s t key).den Φ env) a w := by
  unfold Vx.nilOne
  split
  · rename_i e ks ht hk
    have R1 := R.nilArr' (x := key) (by rw [SSt.den_obj, hk]; rfl) e ks true
    have e1 : (s.den Φ env).setO key (.arr e ks true []) = (s.setO key (.arr e ks true .nl)).den Φ env := by rw [SSt.den_setO]; rfl
    rw [e1] at R1
    have htl : t < (s.setO key (.arr e ks true .nl)).tmps.length := by
      rcases Nat.lt_or_ge t s.tmps.length with h | h
      · exact h
      · simp [SSt.tmp, List.getD_eq_getElem?_getD, List.getElem?_eq_none h] at ht
    refine ⟨_, R1.retmps' (fun x => ?_) (by simp [SSt.den, SSt.setT]) fun u v hv => ?_⟩
    · rw [SSt.den_setT]; rfl
    · rw [SSt.den_tmp] at hv ⊢
      rw [tmp_setT htl]
      by_cases hu : u = t
      · subst hu
        rw [if_pos rfl]
        have hv : RepAV _ ((s.tmp u).den Φ env) v := hv
        rw [ht] at hv
        refine ⟨?_, hv.2⟩
        have hv1 : v = .slice none 0 0 := hv.1
        show RefRep _ key none v
        unfold RefRep
        rw [← e1]
        simp only [sur, St.obj_setO, if_true, Gh.upd, upd_eq]
        exact ⟨trivial, hv1⟩
      · rw [if_neg hu]; exact hv
  · exact ⟨g, R⟩
def nilAll (s : SSt) : List (Nat × Nat) → SSt
  | [] => s
  | (t, key) :: l => nilAll (nilOne s t key) l
theorem Rel.nilAll : ∀ (l : List (Nat × Nat)) {g : Gh} {s : SSt}, Rel C g (s.den Φ env) a w → ∃ g', Rel C g' ((nilAll s l).den Φ env) a w
  | [], g, s, R => ⟨g, R⟩
  | (t, key) :: l, g, s, R => by
    obtain ⟨g1, R1⟩ := R.nilOne t key
    exact Rel.nilAll l R1

/-- The rows of an array own no longer what they hold. -/
theorem Rel.undeep {σ : St} (R : Rel C g σ a w) {y : Nat} {e : TypeId} {ks : List K} {xs : List (List D)} (hy : σ.obj y = some (.arr e ks true xs)) :
    Rel C (g.upd y (g.hd y) (g.hd y).ownBlock.toList) (σ.setO y (.arr e ks false xs)) a w := by
  have hhd : ∀ z, (g.upd y (g.hd y) (g.hd y).ownBlock.toList).hd z = g.hd z := fun z => by
    by_cases h : z = y
    · subst h; simp [Gh.upd, upd_eq]
    · simp [Gh.upd, upd_ne _ _ h]
  have hfp : ∀ z b, b ∈ (g.upd y (g.hd y) (g.hd y).ownBlock.toList).fp z → b ∈ g.fp z := fun z b hb => by
    by_cases h : z = y
    · subst h
      obtain ⟨_, _, _, _, _, _, h5, _⟩ := R.arrAll hy
      simp only [Gh.upd, upd_eq] at hb
      rw [h5]; simp only [List.mem_append]; exact .inl hb
    · simpa [Gh.upd, upd_ne _ _ h] using hb
  have hlive : ∀ z, Ob.live ((σ.setO y (.arr e ks false xs)).obj z) = Ob.live (σ.obj z) := fun z => by
    rw [St.obj_setO]
    split
    · rename_i h; subst h; rw [hy]; rfl
    · rfl
  have hme : ∀ b o, Me C.M (σ.setO y (.arr e ks false xs)).obj (g.upd y (g.hd y) (g.hd y).ownBlock.toList).hd b o → Me C.M σ.obj g.hd b o := fun b o hm => by
    rcases hm with hm | ⟨z, hl, hb⟩
    · exact .inl hm
    · exact .inr ⟨z, by rw [← hlive z]; exact hl, by rw [← hhd z]; exact hb⟩
  have hk : Keeps w (Me C.M σ.obj g.hd) w (Me C.M (σ.setO y (.arr e ks false xs)).obj (g.upd y (g.hd y) (g.hd y).ownBlock.toList).hd) := fun b o v hc hn => ⟨hc, fun hm => hn (hme b o hm)⟩
  have hs : Shift (sur C g σ w) (sur C (g.upd y (g.hd y) (g.hd y).ownBlock.toList) (σ.setO y (.arr e ks false xs)) w) := by
    refine ⟨hk, fun x p v hr => ?_, fun x i j v hp => ?_⟩
    · unfold RefRep at hr ⊢
      simp only [sur, hhd, St.obj_setO] at hr ⊢
      by_cases hx : x = y
      · subst hx
        rw [if_pos rfl]
        rw [hy] at hr
        exact hr
      · rw [if_neg hx]
        cases he : σ.obj x with
        | none => rw [he] at hr; exact hr
        | some q =>
          rw [he] at hr
          cases q with
          | «sealed» e ks xs => exact ⟨hr.1, hr.2.keeps hk⟩
          | _ => exact hr
    · unfold PtrRep at hp ⊢
      simp only [sur, hhd, St.obj_setO] at hp ⊢
      by_cases hx : x = y
      · subst hx
        rw [if_pos rfl]
        rw [hy] at hp
        exact hp
      · rw [if_neg hx]; exact hp
  refine R.move rfl hs (fun z => ?_) (fun z => ?_) (fun z z' hne b hb hb' => R.apart z z' hne b (hfp z b hb) (hfp z' b hb')) (fun z b hb => R.alw z b (hfp z b hb)) R.fr
  · by_cases hz : z = y
    · subst hz
      obtain ⟨vss, fps, h1, h2, h3, h4, h5, hlen, h6⟩ := R.arrAll hy
      unfold RepOb
      simp only [sur, St.obj_setO, if_true, hhd]
      refine ⟨vss, List.replicate xs.length [], h1, h2, h3, by simp, by simp [Gh.upd, upd_eq], fun i row vs f e1 e2 e3 => ?_⟩
      have hi := (List.getElem?_eq_some_iff.1 e2).1
      have hf : fps[i]? = some fps[i] := List.getElem?_eq_getElem (by omega)
      simp only [Bool.false_eq_true, if_false]
      exact ⟨(h6 i row vs _ e1 e2 hf).1.keeps hk, (List.mem_replicate.1 (List.mem_of_getElem? e3)).2⟩
    · refine (R.objs z).shift hs ?_ (hhd z) ?_ fun b _ => rfl
      · simp [sur, St.obj_setO, hz]
      · simp [Gh.upd, upd_ne _ _ hz]
  · by_cases hz : z = y
    · subst hz
      obtain ⟨_, _, _, _, _, _, h5, _⟩ := R.arrAll hy
      have := R.own z
      rw [h5] at this
      simpa [Gh.upd, upd_eq] using (List.nodup_append.1 this).1
    · simpa [Gh.upd, upd_ne _ _ hz] using R.own z
def undeepOne (s : SSt) (y : Nat) : SSt := match s.obj y with
  | some (.arr e ks true xs) => s.setO y (.arr e ks false xs)
  | _ => s
theorem Rel.undeepOne (R : Rel C g (s.den Φ env) a w) (y : Nat) : ∃ g', Rel C g' ((undeepOne s y).den Φ env) a w := by
  unfold Vx.undeepOne
  split
  · rename_i e ks xs hy
    have := R.undeep (obj_is (Φ := Φ) (env := env) hy)
    have e1 : (s.setO y (.arr e ks false xs)).den Φ env = (s.den Φ env).setO y (.arr e ks false (xs.den Φ env).asList) := by rw [SSt.den_setO]; rfl
    exact ⟨g.upd y (g.hd y) (g.hd y).ownBlock.toList, by rw [e1]; exact this⟩
  · exact ⟨g, R⟩
def undeepAll (s : SSt) : List Nat → SSt
  | [] => s
  | y :: l => undeepAll (undeepOne s y) l
theorem Rel.undeepAll : ∀ (l : List Nat) {g : Gh} {s : SSt}, Rel C g (s.den Φ env) a w → ∃ g', Rel C g' ((undeepAll s l).den Φ env) a w
  | [], g, s, R => ⟨g, R⟩
  | y :: l, g, s, R => by
    obtain ⟨g1, R1⟩ := R.undeepOne y
    exact Rel.undeepAll l R1

/-! Other names. -/
def klook (x : Nat) : List (Nat × Nat) → Option Nat
  | [] => none
  | (y, z) :: l => bif x == y then some z else klook x l
def rlook (x : Nat) : List (Nat × Nat) → Option Nat
  | [] => none
  | (y, z) :: l => bif x == z then some y else rlook x l
def renObjs (s : SSt) (m : Nat → Option Nat) : List (Nat × Nat) → Option (List (Nat × SOb))
  | [] => some []
  | (x, y) :: l => match s.obj x, renObjs s m l with
    | some o, some r => some ((y, o.mapK m) :: r)
    | _, _ => none
def isN (x : Option Nat) (n : Nat) : Bool := match x with
  | some m => m == n
  | none => false
def SSt.ren (ps : List (Nat × Nat)) (s : SSt) : Option SSt :=
  bif ps.all fun p => isN (klook p.1 ps) p.2 && isN (rlook p.2 ps) p.1 then match renObjs s (fun x => klook x ps) ps with
    | some r => some ⟨s.tmps.map (SV.mapK fun x => klook x ps), r⟩
    | none => none
  else none

theorem klook_mem {x y : Nat} : ∀ {l : List (Nat × Nat)}, klook x l = some y → (x, y) ∈ l
  | [], h => by simp [klook] at h
  | (u, v) :: l, h => by
    simp only [klook] at h
    cases hx : x == u with
    | true =>
      rw [hx] at h
      simp only [cond_true, Option.some.injEq] at h
      have : x = u := by simpa using hx
      subst this; subst h; simp
    | false => rw [hx] at h; exact List.mem_cons_of_mem _ (klook_mem h)
theorem rlook_mem {x y : Nat} : ∀ {l : List (Nat × Nat)}, rlook y l = some x → (x, y) ∈ l
  | [], h => by simp [rlook] at h
  | (u, v) :: l, h => by
    simp only [rlook] at h
    cases hx : y == v with
    | true =>
      rw [hx] at h
      simp only [cond_true, Option.some.injEq] at h
      have : y = v := by simpa using hx
      subst this; subst h; simp
    | false => rw [hx] at h; exact List.mem_cons_of_mem _ (rlook_mem h)
theorem isN_eq {x : Option Nat} {n : Nat} (h : isN x n = true) : x = some n := by
  cases x <;> simp_all [isN]
theorem renObjs_look {m : Nat → Option Nat} : ∀ {l : List (Nat × Nat)} {r : List (Nat × SOb)}, renObjs s m l = some r → ∀ y, slook y r = match rlook y l with | some x => (s.obj x).map (SOb.mapK m) | none => none
  | [], r, h, y => by simp only [renObjs, Option.some.injEq] at h; subst h; rfl
  | (x, z) :: l, r, h, y => by
    simp only [renObjs] at h
    split at h
    · rename_i o r' h1 h2
      simp only [Option.some.injEq] at h
      subst h
      simp only [slook, rlook]
      cases hy : y == z with
      | true => simp only [cond_true, h1, Option.map_some]
      | false => simp only [cond_false]; exact renObjs_look h2 y
    · cases h

theorem Rel.reN (R : Rel C g (s.den Φ env) a w) {ps : List (Nat × Nat)} (h : s.ren ps = some s') : ∃ g', Rel C g' (s'.den Φ env) a w := by
  unfold SSt.ren at h
  obtain ⟨h1, h2⟩ := bif_some h
  clear h
  simp only [List.all_eq_true, Bool.and_eq_true] at h1
  split at h2
  · rename_i r hr
    simp only [Option.some.injEq] at h2
    subst h2
    refine ⟨_, R.ren (m := fun x => klook x ps) (n := fun y => rlook y ps) ⟨fun x y e => ?_, fun x y e => ?_, fun y => ?_⟩ ?_⟩
    · exact isN_eq (h1 _ (klook_mem e)).2
    · exact isN_eq (h1 _ (rlook_mem e)).1
    · rw [SSt.den_obj, SSt.obj, renObjs_look hr]
      cases rlook y ps with
      | none => rfl
      | some x =>
        simp only [SSt.den_obj]
        cases s.obj x with
        | none => rfl
        | some o => simp [SOb.den_mapK]
    · simp [SSt.den, Function.comp_def, SV.den_mapK]
  · cases h2

/-! The fit. -/
def nilsOf : Nat → List SV → List SV → List (Nat × Nat)
  | t, .one (.ref _ none) :: ps, .one (.nil _ _) :: vs => (t, 64000000 + t) :: nilsOf (t + 1) ps vs
  | t, _ :: ps, _ :: vs => nilsOf (t + 1) ps vs
  | _, _, _ => []
def pairC : SC → SC → List (Nat × Nat)
  | .ref k _, .ref k' _ => [(k', k)]
  | _, _ => []
def pairCs : List SC → List SC → List (Nat × Nat)
  | c :: cs, d :: ds => pairC c d ++ pairCs cs ds
  | _, _ => []
def pairV : SV → SV → List (Nat × Nat)
  | .one c, .one d => pairC c d
  | .agg cs, .agg ds => pairCs cs ds
  | .ptr k _ _, .ptr k' _ _ => [(k', k)]
  | _, _ => []
def pairVs : List SV → List SV → List (Nat × Nat)
  | v :: vs, u :: us => pairV v u ++ pairVs vs us
  | _, _ => []
def dedup : List (Nat × Nat) → List (Nat × Nat)
  | [] => []
  | p :: l => bif l.any fun q => q.1 == p.1 && q.2 == p.2 then dedup l else p :: dedup l
def pairB (H s : SSt) (l : List (Nat × Nat)) : List (Nat × Nat) := l.flatMap fun p => match H.obj p.2, s.obj p.1 with
  | some (.box _ cs), some (.box _ ds) => pairCs cs ds
  | _, _ => []
def pairsOf (H s : SSt) : List (Nat × Nat) :=
  let l := pairVs H.tmps s.tmps
  let l2 := dedup (l ++ pairB H s l)
  dedup (l2 ++ pairB H s l2)

def grabC (v : Nat) : SC → SC → Option E
  | .dat _ (.var i), .dat _ e => bif i == v then some e else none
  | .dat _ (.var i), .nil _ _ => bif i == v then some .nl else none
  | _, _ => none
def orE : Option E → Option E → Option E
  | some e, _ => some e
  | none, x => x
def grabCs (v : Nat) : List SC → List SC → Option E
  | c :: cs, d :: ds => orE (grabC v c d) (grabCs v cs ds)
  | _, _ => none
def grabV (v : Nat) : SV → SV → Option E
  | .one c, .one d => grabC v c d
  | .agg cs, .agg ds => grabCs v cs ds
  | _, _ => none
def grabVs (v : Nat) : List SV → List SV → Option E
  | c :: cs, d :: ds => orE (grabV v c d) (grabVs v cs ds)
  | _, _ => none
def grabO (v : Nat) : SOb → Option SOb → Option E
  | .arr _ _ _ (.var i), some (.arr _ _ _ e) => bif i == v then some e else none
  | .sealed _ _ (.var i), some (.sealed _ _ e) => bif i == v then some e else none
  | .box _ cs, some (.box _ ds) => grabCs v cs ds
  | _, _ => none
def grabOs (v : Nat) (s : SSt) : List (Nat × SOb) → Option E
  | [] => none
  | (k, o) :: l => orE (grabO v o (s.obj k)) (grabOs v s l)
def grab (v : Nat) (H s : SSt) : E := (orE (grabVs v H.tmps s.tmps) (grabOs v s H.objs)).getD (.int 0)

def flatOf (H s : SSt) (l : List (Nat × Nat)) : List Nat := l.flatMap fun p => match H.obj p.2, s.obj p.1 with
  | some (.arr _ _ false _), some (.arr _ _ true _) => [p.1]
  | _, _ => []
def fit (n m : Nat) (H s : SSt) : Option (List E) :=
  let s1 := nilAll s (nilsOf 0 H.tmps s.tmps)
  let ps := pairsOf H s1
  match (undeepAll s1 (flatOf H s1 ps)).ren ps with
  | some s2 =>
    let es := (List.range m).map fun i => grab (n + i) H s2
    bif s2.le (H.sub n es) then some es else none
  | none => none

theorem fit_sound (R : Rel C g (s.den Φ env) a w) {n m : Nat} {H : SSt} {es : List E} (hn : n ≤ env.length) (h : fit n m H s = some es) :
    es.length = m ∧ ∃ g', Rel C g' (H.den Φ (envOf Φ env n es)) a w := by
  unfold fit at h
  simp only at h
  split at h
  · rename_i s2 h2
    obtain ⟨h3, h4⟩ := bif_some h
    clear h
    simp only [Option.some.injEq] at h4
    subst h4
    obtain ⟨g1, R1⟩ := R.nilAll (nilsOf 0 H.tmps s.tmps)
    obtain ⟨g3, R3⟩ := R1.undeepAll (flatOf H (nilAll s (nilsOf 0 H.tmps s.tmps)) (pairsOf H (nilAll s (nilsOf 0 H.tmps s.tmps))))
    obtain ⟨g2, R2⟩ := R3.reN h2
    refine ⟨by simp, g2, ?_⟩
    have := R2.le h3
    rwa [SSt.den_sub hn] at this
  · cases h
end

end Go.Vx

/-
  Vx, part 32: what a function returns.
-/
namespace Go.Vx
open Go.RowKit (Below)

def resS (tmps : Array Value) : ResultVar → Sem Value
  | .tmp t => pure (tmps.getD t undef)
  | .cell x t => do loadVar t (← asAddr (tmps.getD x undef))
theorem results_eq (fn : Func) (tmps : Array Value) : results fn tmps = (do
  let vs ← fn.results.mapM (resS tmps)
  pure (if h : vs.size = 1 then vs[0] else .tuple vs)) := rfl

/-- A result variable. -/
def resV (T : TypeId → TI) (s : SSt) : ResultVar → Option SV
  | .tmp t => some (s.tmp t)
  | .cell x t => bif (T t).ok then match s.tmp x with
    | .ptr y _ j => match s.obj y with
      | some (.box _ cs) => bif Nat.ble (j + (T t).ks.length) cs.length then some (smkA (T t).agg ((cs.drop j).take (T t).ks.length)) else none
      | _ => none
    | _ => none
    else none
def resVs (T : TypeId → TI) (s : SSt) : List ResultVar → Option (List SV)
  | [] => some []
  | r :: rs => match resV T s r, resVs T s rs with
    | some v, some vs => some (v :: vs)
    | _, _ => none

def finC (s : SSt) : RC → SC → Option (E × List Nat × List Nat)
  | .im k, .dat k' e => bif K.eqb k' k then some (e, [], []) else none
  | .im k, .nil t ks => bif K.eqb (.sl t ks) k then some (.nl, [], []) else none
  | .im k, .ref z p => match s.obj z with
    | some (.arr t ks _ xs) => bif K.eqb (.sl t ks) k then some (scut xs p, [], [z]) else none
    | some (.sealed t ks xs) => bif K.eqb (.sl t ks) k then some (scut xs p, [], []) else none
    | _ => none
  | .own t ks _, .nil t' ks' => bif t == t' && K.eqbs ks ks' then some (.nl, [], []) else none
  | .own t ks dp, .ref z none => match s.obj z with
    | some (.arr t' ks' dp' xs) => bif (t == t' && K.eqbs ks ks') && dp == dp' then some (xs, [z], []) else none
    | _ => none
  | _, _ => none
def finCs (s : SSt) : List RC → List SC → Option (List E × List Nat × List Nat)
  | [], [] => some ([], [], [])
  | r :: rs, c :: cs => match finC s r c, finCs s rs cs with
    | some (e, o, q), some (es, os, qs) => some (e :: es, o ++ os, q ++ qs)
    | _, _ => none
  | _, _ => none
def finV : List RSh → List SV → Option (List SC)
  | [], [] => some []
  | .one _ :: rs, .one c :: vs => (finV rs vs).map (c :: ·)
  | .agg ks :: rs, .agg cs :: vs => bif ks.length == cs.length then (finV rs vs).map (cs ++ ·) else none
  | _, _ => none
def nodupB : List Nat → Bool
  | [] => true
  | x :: l => (l.all fun y => !(y == x)) && nodupB l
def fin (T : TypeId → TI) (rv : List ResultVar) (rets : List RSh) (s : SSt) : Option (List E) :=
  match resVs T s rv with
  | some vs => match finV rets vs with
    | some cs => match finCs s (rets.flatMap RSh.cells) cs with
      | some (es, os, qs) => bif nodupB (os ++ qs) then some es else none
      | none => none
    | none => none
  | none => none

theorem nodupB_iff : ∀ {l : List Nat}, nodupB l = true → l.Nodup
  | [], _ => List.nodup_nil
  | x :: l, h => by
    simp only [nodupB, Bool.and_eq_true, List.all_eq_true, Bool.not_eq_true', beq_eq_false_iff_ne] at h
    exact List.nodup_cons.2 ⟨fun hm => h.1 x hm rfl, nodupB_iff h.2⟩

section
variable {Φ : Fns} {env : List D} {C : Cx} {g : Gh} {s : SSt} {a : Act} {w : World}

theorem resV_run (R : Rel C g (s.den Φ env) a w) {r : ResultVar} {u : SV} (h : resV C.T s r = some u) : ∃ v, (resS a.tmps r).run C.P w = .ok v w ∧ RepAV (sur C g (s.den Φ env) w) (u.den Φ env) v := by
  cases r with
  | tmp t =>
    simp only [resV, Option.some.injEq] at h
    subst h
    have := R.tmps t
    rw [SSt.den_tmp] at this
    exact ⟨_, rfl, this⟩
  | cell x t =>
    simp only [resV] at h
    obtain ⟨ht, h2⟩ := bif_some h
    clear h
    split at h2
    · rename_i y i j hx
      split at h2
      · rename_i T cs hy
        obtain ⟨hn, h3⟩ := bif_some h2
        clear h2
        simp only [Option.some.injEq] at h3
        subst h3
        have hn := Nat.le_of_ble_eq_true hn
        have h' := R.tmps x
        rw [SSt.den_tmp, hx] at h'
        have h' : PtrRep (sur C g (s.den Φ env) w) y _ j (a.tmps.getD x undef) := h'
        have hy' := obj_is (Φ := Φ) (env := env) hy
        unfold PtrRep at h'
        simp only [sur, hy', SOb.den] at h'
        obtain ⟨b, hb, e⟩ := h'
        have ho' := R.objs y
        unfold RepOb at ho'
        simp only [sur, hy', SOb.den] at ho'
        obtain ⟨b', vs, hb', _, hh, hcs⟩ := ho'
        rw [hb] at hb'
        simp only [Value.pointer.injEq, Option.some.injEq, Addr.mk.injEq, and_true] at hb'
        subst hb'
        have hrow : Row w b 0 vs := Row.of_get fun q v hv => by
          rw [Nat.zero_add, cell_of_row w b q _ _ _ hh]
          simpa using hv
        have hr2 := (hrow.drop j).take (C.T t).ks.length
        rw [Nat.zero_add] at hr2
        have hl : ((vs.drop j).take (C.T t).ks.length).length = (C.T t).ks.length := by
          rw [List.length_take, List.length_drop, hcs.length, List.length_map]; omega
        refine ⟨mkV (C.T t).agg ((vs.drop j).take (C.T t).ks.length), ?_, ?_⟩
        · simp only [resS]
          rw [e]
          simp only [asAddr, Sem.run_bind, Sem.run_pure]
          exact run_loadVar' (C.tok t ht) hr2 hl
        · rw [smkA_den, List.map_take, List.map_drop]
          exact mkA_rep (RepACs.take _ (RepACs.drop _ hcs))
      · cases h2
    · cases h2

theorem resVs_run (R : Rel C g (s.den Φ env) a w) : ∀ {rv : List ResultVar} {us : List SV}, resVs C.T s rv = some us → ∃ vs, (rv.mapM (resS a.tmps)).run C.P w = .ok vs w ∧ RepAVs (sur C g (s.den Φ env) w) (us.map (SV.den Φ env)) vs
  | [], us, h => by simp only [resVs, Option.some.injEq] at h; subst h; exact ⟨[], by simp, rfl⟩
  | r :: rs, us, h => by
    simp only [resVs] at h
    split at h
    · rename_i v vs h1 h2
      simp only [Option.some.injEq] at h
      subst h
      obtain ⟨x, q1, q2⟩ := resV_run R h1
      obtain ⟨xs, q3, q4⟩ := resVs_run R h2
      exact ⟨x :: xs, by simp [List.mapM_cons, q1, q3], ⟨x, xs, rfl, q2, q4⟩⟩
    · cases h

theorem finV_rep {S : Sur} : ∀ {rets : List RSh} {us : List SV} {cs : List SC} {vs : List Value}, RepAVs S (us.map (SV.den Φ env)) vs → finV rets us = some cs →
    ∃ xs, RepACs S (cs.map (SC.den Φ env)) xs ∧ vs = mkRets rets xs ∧ xs.length = (rets.flatMap RSh.cells).length
  | [], [], cs, vs, h, hf => by
    simp only [finV, Option.some.injEq] at hf
    subst hf
    exact ⟨[], rfl, h, rfl⟩
  | .one r :: rs, .one c :: us, cs, vs, h, hf => by
    simp only [finV, Option.map_eq_some_iff] at hf
    obtain ⟨cs', h1, rfl⟩ := hf
    obtain ⟨v, vs', rfl, hv, h'⟩ := h
    obtain ⟨xs, q1, q2, q3⟩ := finV_rep h' h1
    exact ⟨v :: xs, ⟨v, xs, rfl, hv.2, hv.1, q1⟩, by simp [mkRets, RSh.mk, RSh.cells, q2], by simp [RSh.cells, q3]⟩
  | .agg ks :: rs, .agg c :: us, cs, vs, h, hf => by
    simp only [finV] at hf
    obtain ⟨hl, hf⟩ := bif_some hf
    simp only [Option.map_eq_some_iff] at hf
    obtain ⟨cs', h1, rfl⟩ := hf
    obtain ⟨v, vs', rfl, hv, h'⟩ := h
    obtain ⟨ys, rfl, hy⟩ := hv
    obtain ⟨xs, q1, q2, q3⟩ := finV_rep h' h1
    have hyl : ys.length = ks.length := by rw [hy.length]; simp only [List.length_map]; exact (beq_iff_eq.1 hl).symm
    refine ⟨ys ++ xs, ?_, ?_, ?_⟩
    · rw [List.map_append]; exact hy.append q1
    · simp [mkRets, RSh.mk, RSh.cells, q2, hyl]
    · simp [RSh.cells, q3, hyl]
  | [], _ :: _, _, _, _, hf => by simp [finV] at hf
  | .one _ :: _, [], _, _, _, hf => by simp [finV] at hf
  | .agg _ :: _, [], _, _, _, hf => by simp [finV] at hf
  | .one _ :: _, .agg _ :: _, _, _, _, hf => by simp [finV] at hf
  | .one _ :: _, .ptr .. :: _, _, _, _, hf => by simp [finV] at hf
  | .one _ :: _, .pim .. :: _, _, _, _, hf => by simp [finV] at hf
  | .one _ :: _, .tup .. :: _, _, _, _, hf => by simp [finV] at hf
  | .one _ :: _, .whn .. :: _, _, _, _, hf => by simp [finV] at hf
  | .one _ :: _, .dead :: _, _, _, _, hf => by simp [finV] at hf
  | .agg _ :: _, .one _ :: _, _, _, _, hf => by simp [finV] at hf
  | .agg _ :: _, .ptr .. :: _, _, _, _, hf => by simp [finV] at hf
  | .agg _ :: _, .pim .. :: _, _, _, _, hf => by simp [finV] at hf
  | .agg _ :: _, .tup .. :: _, _, _, _, hf => by simp [finV] at hf
  | .agg _ :: _, .whn .. :: _, _, _, _, hf => by simp [finV] at hf
  | .agg _ :: _, .dead :: _, _, _, _, hf => by simp [finV] at hf

/-- The head of an array that is returned lies among its blocks. -/
theorem finCs_heads (R : Rel C g (s.den Φ env) a w) : ∀ {rs : List RC} {cs : List SC} {vs : List Value} {es : List E} {os qs : List Nat}, RepACs (sur C g (s.den Φ env) w) (cs.map (SC.den Φ env)) vs → finCs s rs cs = some (es, os, qs) →
    ∀ b ∈ retHeads rs vs, ∃ z ∈ os, Ob.live ((s.den Φ env).obj z) = true ∧ blkOf (g.hd z) = some b ∧ b ∈ g.fp z
  | [], cs, vs, es, os, qs, h, hf => by intro b hb; simp [retHeads] at hb
  | r :: rs, [], vs, es, os, qs, h, hf => by simp [finCs] at hf
  | r :: rs, c :: cs, vs, es, os, qs, h, hf => by
    obtain ⟨v, vs', rfl, ho, hc, h'⟩ := h
    simp only [finCs] at hf
    split at hf
    · rename_i e o q es' os' qs' h1 h2
      simp only [Option.some.injEq, Prod.mk.injEq] at hf
      obtain ⟨rfl, rfl, rfl⟩ := hf
      intro b hb
      simp only [retHeads, List.mem_append] at hb
      rcases hb with hb | hb
      · cases r with
        | im k => simp [RC.head] at hb
        | own t ks dp =>
          simp only [RC.head, Option.mem_toList] at hb
          cases c with
          | nil t' ks' =>
            have : v = .slice none 0 0 := hc
            subst this
            simp [Value.ownBlock] at hb
          | ref z p =>
            cases p with
            | some p => simp [finC] at h1
            | none =>
              simp only [finC] at h1
              split at h1
              · rename_i t' ks' dp' xs hz
                obtain ⟨_, h3⟩ := bif_some h1
                simp only [Option.some.injEq, Prod.mk.injEq] at h3
                obtain ⟨_, rfl, _⟩ := h3
                have hz' := obj_is (Φ := Φ) (env := env) hz
                have hr : RefRep (sur C g (s.den Φ env) w) z none v := hc
                unfold RefRep at hr
                simp only [sur, hz', SOb.den] at hr
                have hv := hr.2
                subst hv
                have hob := R.objs z
                unfold RepOb at hob
                simp only [sur, hz', SOb.den] at hob
                obtain ⟨vss, fps, hown, _, _, _, hfp, _⟩ := hob
                refine ⟨z, by simp, by rw [hz']; rfl, ?_, by rw [hfp]; simp [hb]⟩
                rcases ownsRow_cases hown with ⟨e1, _⟩ | ⟨b', c', e1, _⟩
                · rw [e1] at hb; simp [Value.ownBlock] at hb
                · rw [e1] at hb ⊢; simpa [Value.ownBlock, blkOf] using hb
              · cases h1
          | dat => simp [finC] at h1
          | dead => simp [finC] at h1
      · obtain ⟨z, hz, hq⟩ := finCs_heads R h' h2 b hb
        exact ⟨z, by simp [hz], hq⟩
    · cases hf

theorem finCs_rep (R : Rel C g (s.den Φ env) a w) {hs : List Nat} {OK : List Nat} (hhs : ∀ b ∈ hs, ∃ z ∈ OK, Ob.live ((s.den Φ env).obj z) = true ∧ blkOf (g.hd z) = some b ∧ b ∈ g.fp z) :
    ∀ {rs : List RC} {cs : List SC} {vs : List Value} {es : List E} {os qs : List Nat}, RepACs (sur C g (s.den Φ env) w) (cs.map (SC.den Φ env)) vs → finCs s rs cs = some (es, os, qs) → (∀ z ∈ qs, z ∉ OK) →
    ∃ Fs, RetCs w (MeH C.M hs) rs vs (es.map (E.den Φ env)) Fs ∧ Fs.flatten = os.flatMap g.fp
  | [], [], vs, es, os, qs, h, hf, _ => by
    simp only [finCs, Option.some.injEq, Prod.mk.injEq] at hf
    obtain ⟨rfl, rfl, rfl⟩ := hf
    exact ⟨[], ⟨h, rfl⟩, rfl⟩
  | [], _ :: _, vs, es, os, qs, h, hf, _ => by simp [finCs] at hf
  | r :: rs, [], vs, es, os, qs, h, hf, _ => by simp [finCs] at hf
  | r :: rs, c :: cs, vs, es, os, qs, h, hf, hq => by
    obtain ⟨v, vs', rfl, ho, hc, h'⟩ := h
    have weak : ∀ b o, MeH C.M hs b o → Me C.M (s.den Φ env).obj g.hd b o := fun b o hm => by
      rcases hm with hm | hm
      · exact .inl hm
      · obtain ⟨z, _, h1, h2, _⟩ := hhs b hm
        exact .inr ⟨z, h1, h2⟩
    simp only [finCs] at hf
    split at hf
    · rename_i e o q es' os' qs' h1 h2
      simp only [Option.some.injEq, Prod.mk.injEq] at hf
      obtain ⟨rfl, rfl, rfl⟩ := hf
      obtain ⟨Fs, i1, i2⟩ := finCs_rep R hhs h' h2 fun z hz => hq z (by simp [hz])
      cases r with
      | im k =>
        have main : RepC w (MeH C.M hs) k v (e.den Φ env) ∧ o = [] := by
          cases c with
          | dat k' e' =>
            simp only [finC] at h1
            obtain ⟨h3, h4⟩ := bif_some h1
            simp only [Option.some.injEq, Prod.mk.injEq] at h4
            obtain ⟨rfl, rfl, rfl⟩ := h4
            rw [← K.eqb_eq h3]
            exact ⟨RepC.mono weak hc, rfl⟩
          | nil t ks =>
            simp only [finC] at h1
            obtain ⟨h3, h4⟩ := bif_some h1
            simp only [Option.some.injEq, Prod.mk.injEq] at h4
            obtain ⟨rfl, rfl, rfl⟩ := h4
            rw [← K.eqb_eq h3]
            exact ⟨RepC.mono weak (RepAC.dn hc), rfl⟩
          | ref z p =>
            simp only [finC] at h1
            split at h1
            · rename_i t ks dp xs hz
              obtain ⟨h3, h4⟩ := bif_some h1
              simp only [Option.some.injEq, Prod.mk.injEq] at h4
              obtain ⟨rfl, rfl, rfl⟩ := h4
              rw [← K.eqb_eq h3, scut_den]
              refine ⟨R.sealRep (obj_is hz) hc _ (fun b o v hcl hn => ⟨hcl, fun hm => hn (weak b o hm)⟩) (fun b hb p hm => ?_), rfl⟩
              rcases hm with hm | hm
              · have := C.mold b p hm
                rcases (R.alw z b hb).1 with h5 | h5
                · omega
                · exact this.2 h5
              · obtain ⟨z', hz', _, _, hfp⟩ := hhs b hm
                have : z ≠ z' := fun e => hq z (by simp) (e ▸ hz')
                exact R.apart z z' this b hb hfp
            · rename_i t ks xs hz
              obtain ⟨h3, h4⟩ := bif_some h1
              simp only [Option.some.injEq, Prod.mk.injEq] at h4
              obtain ⟨rfl, rfl, rfl⟩ := h4
              rw [← K.eqb_eq h3, scut_den]
              have hr : RefRep (sur C g (s.den Φ env) w) z (denP Φ env p) v := hc
              unfold RefRep at hr
              have ho : (sur C g (s.den Φ env) w).obj z = _ := obj_is (Φ := Φ) (env := env) hz
              rw [ho] at hr
              exact ⟨RepC.mono weak hr.2, rfl⟩
            · cases h1
          | dead => simp [finC] at h1
        obtain ⟨m1, rfl⟩ := main
        exact ⟨Fs, ⟨v, vs', rfl, m1, i1⟩, by simpa using i2⟩
      | own t ks dp =>
        have main : ∃ F, OwnRep w (MeH C.M hs) t ks dp v (e.den Φ env).asList F ∧ F = o.flatMap g.fp := by
          cases c with
          | nil t' ks' =>
            simp only [finC] at h1
            obtain ⟨h3, h4⟩ := bif_some h1
            simp only [Bool.and_eq_true, beq_iff_eq] at h3
            simp only [Option.some.injEq, Prod.mk.injEq] at h4
            obtain ⟨rfl, rfl, rfl⟩ := h4
            have hv : v = .slice none 0 0 := hc
            subst hv
            exact ⟨[], ⟨[], [], World.ownsRow_nil _ _ _ _, by simp [E.den, lenMax], rfl, rfl, rfl, fun i row vs f h => by simp [E.den] at h⟩, rfl⟩
          | ref z p =>
            cases p with
            | some p => simp [finC] at h1
            | none =>
              simp only [finC] at h1
              split at h1
              · rename_i t' ks' dp' xs hz
                obtain ⟨h3, h4⟩ := bif_some h1
                simp only [Option.some.injEq, Prod.mk.injEq] at h4
                obtain ⟨rfl, rfl, rfl⟩ := h4
                simp only [Bool.and_eq_true, beq_iff_eq] at h3
                obtain ⟨⟨rfl, h5⟩, rfl⟩ := h3
                have h6 := K.eqbs_eq h5
                subst h6
                have hz' := obj_is (Φ := Φ) (env := env) hz
                have hr : RefRep (sur C g (s.den Φ env) w) z none v := hc
                unfold RefRep at hr
                simp only [sur, hz', SOb.den] at hr
                have hv := hr.2
                subst hv
                have hob := R.objs z
                unfold RepOb at hob
                simp only [sur, hz', SOb.den] at hob
                obtain ⟨vss, fps, q1, q2, q3, q4, q5, q6⟩ := hob
                refine ⟨g.fp z, ⟨vss, fps, q1, q2, q3, q4, q5, fun i row vs f e1 e2 e3 => ?_⟩, by simp⟩
                have := q6 i row vs f e1 e2 e3
                split at this
                · rename_i hd; rw [if_pos hd]; exact this
                · rename_i hd; rw [if_neg hd]; exact ⟨RepCs.mono weak this.1, this.2⟩
              · cases h1
          | dat => simp [finC] at h1
          | dead => simp [finC] at h1
        obtain ⟨F, m1, rfl⟩ := main
        exact ⟨_ :: Fs, ⟨v, vs', _, Fs, rfl, rfl, m1, i1⟩, by simp [i2]⟩
    · cases hf

theorem fps_nodup (R : Rel C g (s.den Φ env) a w) : ∀ {os : List Nat}, os.Nodup → (os.flatMap g.fp).Nodup
  | [], _ => List.nodup_nil
  | z :: os, h => by
    obtain ⟨h1, h2⟩ := List.nodup_cons.1 h
    rw [List.flatMap_cons]
    refine List.nodup_append.2 ⟨R.own z, fps_nodup R h2, fun b hb c hc e => ?_⟩
    subst e
    obtain ⟨y, hy, hb'⟩ := List.mem_flatMap.1 hc
    exact R.apart z y (fun e => h1 (e ▸ hy)) b hb hb'

theorem fin_sound (R : Rel C g (s.den Φ env) a w) (hX : C.X = []) {fn : Func} {rets : List RSh} {es : List E} (h : fin C.T fn.results.toList rets s = some es) :
    ∃ us Fs, (results fn a.tmps).run C.P w = .ok (mkRet rets us) w ∧ RetCs w (MeH C.M (retHeads (rets.flatMap RSh.cells) us)) (rets.flatMap RSh.cells) us (es.map (E.den Φ env)) Fs ∧
      Fs.flatten.Nodup ∧ ∀ b, b ∈ Fs.flatten → C.w0.heap.size ≤ b ∧ b < w.heap.size := by
  unfold fin at h
  split at h
  · rename_i uv h1
    split at h
    · rename_i cs h2
      split at h
      · rename_i es' os qs h3
        obtain ⟨h4, h5⟩ := bif_some h
        clear h
        simp only [Option.some.injEq] at h5
        subst h5
        obtain ⟨vs, r1, r2⟩ := resVs_run R h1
        obtain ⟨us, q1, q2, q3⟩ := finV_rep r2 h2
        have hnd := nodupB_iff h4
        obtain ⟨n1, n2, n3⟩ := List.nodup_append.1 hnd
        obtain ⟨Fs, k1, k2⟩ := finCs_rep R (finCs_heads R q1 h3) q1 h3 fun z hz hz' => n3 z hz' z hz rfl
        refine ⟨us, Fs, ?_, k1, by rw [k2]; exact fps_nodup R n1, fun b hb => ?_⟩
        · rw [results_eq, show fn.results = fn.results.toList.toArray by simp]
          simp only [List.mapM_toArray, Sem.run_bind]
          have : ((List.toArray <$> List.mapM (resS a.tmps) fn.results.toList : Sem (Array Value))).run C.P w = .ok vs.toArray w := by simp [r1]
          rw [this]
          simp only [Result.andThen, Sem.run_pure]
          subst q2
          congr 1
          rcases rets with _ | ⟨r, _ | ⟨r2, rs⟩⟩
          · rfl
          · have : us.take r.cells.length = us := List.take_of_length_le (by rw [q3]; simp)
            simp [mkRets, mkRet, this]
          · simp [mkRets, mkRet]
        · rw [k2] at hb
          obtain ⟨z, hz, hb⟩ := List.mem_flatMap.1 hb
          have := R.alw z b hb
          rw [hX] at this
          exact ⟨this.1.resolve_right (by simp), this.2⟩
      · cases h
    · cases h
  · cases h
end

/-! Regions that draw, with effects: all orders are run, and must come to the same. -/

def cand (ops : Array Oper) (L : List Bool) : List Nat := (List.range ops.size).filter fun i => !(L.getD i true) && match ops[i]? with
  | some o => o.after.toList.all fun e => !Region.binds .any e || L.getD e.on false
  | none => false

abbrev Lay := List (List Bool × SSt)
def Lay.find (L : List Bool) : Lay → Option SSt
  | [] => none
  | (K, s) :: X => bif K == L then some s else find L X
def addC (c cs : List E) : List E := cs ++ c.filter fun e => !cs.any (E.eqb e)

def lstep (T : TypeId → TI) (CT : Nat → Option Sig) (ops : Array Oper) (L : List Bool) (s : SSt) : List Nat → List E → Lay → Option (List E × Lay)
  | [], cs, Y => some (cs, Y)
  | i :: l, cs, Y => match ops[i]? with
    | some o => match sstep T CT ops s o with
      | some (c, s') => match Y.find (L.set i true) with
        | some s2 => bif s'.le s2 then lstep T CT ops L s l (addC c cs) Y else none
        | none => lstep T CT ops L s l (addC c cs) ((L.set i true, s') :: Y)
      | none => none
    | none => none
def lall (T : TypeId → TI) (CT : Nat → Option Sig) (ops : Array Oper) : Lay → List E → Lay → Option (List E × Lay)
  | [], cs, Y => some (cs, Y)
  | (L, s) :: X, cs, Y => match cand ops L with
    | [] => none
    | i :: l => match lstep T CT ops L s (i :: l) cs Y with
      | some (cs', Y') => lall T CT ops X cs' Y'
      | none => none
def lrun (T : TypeId → TI) (CT : Nat → Option Sig) (ops : Array Oper) : Nat → Lay → List E → Option (List E × SSt)
  | 0, X, cs => match X with
    | [(L, s)] => bif (cand ops L).isEmpty then some (cs, s) else none
    | _ => none
  | n + 1, X, cs => match lall T CT ops X cs [] with
    | some (cs', Y) => lrun T CT ops n Y cs'
    | none => none
def arun (T : TypeId → TI) (CT : Nat → Option Sig) (ops : Array Oper) (s : SSt) : Option (List E × SSt) := lrun T CT ops ops.size [(List.replicate ops.size false, s)] []

theorem Lay.find_mem {L : List Bool} {s : SSt} : ∀ {X : Lay}, X.find L = some s → (L, s) ∈ X
  | [], h => by simp [Lay.find] at h
  | (K, s1) :: X, h => by
    simp only [Lay.find] at h
    cases hk : K == L with
    | true =>
      rw [hk] at h
      simp only [cond_true, Option.some.injEq] at h
      have : K = L := by simpa using hk
      subst this; subst h
      simp
    | false =>
      rw [hk] at h
      exact List.mem_cons_of_mem _ (Lay.find_mem h)

theorem mem_cand {ops : Array Oper} {listed : Array Bool} {L : List Bool} (hL : listed.toList = L) (i : Nat) : i ∈ Region.ready .any ops listed ↔ i ∈ cand ops L := by
  have hg : ∀ j b, L.getD j b = listed.getD j b := fun j b => by
    subst hL
    simp [List.getD_eq_getElem?_getD]
  rw [mem_ready]
  unfold cand
  rw [List.mem_filter, List.mem_range]
  cases ho : ops[i]? with
  | none => simp
  | some o =>
    have hlt : i < ops.size := (Array.getElem?_eq_some_iff.1 ho).1
    simp only [hlt, true_and, hg, Option.some.injEq, exists_eq_left', Bool.and_eq_true, Bool.not_eq_true', List.all_eq_true, Bool.or_eq_true, Array.mem_toList_iff]
    constructor
    · rintro ⟨h1, h2⟩
      refine ⟨h1, fun e he => ?_⟩
      cases hb : Region.binds .any e with
      | false => exact .inl rfl
      | true => exact .inr (h2 e he hb)
    · rintro ⟨h1, h2⟩
      exact ⟨h1, fun e he hb => (h2 e he).resolve_left (by simp [hb])⟩

section
variable {Φ : Fns} {env : List D} {C : Cx} {g : Gh} {s : SSt} {a : Act} {w : World} {CT : Nat → Option Sig} {ops : Array Oper}

theorem addC_ok {c cs : List E} (h : holds Φ env (addC c cs)) : holds Φ env c ∧ holds Φ env cs := by
  unfold addC at h
  have h2 : holds Φ env cs := fun e he => h e (List.mem_append.2 (.inl he))
  refine ⟨fun e he => ?_, h2⟩
  cases hx : cs.any (E.eqb e) with
  | true =>
    obtain ⟨y, hy, hey⟩ := List.any_eq_true.1 hx
    rw [E.eqb_eq hey]
    exact h2 y hy
  | false => exact h e (List.mem_append.2 (.inr (List.mem_filter.2 ⟨he, by simp [hx]⟩)))

theorem lstep_ok {T : TypeId → TI} {L : List Bool} : ∀ {l : List Nat} {cs cs' : List E} {Y Y' : Lay}, lstep T CT ops L s l cs Y = some (cs', Y') →
    (holds Φ env cs' → holds Φ env cs) ∧ (∀ p ∈ Y, p ∈ Y') ∧ ∀ i ∈ l, ∃ o c s' s2, ops[i]? = some o ∧ sstep T CT ops s o = some (c, s') ∧ (holds Φ env cs' → holds Φ env c) ∧ (L.set i true, s2) ∈ Y' ∧ (s' = s2 ∨ s'.le s2 = true)
  | [], cs, cs', Y, Y', h => by
    simp only [lstep, Option.some.injEq, Prod.mk.injEq] at h
    obtain ⟨rfl, rfl⟩ := h
    exact ⟨id, fun _ h => h, fun i hi => by simp at hi⟩
  | i :: l, cs, cs', Y, Y', h => by
    simp only [lstep] at h
    split at h
    · rename_i o ho
      split at h
      · rename_i c s' hs
        split at h
        · rename_i s2 h2
          obtain ⟨h3, h⟩ := bif_some h
          obtain ⟨k1, k2, k3⟩ := lstep_ok (l := l) h
          refine ⟨fun hh => (addC_ok (k1 hh)).2, k2, fun j hj => ?_⟩
          rcases List.mem_cons.1 hj with rfl | hj
          · exact ⟨o, c, s', s2, ho, hs, fun hh => (addC_ok (k1 hh)).1, k2 _ (Lay.find_mem h2), .inr h3⟩
          · exact k3 j hj
        · obtain ⟨k1, k2, k3⟩ := lstep_ok (l := l) h
          refine ⟨fun hh => (addC_ok (k1 hh)).2, fun p hp => k2 p (by simp [hp]), fun j hj => ?_⟩
          rcases List.mem_cons.1 hj with rfl | hj
          · exact ⟨o, c, s', s', ho, hs, fun hh => (addC_ok (k1 hh)).1, k2 _ (by simp), .inl rfl⟩
          · exact k3 j hj
      · cases h
    · cases h

theorem lall_ok {T : TypeId → TI} : ∀ {X : Lay} {cs cs' : List E} {Y Y' : Lay}, lall T CT ops X cs Y = some (cs', Y') →
    (holds Φ env cs' → holds Φ env cs) ∧ (∀ p ∈ Y, p ∈ Y') ∧ ∀ q ∈ X, cand ops q.1 ≠ [] ∧ ∀ i ∈ cand ops q.1, ∃ o c s' s2, ops[i]? = some o ∧ sstep T CT ops q.2 o = some (c, s') ∧ (holds Φ env cs' → holds Φ env c) ∧ (q.1.set i true, s2) ∈ Y' ∧ (s' = s2 ∨ s'.le s2 = true)
  | [], cs, cs', Y, Y', h => by
    simp only [lall, Option.some.injEq, Prod.mk.injEq] at h
    obtain ⟨rfl, rfl⟩ := h
    exact ⟨id, fun _ h => h, fun i hi => by simp at hi⟩
  | (L, s) :: X, cs, cs', Y, Y', h => by
    simp only [lall] at h
    split at h
    · cases h
    · rename_i i l hc
      split at h
      · rename_i cs1 Y1 h1
        obtain ⟨k1, k2, k3⟩ := lstep_ok (Φ := Φ) (env := env) h1
        obtain ⟨m1, m2, m3⟩ := lall_ok (X := X) h
        refine ⟨fun hh => k1 (m1 hh), fun p hp => m2 p (k2 p hp), fun q hq => ?_⟩
        rcases List.mem_cons.1 hq with rfl | hq
        · refine ⟨by simp only [hc]; simp, fun j hj => ?_⟩
          simp only [hc] at hj
          obtain ⟨o, c, s', s2, a1, a2, a3, a4, a5⟩ := k3 j hj
          exact ⟨o, c, s', s2, a1, a2, fun hh => a3 (m1 hh), m2 _ a4, a5⟩
        · exact m3 q hq
      · cases h

theorem lrun_ok (hCT : Told C.P Φ CT) {Q : Exit → Act → World → Prop} {sf : SSt} (hQ : ∀ a' w' g', Rel C g' (sf.den Φ env) a' w' → Q .normal a' w') : ∀ {n : Nat} {X : Lay} {cs cs' : List E}, lrun C.T CT ops n X cs = some (cs', sf) → holds Φ env cs' →
    holds Φ env cs ∧ ∀ q ∈ X, ∀ (listed : Array Bool) (g : Gh) (a : Act) (w : World), listed.toList = q.1 → Rel C g (q.2.den Φ env) a w → wpAny C.P .any ops Q n listed a w
  | 0, X, cs, cs', h, hh => by
    simp only [lrun] at h
    split at h
    · rename_i L s
      obtain ⟨h1, h2⟩ := bif_some h
      simp only [Option.some.injEq, Prod.mk.injEq] at h2
      obtain ⟨rfl, rfl⟩ := h2
      refine ⟨hh, fun q hq listed g a w hl R => ?_⟩
      simp only [List.mem_singleton] at hq
      subst hq
      refine ⟨?_, hQ a w g R⟩
      have h1 : cand ops L = [] := by simpa using h1
      refine List.eq_nil_iff_forall_not_mem.2 fun i hi => ?_
      have := (mem_cand hl i).1 hi
      simp [h1] at this
    · cases h
  | n + 1, X, cs, cs', h, hh => by
    simp only [lrun] at h
    split at h
    · rename_i cs1 Y h1
      obtain ⟨r1, r2⟩ := lrun_ok hCT hQ h hh
      obtain ⟨k1, _, k3⟩ := lall_ok (Φ := Φ) (env := env) h1
      refine ⟨k1 r1, fun q hq listed g a w hl R => ⟨fun hnil => ?_, fun i hi => ?_⟩⟩
      · obtain ⟨hne, _⟩ := k3 q hq
        obtain ⟨i, l, hc⟩ := List.exists_cons_of_ne_nil hne
        have := (mem_cand hl i).2 (by rw [hc]; simp)
        rw [hnil] at this
        simp at this
      · obtain ⟨o, c, s', s2, ho, hs, hc, hm, he⟩ := (k3 q hq).2 i ((mem_cand hl i).1 hi)
        have := sstep_sound R hCT hs (hc r1) (wpAny C.P .any ops Q n (listed.setIfInBounds i true)) Q fun a' w' g' R' => by
          refine r2 _ hm _ g' a' w' (by rw [Array.toList_setIfInBounds, hl]) ?_
          rcases he with rfl | he
          · exact R'
          · exact R'.le he
        unfold wpOp
        simp only [ho]
        split at this
        · rename_i hw; rw [if_pos hw]; exact .inl this
        · rename_i hw; rw [if_neg hw]; exact this
    · cases h

/-- A region that draws, with effects. -/
theorem arun_sound (hCT : Told C.P Φ CT) (hm : C.P.follows .mixedOrders = true) {id : Nat} {Q : Exit → Act → World → Prop} {cs : List E} {s' : SSt} (R : Rel C g (s.den Φ env) a w)
    (h : arun C.T CT ops s = some (cs, s')) (hc : holds Φ env cs) (hQ : ∀ a' w' g', Rel C g' (s'.den Φ env) a' w' → Q .normal a' w') : (Code.region id ops true).wp C.P Q a w := by
  have RR : Rel C g (s.den Φ env) a { w with drawn := w.drawn + 1 } := Rel.same (w := w) R rfl rfl rfl rfl
  exact wp_region_any hm ((lrun_ok hCT hQ h hc).2 _ (List.mem_singleton.2 rfl) _ g a _ (by simp) RR)
end

end Go.Vx

/-
  Vx, part 33: code is run; what is left to show of it is plain.
-/
namespace Go.Vx
open Go.RowKit (Below)

/-- What is left to show of a function's code. -/
inductive VC where
  /-- these hold -/
  | req (cs : List E) (t : VC)
  | ite (c : E) (x y : VC)
  /-- a loop: its name, its level, how many values it turns, of which kinds they are, which they are at first -/
  | loop (id l m : Nat) (fs : List (K × Nat)) (init : List E) (body : VC)
  | back (l : Nat) (es : List E)
  | ret (es : List E)
  deriving Inhabited

def allN : Nat → (List D → Prop) → Prop
  | 0, p => p []
  | n + 1, p => ∀ d : D, allN n fun l => p (d :: l)
theorem allN_iff : ∀ {n : Nat} {p : List D → Prop}, allN n p → ∀ l : List D, l.length = n → p l
  | 0, p, h, l, hl => by rw [List.eq_nil_of_length_eq_zero hl]; exact h
  | n + 1, p, h, d :: l, hl => allN_iff (h d) l (by simpa using hl)
  | n + 1, p, h, [], hl => by simp at hl

def conj (Φ : Fns) (env : List D) : List E → Prop
  | [] => True
  | c :: cs => (c.den Φ env).asBool = true ∧ conj Φ env cs
theorem conj_holds {Φ : Fns} {env : List D} : ∀ {cs : List E}, conj Φ env cs → holds Φ env cs
  | [], _ => fun _ h => by simp at h
  | c :: cs, h => fun e he => by
    rcases List.mem_cons.1 he with rfl | he
    · exact h.1
    · exact conj_holds h.2 e he

def kinds (env : List D) : List (K × Nat) → Prop → Prop
  | [], p => p
  | (k, i) :: l, p => WFD k (env.getD i default) → kinds env l p
theorem kinds_elim {env : List D} : ∀ {l : List (K × Nat)} {p : Prop}, kinds env l p → (∀ q ∈ l, WFD q.1 (env.getD q.2 default)) → p
  | [], p, h, _ => h
  | (k, i) :: l, p, h, hw => kinds_elim (h (hw (k, i) (by simp))) fun q hq => hw q (by simp [hq])

def setB (B : Nat → List D → Prop) (l : Nat) (p : List D → Prop) (j : Nat) : List D → Prop := if j = l then p else B j

def VC.wp (Φ : Fns) (post : List D → Prop) : VC → List D → (Nat → List D → Prop) → Prop
  | .req cs t, env, B => conj Φ env cs ∧ t.wp Φ post env B
  | .ite c x y, env, B => ((c.den Φ env).asBool = true → x.wp Φ post env B) ∧ ((c.den Φ env).asBool = false → y.wp Φ post env B)
  | .loop _ l m fs init body, env, B => ∃ (I : List D → Prop) (μ : List D → Nat), I (init.map (E.den Φ env)) ∧
      allN m fun vs => kinds (env ++ vs) fs (I vs → body.wp Φ post (env ++ vs) (setB B l fun v => I v ∧ μ v < μ vs))
  | .back l es, env, B => B l (es.map (E.den Φ env))
  | .ret es, env, _ => post (es.map (E.den Φ env))

def firstId : Code → Option Nat
  | .region id _ _ => some id
  | .seq a b => match firstId a with | some i => some i | none => firstId b
  | .cond _ a b => match firstId a with | some i => some i | none => firstId b
  | .block _ c => firstId c
  | .loop c => firstId c
  | _ => none

/-- What comes after. -/
inductive It where
  | code (c : Code)
  | blk (id : Nat)
  | lp (l n m : Nat) (H : SSt)

def lps : List It → Nat
  | [] => 0
  | .lp .. :: k => lps k + 1
  | _ :: k => lps k
def unwindTo (id : Nat) : List It → Option (List It)
  | [] => none
  | .blk i :: k => bif i == id then some k else unwindTo id k
  | _ :: k => unwindTo id k

def factsC (c : SC) : List (K × Nat) := match c with
  | .dat k (.var i) => [(k, i)]
  | _ => []
def factsV (v : SV) : List (K × Nat) := match v with
  | .one c => factsC c
  | .agg cs => cs.flatMap factsC
  | _ => []
def factsO (o : SOb) : List (K × Nat) := match o with
  | .arr t ks _ (.var i) => [(.sl t ks, i)]
  | .box _ cs => cs.flatMap factsC
  | _ => []
def facts (n : Nat) (H : SSt) : List (K × Nat) := (H.tmps.flatMap factsV ++ H.objs.flatMap fun p => match H.obj p.1 with | some o => factsO o | none => []).filter fun q => Nat.ble n q.2

/-- What follows from what is asked already. -/
def implied (prev : List E) : Nat → E → Bool
  | 0, e => prev.any (E.eqb e)
  | f + 1, e => prev.any (E.eqb e) || match e with
    | .op .ite [c, d, .bool true] => E.eqb c d || implied prev f d
    | .op .eqi [a, b] => E.eqb a b
    | _ => false
def slim : List E → List E → List E
  | _, [] => []
  | prev, c :: cs => bif implied prev 4 c then slim prev cs else c :: slim (c :: prev) cs
def req (cs : List E) (t : VC) : VC := match slim [] cs with
  | [] => t
  | cs => .req cs t
theorem implied_ok {Φ : Fns} {env : List D} {prev : List E} (hp : holds Φ env prev) : ∀ (f : Nat) (e : E), implied prev f e = true → (e.den Φ env).asBool = true := by
  have hmem : ∀ e, (prev.any (E.eqb e)) = true → (e.den Φ env).asBool = true := fun e h => by
    obtain ⟨x, hx, he⟩ := List.any_eq_true.1 h
    rw [E.eqb_eq he]
    exact hp x hx
  intro f
  induction f with
  | zero => intro e h; exact hmem e h
  | succ f ih =>
    intro e h
    simp only [implied, Bool.or_eq_true] at h
    rcases h with h | h
    · exact hmem e h
    · split at h
      · rename_i c d
        simp only [Bool.or_eq_true] at h
        have hd : (E.den Φ env c).asBool = true → (E.den Φ env d).asBool = true := fun hc => by
          rcases h with h | h
          · rw [← E.eqb_eq h]; exact hc
          · exact ih d h
        simp only [E.den, E.dens, opD, List.getD_cons_zero, List.getD_cons_succ]
        split
        · rename_i hc; exact hd hc
        · rfl
      · rename_i a b
        rw [E.eqb_eq h]
        simp [E.den, E.dens, opD, D.asBool]
      · cases h
theorem slim_ok {Φ : Fns} {env : List D} : ∀ {cs prev : List E}, holds Φ env prev → holds Φ env (slim prev cs) → holds Φ env cs
  | [], _, _, _ => fun _ h => by simp at h
  | c :: cs, prev, hp, hs => by
    simp only [slim] at hs
    cases hc : implied prev 4 c with
    | true =>
      rw [hc] at hs
      have h1 := implied_ok hp 4 c hc
      have h2 := slim_ok (cs := cs) hp hs
      exact fun e he => by
        rcases List.mem_cons.1 he with rfl | he
        · exact h1
        · exact h2 e he
    | false =>
      rw [hc] at hs
      simp only [cond_false] at hs
      have h1 := hs c (by simp)
      have h2 := slim_ok (cs := cs) (prev := c :: prev) (fun e he => by
        rcases List.mem_cons.1 he with rfl | he
        · exact h1
        · exact hp e he) fun e he => hs e (by simp [he])
      exact fun e he => by
        rcases List.mem_cons.1 he with rfl | he
        · exact h1
        · exact h2 e he

/-- A region that draws. -/
def drawn (T : TypeId → TI) (CT : Nat → Option Sig) (ops : Array Oper) (s : SSt) : Option (List E × SSt) := match drun T CT ops s with
  | some r => some r
  | none => arun T CT ops s
theorem drawn_sound {Φ : Fns} {env : List D} {C : Cx} {g : Gh} {s : SSt} {a : Act} {w : World} {CT : Nat → Option Sig} {ops : Array Oper} (hCT : Told C.P Φ CT) (hm : C.P.follows .mixedOrders = true) {id : Nat} {Q : Exit → Act → World → Prop} {cs : List E} {s' : SSt} (R : Rel C g (s.den Φ env) a w)
    (h : drawn C.T CT ops s = some (cs, s')) (hc : holds Φ env cs) (hQ : ∀ a' w' g', Rel C g' (s'.den Φ env) a' w' → Q .normal a' w') : (Code.region id ops true).wp C.P Q a w := by
  unfold drawn at h
  split at h
  · rename_i r hr
    simp only [Option.some.injEq] at h
    subst h
    exact draw_sound hCT hm R hr hc hQ
  · exact arun_sound hCT hm R h hc hQ

def run (T : TypeId → TI) (CT : Nat → Option Sig) (G : Nat → SSt → Code → List It → Option (SSt × Nat)) (end' : SSt → Option (List E)) : Nat → Nat → SSt → List It → Option VC
  | 0, _, _, _ => none
  | _ + 1, _, s, [] => match end' s with | some es => some (.ret es) | none => none
  | f + 1, n, s, .blk _ :: k => run T CT G end' f n s k
  | _ + 1, _, s, .lp l n m H :: _ => match fit n m H s with | some es => some (.back l es) | none => none
  | f + 1, n, s, .code c :: k => match c with
    | .skip => run T CT G end' f n s k
    | .seq x y => run T CT G end' f n s (.code x :: .code y :: k)
    | .region _ ops draw => match (bif draw then drawn T CT ops s else srun T CT ops (List.range ops.size) s) with
      | some (cs, s') => match run T CT G end' f n s' k with
        | some t => some (req cs t)
        | none => none
      | none => none
    | .cond x a b => match (sev T 0 s x).dn with
      | .one (.dat .bool (.bool true)) => run T CT G end' f n s (.code a :: k)
      | .one (.dat .bool (.bool false)) => run T CT G end' f n s (.code b :: k)
      | .one (.dat .bool e) => match run T CT G end' f n s (.code a :: k), run T CT G end' f n s (.code b :: k) with
        | some t, some u => some (.ite e t u)
        | _, _ => none
      | _ => none
    | .block id c => run T CT G end' f n s (.code c :: .blk id :: k)
    | .exit id => match unwindTo id k with
      | some k' => run T CT G end' f n s k'
      | none => none
    | .ret => match end' s with | some es => some (.ret es) | none => none
    | .loop c => match G n s c k with
      | some (H, m) => match fit n m H s with
        | some init => match run T CT G end' f (n + m) H (.code c :: .lp (lps k) n m H :: k) with
          | some t => some (.loop ((firstId c).getD 0) (lps k) m (facts n H) init t)
          | none => none
        | none => none
      | none => none
    | _ => none

theorem least {p : Nat → Prop} : ∀ n, p n → ∃ m, p m ∧ ∀ j, p j → m ≤ j := by
  intro n
  induction n using Nat.strongRecOn with
  | _ n ih =>
    intro h
    by_cases hx : ∃ j, j < n ∧ p j
    · obtain ⟨j, hj, hp⟩ := hx
      exact ih j hj hp
    · exact ⟨n, h, fun j hj => Nat.le_of_not_lt fun hlt => hx ⟨j, hlt, hj⟩⟩

open Classical in
theorem wp_loop_ix {P : Program} {Q : Exit → Act → World → Prop} {a : Act} {w : World} {c : Code} {I : Nat → Act → World → Prop} {N : Nat} (h0 : I N a w)
    (round : ∀ N a w, I N a w → c.wp P (Exit.then (fun a' w' => ∃ N', N' < N ∧ I N' a' w') Q) a w) : (Code.loop c).wp P Q a w := by
  have L : ∀ a w, (∃ N, I N a w) → ∃ m, I m a w ∧ ∀ j, I j a w → m ≤ j := fun a w ⟨N, h⟩ => least N h
  refine wp_loop (fun a w => ∃ N, I N a w) (fun a w => if h : ∃ N, I N a w then Classical.choose (L a w h) else 0) ⟨N, h0⟩ fun a w h => ?_
  have hm := Classical.choose_spec (L a w h)
  refine wp_mono (round _ a w hm.1) fun e a' w' hq => ?_
  cases e with
  | normal =>
    obtain ⟨N', hlt, hI⟩ := hq
    refine ⟨⟨N', hI⟩, ?_⟩
    rw [dif_pos h, dif_pos ⟨N', hI⟩]
    exact Nat.lt_of_le_of_lt ((Classical.choose_spec (L a' w' ⟨N', hI⟩)).2 N' hI) hlt
  | _ => exact hq

section
variable {Φ : Fns} {C : Cx} {CT : Nat → Option Sig} {post : List D → Prop} {F : Exit → Act → World → Prop}

def Fits (Φ : Fns) (C : Cx) (F : Exit → Act → World → Prop) : List It → List D → (Nat → List D → Prop) → (Exit → Act → World → Prop) → Prop
  | [], _, _, Q => Q = F
  | .code c :: k, env, B, Q => ∃ Q', Fits Φ C F k env B Q' ∧ Q = Exit.then (c.wp C.P Q') Q'
  | .blk id :: k, env, B, Q => ∃ Q', Fits Φ C F k env B Q' ∧ Q = Exit.inBlock id Q'
  | .lp l n m H :: k, env, B, Q => ∃ Q' J, Fits Φ C F k env B Q' ∧ Q = Exit.then J Q' ∧ l = lps k ∧ n ≤ env.length ∧
      ∀ vs a w g, vs.length = m → Rel C g (H.den Φ (env.take n ++ vs)) a w → B l vs → J a w

theorem Fits.ext {B B' : Nat → List D → Prop} {env : List D} (x : List D) : ∀ {k : List It} {Q : Exit → Act → World → Prop}, Fits Φ C F k env B Q → (∀ j, j < lps k → B' j = B j) → Fits Φ C F k (env ++ x) B' Q
  | [], Q, h, _ => h
  | .code c :: k, Q, ⟨Q', h, e⟩, hB => ⟨Q', h.ext x hB, e⟩
  | .blk id :: k, Q, ⟨Q', h, e⟩, hB => ⟨Q', h.ext x hB, e⟩
  | .lp l n m H :: k, Q, ⟨Q', J, h, e, hl, hn, hJ⟩, hB => by
    refine ⟨Q', J, h.ext x fun j hj => hB j (by simp only [lps]; omega), e, hl, by simp; omega, fun vs a w g hv hr hb => ?_⟩
    rw [List.take_append_of_le_length hn] at hr
    rw [hB l (by simp only [lps]; omega)] at hb
    exact hJ vs a w g hv hr hb

theorem Fits.exit {B : Nat → List D → Prop} {env : List D} {id : Nat} : ∀ {k k' : List It} {Q : Exit → Act → World → Prop}, Fits Φ C F k env B Q → unwindTo id k = some k' → ∃ Q', Fits Φ C F k' env B Q' ∧ ∀ a w, Q' .normal a w → Q (.exit id) a w
  | [], k', Q, _, hu => by simp [unwindTo] at hu
  | .code c :: k, k', Q, ⟨Q', h, e⟩, hu => by
    obtain ⟨Q2, h1, h2⟩ := h.exit (k' := k') hu
    subst e
    exact ⟨Q2, h1, h2⟩
  | .blk i :: k, k', Q, ⟨Q', h, e⟩, hu => by
    subst e
    simp only [unwindTo] at hu
    cases hi : i == id with
    | true =>
      rw [hi] at hu
      simp only [cond_true, Option.some.injEq] at hu
      subst hu
      have : i = id := by simpa using hi
      subst this
      exact ⟨Q', h, fun a w hq => by simpa [Exit.inBlock] using hq⟩
    | false =>
      rw [hi] at hu
      obtain ⟨Q2, h1, h2⟩ := h.exit (k' := k') hu
      have : ¬ id = i := fun e => by subst e; simp at hi
      exact ⟨Q2, h1, fun a w hq => by simpa [Exit.inBlock, this] using h2 a w hq⟩
  | .lp l n m H :: k, k', Q, ⟨Q', J, h, e, _⟩, hu => by
    obtain ⟨Q2, h1, h2⟩ := h.exit (k' := k') hu
    subst e
    exact ⟨Q2, h1, h2⟩

theorem Fits.ret {B : Nat → List D → Prop} {env : List D} {a : Act} {w : World} (hF : F .ret a w) : ∀ {k : List It} {Q : Exit → Act → World → Prop}, Fits Φ C F k env B Q → Q .ret a w
  | [], Q, h => by rw [show Q = F from h]; exact hF
  | .code c :: k, Q, ⟨Q', h, e⟩ => by subst e; exact h.ret hF
  | .blk i :: k, Q, ⟨Q', h, e⟩ => by subst e; exact h.ret hF
  | .lp l n m H :: k, Q, ⟨Q', J, h, e, _⟩ => by subst e; exact h.ret hF

section
variable {env : List D} {g : Gh} {s : SSt} {a : Act} {w : World}
theorem RepAV.dat_wf {k : K} {e : E} {v : Value} (h : RepAC (sur C g (s.den Φ env) w) (SC.den Φ env (.dat k e)) v) : WFD k (e.den Φ env) := RepC.wf h

theorem facts_sound (R : Rel C g (s.den Φ env) a w) (n : Nat) : ∀ q ∈ facts n s, WFD q.1 (env.getD q.2 default) := by
  have cell : ∀ {c : SC} {v : Value}, RepAC (sur C g (s.den Φ env) w) (c.den Φ env) v → ∀ q ∈ factsC c, WFD q.1 (env.getD q.2 default) := fun {c v} hc q hq => by
    unfold factsC at hq
    split at hq
    · simp only [List.mem_singleton] at hq
      subst hq
      exact RepC.wf hc
    · simp at hq
  have cells : ∀ {cs : List SC} {vs : List Value}, RepACs (sur C g (s.den Φ env) w) (cs.map (SC.den Φ env)) vs → ∀ q ∈ cs.flatMap factsC, WFD q.1 (env.getD q.2 default) := by
    intro cs
    induction cs with
    | nil => intro vs _ q hq; simp at hq
    | cons c cs ih =>
      intro vs h q hq
      obtain ⟨v, vs', _, _, h1, h2⟩ := h
      rw [List.flatMap_cons] at hq
      rcases List.mem_append.1 hq with hq | hq
      · exact cell h1 q hq
      · exact ih h2 q hq
  intro q hq
  unfold facts at hq
  have hq := (List.mem_filter.1 hq).1
  rcases List.mem_append.1 hq with hq | hq
  · obtain ⟨v, hv, hq⟩ := List.mem_flatMap.1 hq
    obtain ⟨t, ht⟩ := List.getElem?_of_mem hv
    have hr := R.tmps t
    rw [SSt.den_tmp, show s.tmp t = v by simp [SSt.tmp, List.getD_eq_getElem?_getD, ht]] at hr
    unfold factsV at hq
    split at hq
    · exact cell hr.1 q hq
    · obtain ⟨vs, _, hr⟩ := hr
      exact cells hr q hq
    · simp at hq
  · obtain ⟨p, hp, hq⟩ := List.mem_flatMap.1 hq
    have hr := R.objs p.1
    unfold RepOb at hr
    split at hq
    · rename_i o ho
      have ho' := obj_is (Φ := Φ) (env := env) ho
      simp only [sur, ho'] at hr
      unfold factsO at hq
      split at hq
      · simp only [SOb.den] at hr
        obtain ⟨_, _, _, h2, _⟩ := hr
        simp only [List.mem_singleton] at hq
        subst hq
        exact h2
      · simp only [SOb.den] at hr
        obtain ⟨_, vs, _, _, _, hr⟩ := hr
        exact cells hr q hq
      · simp at hq
    · simp at hq

theorem Rel.bool (R : Rel C g (s.den Φ env) a w) {x : Operand} {e : E} (h : (sev C.T 0 s x).dn = .one (.dat .bool e)) : a.eval x = .bool (e.den Φ env).asBool := by
  have hr : RepC w (Me C.M (s.den Φ env).obj g.hd) .bool (a.eval x) (e.den Φ env) := R.datv (sev_dat h)
  exact hr
end

theorem wp_req {Φ : Fns} {post : List D → Prop} {cs : List E} {t : VC} {env : List D} {B : Nat → List D → Prop} (h : (req cs t).wp Φ post env B) : holds Φ env cs ∧ t.wp Φ post env B := by
  unfold req at h
  have h0 : holds Φ env ([] : List E) := fun _ h => by simp at h
  split at h
  · rename_i hs; exact ⟨slim_ok (cs := cs) h0 (by rw [hs]; exact h0), h⟩
  · exact ⟨slim_ok (cs := cs) h0 (conj_holds h.1), h.2⟩

theorem run_sound (hm : C.P.follows .mixedOrders = true) (hCT : Told C.P Φ CT) {G : Nat → SSt → Code → List It → Option (SSt × Nat)} {end' : SSt → Option (List E)}
    (hend : ∀ env g s a w es, end' s = some es → Rel C g (SSt.den Φ env s) a w → post (es.map (E.den Φ env)) → F .normal a w ∧ F .ret a w) :
    ∀ (f n : Nat) (s : SSt) (k : List It) (t : VC), run C.T CT G end' f n s k = some t → ∀ (env : List D) (B : Nat → List D → Prop) (Q : Exit → Act → World → Prop) (g : Gh) (a : Act) (w : World),
      env.length = n → Fits Φ C F k env B Q → Rel C g (s.den Φ env) a w → t.wp Φ post env B → Q .normal a w := by
  intro f
  induction f with
  | zero => intro n s k t h; simp [run] at h
  | succ f ih =>
    intro n s k t h env B Q g a w hn hF R ht
    rcases k with _ | ⟨it, k⟩
    · simp only [run] at h
      split at h
      · rename_i es he
        simp only [Option.some.injEq] at h
        subst h
        rw [show Q = F from hF]
        exact (hend env g s a w es he R ht).1
      · cases h
    · cases it with
      | blk id =>
        obtain ⟨Q', hF, rfl⟩ := hF
        exact ih n s k t h env B Q' g a w hn hF R ht
      | lp l n' m H =>
        obtain ⟨Q', J, hF, rfl, hl, hle, hJ⟩ := hF
        simp only [run] at h
        split at h
        · rename_i es he
          simp only [Option.some.injEq] at h
          subst h
          obtain ⟨h1, g', h2⟩ := fit_sound R hle he
          exact hJ _ a w g' (by simpa using h1) h2 ht
        · cases h
      | code c =>
        obtain ⟨Q', hF, rfl⟩ := hF
        show c.wp C.P Q' a w
        cases c with
        | skip => exact wp_skip (ih n s k t h env B Q' g a w hn hF R ht)
        | seq x y => exact wp_seq (ih n s (.code x :: .code y :: k) t h env B _ g a w hn ⟨_, ⟨Q', hF, rfl⟩, rfl⟩ R ht)
        | block id c => exact wp_block (ih n s (.code c :: .blk id :: k) t h env B _ g a w hn ⟨_, ⟨Q', hF, rfl⟩, rfl⟩ R ht)
        | region id ops draw =>
          simp only [run] at h
          split at h
          · rename_i cs s' hr
            split at h
            · rename_i t' ht'
              simp only [Option.some.injEq] at h
              subst h
              obtain ⟨h1, h2⟩ := wp_req ht
              cases draw with
              | true => exact drawn_sound hCT hm R hr h1 fun a' w' g' R' => ih n s' k t' ht' env B Q' g' a' w' hn hF R' h2
              | false => exact region_sound hCT R hr h1 fun a' w' g' R' => ih n s' k t' ht' env B Q' g' a' w' hn hF R' h2
            · cases h
          · cases h
        | cond x y z =>
          simp only [run] at h
          split at h
          · rename_i hx
            exact wp_cond_true (R.bool hx) (ih n s (.code y :: k) t h env B _ g a w hn ⟨Q', hF, rfl⟩ R ht)
          · rename_i hx
            exact wp_cond_false (R.bool hx) (ih n s (.code z :: k) t h env B _ g a w hn ⟨Q', hF, rfl⟩ R ht)
          · rename_i e _ _ hx
            split at h
            · rename_i t1 t2 h1 h2
              simp only [Option.some.injEq] at h
              subst h
              exact wp_cond_split (R.bool hx) (fun hb => ih n s (.code y :: k) t1 h1 env B _ g a w hn ⟨Q', hF, rfl⟩ R (ht.1 hb))
                (fun hb => ih n s (.code z :: k) t2 h2 env B _ g a w hn ⟨Q', hF, rfl⟩ R (ht.2 hb))
            · cases h
          · cases h
        | exit id =>
          simp only [run] at h
          split at h
          · rename_i k' hk
            obtain ⟨Q2, h1, h2⟩ := hF.exit hk
            exact wp_exit (h2 a w (ih n s k' t h env B Q2 g a w hn h1 R ht))
          · cases h
        | ret =>
          simp only [run] at h
          split at h
          · rename_i es he
            simp only [Option.some.injEq] at h
            subst h
            exact wp_ret (hF.ret (hend env g s a w es he R ht).2)
          · cases h
        | loop c =>
          simp only [run] at h
          split at h
          · rename_i H m hG
            split at h
            · rename_i init hi
              split at h
              · rename_i t' ht'
                simp only [Option.some.injEq] at h
                subst h
                obtain ⟨I, μ, h0, hI⟩ := ht
                obtain ⟨h1, g', h2⟩ := fit_sound R (Nat.le_of_eq hn.symm) hi
                have et : env.take n = env := List.take_of_length_le (by omega)
                refine wp_loop_ix (I := fun N a w => ∃ vs g, vs.length = m ∧ Rel C g (H.den Φ (env ++ vs)) a w ∧ I vs ∧ μ vs = N) (N := μ (init.map (E.den Φ env))) ⟨_, g', by simpa using h1, ?_, h0, rfl⟩ fun N a w hN => ?_
                · unfold envOf at h2; rw [et] at h2; exact h2
                · obtain ⟨vs, g2, hv, R2, hIv, rfl⟩ := hN
                  have hw := kinds_elim (allN_iff hI vs hv) (fun q hq => facts_sound R2 n q hq) hIv
                  refine ih (n + m) H (.code c :: .lp (lps k) n m H :: k) t' ht' (env ++ vs) _ _ g2 a w (by simp [hn, hv]) ⟨_, ⟨Q', _, hF.ext vs (fun j hj => ?_), rfl, rfl, by simp; omega, fun vs' a w g3 hv' R3 hb => ?_⟩, rfl⟩ R2 hw
                  · show setB B (lps k) _ j = B j
                    unfold setB
                    rw [if_neg (by omega)]
                  · unfold setB at hb
                    rw [if_pos rfl] at hb
                    rw [List.take_append_of_le_length (by omega), et] at R3
                    exact ⟨μ vs', hb.2, vs', g3, hv', R3, hb.1, rfl⟩
              · cases h
            · cases h
          · cases h
        | rangeFunc => simp [run] at h
        | «scope» => simp [run] at h
        | label => simp [run] at h
        | goto => simp [run] at h
        | refuse => simp [run] at h
end

end Go.Vx

/-
  Vx, part 34: a function answers its contract.
-/
namespace Go.Vx
open Go.RowKit (Below)

mutual
/-- Facts that every datum of a kind has, all the way down. -/
def WFa : K → D → Prop
  | .int k, d => inR k d.asInt
  | .bool, _ => True
  | .str, d => d.asStr.size ≤ lenMax
  | .sl _ ks, d => d.asList.length ≤ lenMax ∧ ∀ row, row ∈ d.asList → WFas ks row
def WFas : List K → List D → Prop
  | [], _ => True
  | k :: ks, ds => WFa k (ds.headD default) ∧ WFas ks ds.tail
end
mutual
theorem RepC.wfa {w : World} {M : Nat → Nat → Prop} : ∀ {k : K} {v : Value} {d : D}, RepC w M k v d → WFa k d
  | .int _, _, _, h => h.2
  | .bool, _, _, _ => trivial
  | .str, _, _, h => h.2
  | .sl _ ks, v, d, h => by
    obtain ⟨a, cap, rfl, _, h2, h3⟩ := h
    refine ⟨h2, fun row hr => ?_⟩
    rcases h3 with h3 | ⟨b, off, _, hrow⟩
    · rw [h3] at hr; simp at hr
    · obtain ⟨i, hi⟩ := List.getElem?_of_mem hr
      obtain ⟨vs, _, _, hc⟩ := hrow i row hi
      exact RepCs.wfa hc
theorem RepCs.wfa {w : World} {M : Nat → Nat → Prop} : ∀ {ks : List K} {vs : List Value} {ds : List D}, RepCs w M ks vs ds → WFas ks ds
  | [], _, _, _ => trivial
  | _ :: _, _, _, h => by
    obtain ⟨v, vs', rfl, hc, h'⟩ := h
    exact ⟨RepC.wfa hc, RepCs.wfa h'⟩
end
def WFA : ASh → D → Prop
  | .one k, d => WFa k d
  | .agg ks, d => WFas ks d.row
def WFAs : List ASh → List D → Prop
  | s :: ss, d :: ds => WFA s d ∧ WFAs ss ds
  | _, _ => True
theorem ArgReps.wf {w : World} {M : Nat → Nat → Prop} : ∀ {ss : List ASh} {vs : List Value} {ds : List D}, ArgReps w M ss vs ds → WFAs ss ds ∧ ds.length = ss.length ∧ vs.length = ss.length
  | [], _, _, h => by rw [h.1, h.2]; exact ⟨trivial, rfl, rfl⟩
  | s :: ss, _, _, h => by
    obtain ⟨v, vs', d, ds', rfl, rfl, hv, h'⟩ := h
    obtain ⟨h1, h2, h3⟩ := ArgReps.wf h'
    refine ⟨⟨?_, h1⟩, by simp [h2], by simp [h3]⟩
    cases s with
    | one k => exact RepC.wfa hv
    | agg ks => obtain ⟨us, _, hv⟩ := hv; exact RepCs.wfa hv

/-- Data that a cell of a result does not tell apart. -/
def eqK : K → D → D → Prop
  | .int _, a, b => a.asInt = b.asInt
  | .bool, a, b => a.asBool = b.asBool
  | .str, a, b => a.asStr = b.asStr
  | .sl _ _, a, b => a.asList = b.asList
def eqRC : RC → D → D → Prop
  | .im k, a, b => eqK k a b
  | .own _ _ _, a, b => a.asList = b.asList
def eqRets : List RC → List D → List D → Prop
  | [], _, _ => True
  | c :: cs, ds, ds' => eqRC c (ds.headD default) (ds'.headD default) ∧ eqRets cs ds.tail ds'.tail
theorem eqK_refl (k : K) (a : D) : eqK k a a := by cases k <;> rfl
theorem eqRC_refl (c : RC) (a : D) : eqRC c a a := by cases c <;> first | exact eqK_refl _ _ | rfl
theorem eqRets_refl : ∀ (cs : List RC) (ds : List D), eqRets cs ds ds
  | [], _ => trivial
  | c :: cs, ds => ⟨eqRC_refl c _, eqRets_refl cs ds.tail⟩
theorem RepC.eqv {w : World} {M : Nat → Nat → Prop} {k : K} {v : Value} {a b : D} (h : RepC w M k v a) (he : eqK k a b) : RepC w M k v b := by
  cases k with
  | int k => have he : a.asInt = b.asInt := he; unfold RepC at h ⊢; rw [← he]; exact h
  | bool => have he : a.asBool = b.asBool := he; unfold RepC at h ⊢; rw [← he]; exact h
  | str => have he : a.asStr = b.asStr := he; unfold RepC at h ⊢; rw [← he]; exact h
  | sl e ks => have he : a.asList = b.asList := he; unfold RepC at h ⊢; rw [← he]; exact h
theorem RetCs.eqv {w : World} {M : Nat → Nat → Prop} : ∀ {cs : List RC} {vs : List Value} {ds ds' : List D} {Fs : List (List Nat)}, RetCs w M cs vs ds Fs → eqRets cs ds ds' → RetCs w M cs vs ds' Fs
  | [], _, _, _, _, h, _ => h
  | .im k :: cs, _, _, _, _, ⟨v, vs', e, hc, hr⟩, he => ⟨v, vs', e, hc.eqv he.1, hr.eqv he.2⟩
  | .own t ks dp :: cs, _, _, _, _, ⟨v, vs', F, Fs', e1, e2, ho, hr⟩, he => ⟨v, vs', F, Fs', e1, e2, by have h1 : _ = _ := he.1; rw [← h1]; exact ho, hr.eqv he.2⟩

theorem VC.wp_mono {Φ : Fns} {post post' : List D → Prop} (h : ∀ l, post l → post' l) : ∀ (t : VC) (env : List D) (B : Nat → List D → Prop), t.wp Φ post env B → t.wp Φ post' env B := by
  have hN : ∀ (n : Nat) {p q : List D → Prop}, (∀ l, p l → q l) → allN n p → allN n q := by
    intro n
    induction n with
    | zero => intro p q hpq hp; exact hpq _ hp
    | succ n ih => intro p q hpq hp d; exact ih (fun l => hpq (d :: l)) (hp d)
  have hK : ∀ (l : List (K × Nat)) (env : List D) {p q : Prop}, (p → q) → kinds env l p → kinds env l q := by
    intro l env
    induction l with
    | nil => intro p q hpq hp; exact hpq hp
    | cons x l ih => intro p q hpq hp hw; exact ih hpq (hp hw)
  intro t
  induction t with
  | req cs t ih => intro env B ht; exact ⟨ht.1, ih env B ht.2⟩
  | ite c x y ihx ihy => intro env B ht; exact ⟨fun hc => ihx env B (ht.1 hc), fun hc => ihy env B (ht.2 hc)⟩
  | loop id l m fs init body ih =>
    intro env B ⟨I, μ, h0, hI⟩
    exact ⟨I, μ, h0, hN m (fun vs hk => hK fs _ (fun hb hi => ih _ _ (hb hi)) hk) hI⟩
  | back l es => intro env B ht; exact ht
  | ret es => intro env B ht; exact h _ ht

def argV (i : Nat) : ASh → SV
  | .one k => .one (.dat k (.var i))
  | .agg ks => .agg (sdats ks (.var i) 0)
def argVs : Nat → List ASh → List SV
  | _, [] => []
  | i, s :: ss => argV i s :: argVs (i + 1) ss
def start (args : List ASh) (n : Nat) : SSt := ⟨argVs 0 args ++ List.replicate (n - args.length) .dead, []⟩

section
variable {Φ : Fns}

theorem argVs_rep {w : World} {M : Nat → Nat → Prop} {S : Sur} (hw : S.w = w) (hM : ∀ b o, S.me b o → M b o) {env : List D} : ∀ {ss : List ASh} {i : Nat} {vs : List Value} {ds : List D}, ArgReps w M ss vs ds → (∀ j, env.getD (i + j) default = ds.getD j default) →
    ∀ t, RepAV S (((argVs i ss).getD t .dead).den Φ env) (vs.getD t undef)
  | [], i, vs, ds, h, he, t => by simp [argVs, SV.den, RepAV]
  | s :: ss, i, _, _, h, he, t => by
    obtain ⟨v, vs', d, ds', rfl, rfl, hv, h'⟩ := h
    cases t with
    | zero =>
      simp only [argVs, List.getD_cons_zero]
      have e0 : env.getD i default = d := by simpa using he 0
      cases s with
      | one k =>
        have hv : RepC w M k v d := hv
        refine ⟨?_, hv.oneCell⟩
        show RepC S.w S.me k v (env.getD i default)
        rw [hw, e0]
        exact hv.mono hM
      | agg ks =>
        obtain ⟨us, rfl, hv⟩ := hv
        refine ⟨us, rfl, ?_⟩
        rw [sdats_den]
        refine dats_rep ?_
        rw [hw, E.den, e0]
        exact hv.mono hM
    | succ t =>
      simp only [argVs, List.getD_cons_succ]
      exact argVs_rep hw hM h' (fun j => by have := he (j + 1); simpa [Nat.add_assoc, Nat.add_comm 1 j] using this) t

def G0 : Gh := ⟨fun _ => undef, fun _ => []⟩

theorem start_rel {C : Cx} {args : List ASh} {vs : List Value} {ds : List D} (h : ArgReps C.w0 C.M args vs ds) (hl : args.length ≤ C.n) :
    Rel C G0 ((start args C.n).den Φ ds) { tmps := vs.toArray ++ Array.replicate (C.n - vs.toArray.size) undef, defers := [] } C.w0 := by
  obtain ⟨_, h2, h3⟩ := h.wf
  have hlen : ∀ (ss : List ASh) (i : Nat), (argVs i ss).length = ss.length := by
    intro ss
    induction ss with
    | nil => intro i; rfl
    | cons s ss ih => intro i; simp [argVs, ih]
  refine ⟨rfl, by simp [h3]; omega, by simp [SSt.den, start, hlen]; omega, fun t => ?_, fun x => rfl, fun x => List.nodup_nil, fun x y _ b hb => by simp [G0] at hb, fun x b hb => by simp [G0] at hb, ⟨rfl, rfl, rfl, Nat.le_refl _, fun _ _ _ => rfl⟩⟩
  rw [SSt.den_tmp]
  have ht : (start args C.n).tmp t = (argVs 0 args).getD t .dead := by
    unfold SSt.tmp start
    simp only [List.getD_eq_getElem?_getD, List.getElem?_append, List.getElem?_replicate]
    split
    · rfl
    · rename_i hn
      rw [List.getElem?_eq_none (l := argVs 0 args) (by omega)]
      split <;> rfl
  have hv : (vs.toArray ++ Array.replicate (C.n - vs.toArray.size) undef).getD t undef = vs.getD t undef := by
    simp only [Array.getD_eq_getD_getElem?, List.getD_eq_getElem?_getD, Array.getElem?_append, Array.getElem?_replicate, List.getElem?_toArray, List.size_toArray]
    split
    · rfl
    · rename_i hn
      rw [List.getElem?_eq_none (l := vs) (by omega)]
      split <;> rfl
  rw [ht]
  show RepAV _ _ ((vs.toArray ++ Array.replicate (C.n - vs.toArray.size) undef).getD t undef)
  rw [hv]
  refine argVs_rep rfl (fun b o hm => ?_) h (fun j => by rw [Nat.zero_add]) t
  rcases hm with hm | ⟨x, hl, _⟩
  · exact hm
  · simp [SSt.den, start, St.obj, look, Ob.live] at hl

theorem funR_of {P : Program} {T : TypeId → TI} (tok : ∀ t, (T t).ok = true → TOk P T t) (hm : P.follows .mixedOrders = true) {CT : Nat → Option Sig} (hCT : Told P Φ CT) {f : FuncId} {fn : Func} {c : Code}
    (hf : P.funcs[f]? = some fn) (hb : fn.body = some c) {args : List ASh} {rets : List RSh} {φ : Nat → List D → D} {G : Nat → SSt → Code → List It → Option (SSt × Nat)} {fuel : Nat} {vc : VC}
    (hl : args.length ≤ fn.ntmps) (hv : run T CT G (fin T fn.results.toList rets) fuel args.length (start args fn.ntmps) [.code c] = some vc)
    (hw : ∀ ds, ds.length = args.length → WFAs args ds → (φ 1000 ds).asBool = true → vc.wp Φ (fun l => eqRets (rets.flatMap RSh.cells) l (retDs (fun c => φ c ds) 0 rets)) ds fun _ _ => False) : FunR P f args rets φ := by
  intro w M vs ds hM hargs hpre
  obtain ⟨h1, h2, h3⟩ := hargs.wf
  let C : Cx := { P := P, T := T, tok := tok, w0 := w, X := [], M := M, mold := fun b o h => ⟨hM b o h, by simp⟩, n := fn.ntmps }
  refine calls_of_wp hf hb ?_
  have R0 : Rel C G0 ((start args fn.ntmps).den Φ ds) { tmps := vs.toArray ++ Array.replicate (fn.ntmps - vs.toArray.size) undef, defers := [] } w := start_rel (C := C) hargs hl
  have hend : ∀ env g s a w' es, fin T fn.results.toList rets s = some es → Rel C g (SSt.den Φ env s) a w' → (fun l => eqRets (rets.flatMap RSh.cells) l (retDs (fun c => φ c ds) 0 rets)) (es.map (E.den Φ env)) →
      bodyPost P fn (fun e w' => ∃ us Fs, e = .returned (mkRet rets us) ∧ Below w.heap.size w w' ∧ RetCs w' (MeH M (retHeads (rets.flatMap RSh.cells) us)) (rets.flatMap RSh.cells) us (retDs (fun c => φ c ds) 0 rets) Fs ∧
        Fs.flatten.Nodup ∧ ∀ b, b ∈ Fs.flatten → w.heap.size ≤ b ∧ b < w'.heap.size) .normal a w' ∧
      bodyPost P fn (fun e w' => ∃ us Fs, e = .returned (mkRet rets us) ∧ Below w.heap.size w w' ∧ RetCs w' (MeH M (retHeads (rets.flatMap RSh.cells) us)) (rets.flatMap RSh.cells) us (retDs (fun c => φ c ds) 0 rets) Fs ∧
        Fs.flatten.Nodup ∧ ∀ b, b ∈ Fs.flatten → w.heap.size ≤ b ∧ b < w'.heap.size) .ret a w' := fun env g s a w' es he R hp => by
    obtain ⟨us, Fs, e1, e2, e3, e4⟩ := fin_sound (C := C) R rfl he
    replace e2 := e2.eqv hp
    have hbel : Below w.heap.size w w' := ⟨R.fr.os, R.fr.tape, R.fr.output, R.fr.size, fun k hk => R.fr.block k hk (by simp [C])⟩
    exact ⟨⟨R.defers, _, e1, us, Fs, rfl, hbel, e2, e3, e4⟩, ⟨R.defers, _, e1, us, Fs, rfl, hbel, e2, e3, e4⟩⟩
  have := run_sound (C := C) (Φ := Φ) (CT := CT) hm hCT (post := fun l => eqRets (rets.flatMap RSh.cells) l (retDs (fun c => φ c ds) 0 rets)) hend fuel args.length (start args fn.ntmps) [.code c] vc hv ds (fun _ _ => False) _ G0 _ w h2 ⟨_, rfl, rfl⟩ R0 (hw ds h2 h1 hpre)
  exact this
end

end Go.Vx

/-
  Vx, part 35: a pattern for a loop. Nothing here is relied on.
-/
namespace Go.Vx
open Go.RowKit (Below)

def opsC : Code → List Oper
  | .region _ ops _ => ops.toList
  | .seq a b => opsC a ++ opsC b
  | .cond _ a b => opsC a ++ opsC b
  | .block _ c => opsC c
  | .loop c => opsC c
  | _ => []
def operT (l : List Operand) : List Nat := l.filterMap fun x => match x with | .tmp t => some t | _ => none
/-- The temporaries that are read somewhere. -/
def usesC : Code → List Nat
  | .region _ ops _ => ops.toList.flatMap fun o => operT o.op.operands.toList
  | .seq a b => usesC a ++ usesC b
  | .cond x a b => operT [x] ++ usesC a ++ usesC b
  | .block _ c => usesC c
  | .loop c => usesC c
  | _ => []
def usesK : List It → List Nat
  | [] => []
  | .code c :: k => usesC c ++ usesK k
  | .lp _ _ _ H :: k => ((List.range H.tmps.length).zip H.tmps).filterMap (fun p => match p.2 with | .dead => none | _ => some p.1) ++ usesK k
  | _ :: k => usesK k
def resT (l : List ResultVar) : List Nat := l.map fun r => match r with | .tmp t => t | .cell t _ => t

/-- What is told of a loop: which of its candidates it leaves as they are; which nil slices are data. -/
structure Hint where
  id : Nat
  keep : List Nat
  data : List Nat
  /-- the rows of its arrays own nothing -/
  flat : Bool
  deriving Inhabited

def hasN (x : Nat) (l : List Nat) : Bool := l.any fun y => y == x

def rootT (ops : List Oper) : Nat → Nat → Nat
  | 0, p => p
  | f + 1, p => match ops.find? fun o => match o.dst with | some d => d == p | none => false with
    | some o => match o.op with
      | .move (.tmp q) => rootT ops f q
      | .assign (.tmp q) => rootT ops f q
      | .fieldAddr _ (.tmp q) _ => rootT ops f q
      | .indexAddr _ (.tmp q) _ => rootT ops f q
      | .slice _ (.tmp q) _ _ _ => rootT ops f q
      | .nilCheck (.tmp q) => rootT ops f q
      | _ => p
    | none => p
def keyOfC : SC → List Nat
  | .ref z _ => [z]
  | _ => []
def keyOfV : SV → List Nat
  | .one c => keyOfC c
  | .agg cs => cs.flatMap keyOfC
  | .ptr z _ _ => [z]
  | _ => []
def touched (ops : List Oper) (s : SSt) : List Nat := ops.flatMap fun o => match o.op with
  | .store _ (.tmp p) _ => keyOfV (s.tmp (rootT ops 8 p))
  | .call c => match c.callee, c.args.toList with
    | .builtin .append, .tmp p :: _ => keyOfV (s.tmp (rootT ops 8 p))
    | _, _ => []
  | _ => []

def genC (h : Hint) (i c : Nat) : SC → SC × Nat × Nat
  | .dat k e => bif hasN c h.keep then (.dat k e, i, c + 1) else (.dat k (.var i), i + 1, c + 1)
  | .nil t ks => (.nil t ks, i, c)
  | .ref z none => (.ref z none, i, c)
  | _ => (.dead, i, c)
def genCs (h : Hint) (i c : Nat) : List SC → List SC × Nat × Nat
  | [] => ([], i, c)
  | x :: cs => match genC h i c x with
    | (c', j, d) => match genCs h j d cs with
      | (cs', l) => (c' :: cs', l)
/-- a temporary, with the objects that are new -/
def genV (h : Hint) (t i c : Nat) : SV → SV × List (Nat × SOb) × Nat × Nat
  | .one (.nil e ks) => bif hasN c h.keep then (.one (.nil e ks), [], i, c + 1) else bif hasN c h.data then (.one (.dat (.sl e ks) (.var i)), [], i + 1, c + 1) else
      (.one (.ref (64000000 + t) none), [(64000000 + t, .arr e ks (!h.flat || plainK ks) (.var i))], i + 1, c + 1)
  | .one x => match genC h i c x with | (c', j) => (.one c', [], j)
  | .agg cs => match genCs h i c cs with | (cs', j) => (.agg cs', [], j)
  | _ => (.dead, [], i, c)
def keepV : SV → SV
  | .tup _ => .dead
  | .whn _ _ => .dead
  | v => v
def genT (h : Hint) (mods use : List Nat) : Nat → Nat → Nat → List SV → List SV × List (Nat × SOb) × List Nat × Nat × Nat
  | _, i, c, [] => ([], [], [], i, c)
  | t, i, c, v :: vs => bif !hasN t use then match genT h mods use (t + 1) i c vs with
      | (vs', os, ts, l) => (.dead :: vs', os, ts, l)
    else bif hasN t mods then
      match genV h t i c v with
      | (v', o, j, d) => match genT h mods use (t + 1) j d vs with
        | (vs', os, ts, l) => (v' :: vs', o ++ os, keyOfV v ++ ts, l)
    else match genT h mods use (t + 1) i c vs with
      | (vs', os, ts, l) => (keepV v :: vs', os, ts, l)
def genO (h : Hint) (i c : Nat) : SOb → SOb × Nat × Nat
  | .arr t ks dp e => bif hasN c h.keep then (.arr t ks dp e, i, c + 1) else (.arr t ks (dp && (!h.flat || plainK ks)) (.var i), i + 1, c + 1)
  | .box T cs => match genCs h i c cs with | (cs', j) => (.box T cs', j)
  | o => (o, i, c)
def genOs (s : SSt) (h : Hint) (tou : List Nat) : Nat → Nat → List Nat → List (Nat × SOb) × Nat × Nat
  | i, c, [] => ([], i, c)
  | i, c, z :: zs => match s.obj z with
    | some o => bif hasN z tou then match genO h i c o with
        | (o', j, d) => match genOs s h tou j d zs with
          | (os, l) => ((z, o') :: os, l)
      else match genOs s h tou i c zs with
        | (os, l) => ((z, o) :: os, l)
    | none => genOs s h tou i c zs
def uniq : List Nat → List Nat
  | [] => []
  | x :: l => bif hasN x l then uniq l else x :: uniq l

def gen (hs : List Hint) (rt : List Nat) (n : Nat) (s : SSt) (c : Code) (k : List It) : Option (SSt × Nat) :=
  let id := (firstId c).getD 0
  let h := (hs.find? fun h => h.id == id).getD ⟨id, [], [], false⟩
  let ops := opsC c
  let mods := ops.filterMap (·.dst)
  match genT h mods (rt ++ usesC c ++ usesK k) 0 n 0 s.tmps with
  | (tmps, new, ts, i, c) =>
    let refs := tmps.flatMap keyOfV
    let refs2 := refs ++ refs.flatMap fun z => match s.obj z with | some (.box _ cs) => cs.flatMap keyOfC | _ => []
    match genOs s h (touched ops s ++ ts) i c (uniq refs2) with
    | (os, j, _) => some (⟨tmps, os ++ new⟩, j - n)

/-! The contract of a function, by its number. -/
structure Told1 where
  f : Nat
  args : List ASh
  rets : List RSh
def sigs : List Told1 → Nat → Option Sig
  | [], _ => none
  | t :: l, f => bif t.f == f then some ⟨t.args, t.rets⟩ else sigs l f

def vcOf (T : TypeId → TI) (CT : Nat → Option Sig) (hs : List Hint) (fn : Func) (args : List ASh) (rets : List RSh) : Option VC := match fn.body with
  | some c => run T CT (gen hs (resT fn.results.toList)) (fin T fn.results.toList rets) 2000 args.length (start args fn.ntmps) [.code c]
  | none => none

theorem funR_vc {Φ : Fns} {P : Program} {T : TypeId → TI} (tok : ∀ t, (T t).ok = true → TOk P T t) (hm : P.follows .mixedOrders = true) {CT : Nat → Option Sig} (hCT : Told P Φ CT) {f : FuncId} {fn : Func}
    (hf : P.funcs[f]? = some fn) {args : List ASh} {rets : List RSh} {φ : Nat → List D → D} {hs : List Hint} {vc : VC} (hl : args.length ≤ fn.ntmps) (hv : vcOf T CT hs fn args rets = some vc)
    (hw : ∀ ds, ds.length = args.length → WFAs args ds → (φ 1000 ds).asBool = true → vc.wp Φ (fun l => eqRets (rets.flatMap RSh.cells) l (retDs (fun c => φ c ds) 0 rets)) ds fun _ _ => False) : FunR P f args rets φ := by
  unfold vcOf at hv
  split at hv
  · rename_i c hb
    exact funR_of tok hm hCT hf hb hl hv hw
  · cases hv

end Go.Vx

/-
  Vx, part 36: the table of types.
-/
namespace Go.Vx
open Go.RowKit (Below)

def catK : Option (List K) → Option (List K) → Option (List K)
  | some a, some b => some (a ++ b)
  | _, _ => none
def ksOf (P : Program) : Nat → TypeId → Option (List K)
  | 0, _ => none
  | f + 1, t => match P.underlying t with
    | some (.struct fs) => fs.toList.foldr (fun x acc => catK (ksOf P f x.type) acc) (some [])
    | some (.slice e) => match ksOf P f e with | some ks => some [.sl e ks] | none => none
    | some (.int k) => some [.int k]
    | some .bool => some [.bool]
    | some .string => some [.str]
    | _ => none
def flatFB (P : Program) : Nat → List Field → List K → Bool
  | _, [], [] => true
  | j, f :: fs, k :: ks => !decide (f.name = "_") && (f.offset == j && ((match k, P.underlying f.type with
    | .int k, some (.int k') => decide (k = k')
    | .bool, some .bool => true
    | .str, some .string => true
    | _, _ => false) && flatFB P (j + 1) fs ks))
  | _, _, _ => false
def flatB (P : Program) (t : TypeId) (ks : List K) : Bool := match P.underlying t with
  | some (.struct fs) => flatFB P 0 fs.toList ks
  | _ => false
theorem flatFB_is {P : Program} : ∀ {fs : List Field} {ks : List K} {j : Nat}, flatFB P j fs ks = true → flatF P j fs ks
  | [], [], _, _ => trivial
  | [], _ :: _, _, h => by simp [flatFB] at h
  | _ :: _, [], _, h => by simp [flatFB] at h
  | f :: fs, k :: ks, j, h => by
    simp only [flatFB, Bool.and_eq_true, Bool.not_eq_true', decide_eq_false_iff_not, beq_iff_eq] at h
    refine ⟨h.1, h.2.1, ?_, flatFB_is h.2.2.2⟩
    have := h.2.2.1
    split at this
    · rename_i k1 k2 h2
      simp only [decide_eq_true_eq] at this
      subst this
      exact h2
    · rename_i h2; exact h2
    · rename_i h2; exact h2
    · cases this
def eqB (P : Program) (i : TI) (t : TypeId) : Bool := !i.eq || (flatB P t i.ks && (!P.stoodInHeld t && !P.eqGuardType P.depth t))
theorem eqB_is {P : Program} {i : TI} {t : TypeId} (h : eqB P i t = true) (hi : i.eq = true) : ∃ fs, P.underlying t = some (.struct fs) ∧ P.stoodInHeld t = false ∧ P.eqGuardType P.depth t = false ∧ flatF P 0 fs.toList i.ks := by
  simp only [eqB, hi, Bool.not_true, Bool.false_or, Bool.and_eq_true, Bool.not_eq_true'] at h
  have h1 := h.1
  unfold flatB at h1
  split at h1
  · rename_i fs hf
    exact ⟨fs, hf, h.2.1, h.2.2, flatFB_is h1⟩
  · cases h1
def tiOf (P : Program) (t : TypeId) : TI := match ksOf P 12 t, P.info? t, P.underlying t with
  | some ks, some i, some d => match d with
    | .struct fs => ⟨true, ks, true, fs.toList.map fun f => (f.offset, f.type), none, none, false, i.bytes, flatB P t ks⟩
    | .slice e => ⟨true, ks, false, [], some e, none, false, i.bytes, false⟩
    | .int k => ⟨true, ks, false, [], none, some k, false, i.bytes, false⟩
    | .bool => ⟨true, ks, false, [], none, none, false, i.bytes, false⟩
    | .string => ⟨true, ks, false, [], none, none, true, i.bytes, false⟩
    | _ => default
  | _, _, _ => default

def zeroB : List Value → List K → Bool
  | [], [] => true
  | .int k n :: vs, .int k' :: ks => decide (k = k') && (decide (n = 0) && zeroB vs ks)
  | .bool b :: vs, .bool :: ks => !b && zeroB vs ks
  | .string s :: vs, .str :: ks => decide (s = ⟨#[]⟩) && zeroB vs ks
  | .slice none 0 0 :: vs, .sl _ _ :: ks => zeroB vs ks
  | _, _ => false
theorem zeroB_eq : ∀ {vs : List Value} {ks : List K}, zeroB vs ks = true → vs = ks.map zeroV := by
  intro vs ks
  fun_induction zeroB vs ks with
  | case1 => intro _; rfl
  | case2 k n vs k' ks ih =>
    intro h
    simp only [Bool.and_eq_true, decide_eq_true_eq] at h
    obtain ⟨rfl, rfl, h⟩ := h
    simp [zeroV, ih h]
  | case3 b vs ks ih =>
    intro h
    simp only [Bool.and_eq_true, Bool.not_eq_true'] at h
    simp [zeroV, h.1, ih h.2]
  | case4 s vs ks ih =>
    intro h
    simp only [Bool.and_eq_true, decide_eq_true_eq] at h
    simp [zeroV, h.1, ih h.2]
  | case5 vs e ks' ks ih =>
    intro h
    simp [zeroV, ih h]
  | case6 => intro h; cases h

def fldsB : List (Nat × TypeId) → List (Nat × TypeId) → Bool
  | [], [] => true
  | a :: as, b :: bs => a.1 == b.1 && (a.2 == b.2 && fldsB as bs)
  | _, _ => false
theorem fldsB_eq : ∀ {a b : List (Nat × TypeId)}, fldsB a b = true → a = b
  | [], [], _ => rfl
  | [], _ :: _, h => by simp [fldsB] at h
  | _ :: _, [], h => by simp [fldsB] at h
  | (x, y) :: as, (u, v) :: bs, h => by
    simp only [fldsB, Bool.and_eq_true, beq_iff_eq] at h
    rw [h.1, h.2.1, fldsB_eq h.2.2]

def descB (i : TI) : TypeDesc → Bool
  | .struct fs => i.agg && (i.sl.isNone && (i.ik.isNone && (!i.isStr && fldsB (fs.toList.map fun f => (f.offset, f.type)) i.flds)))
  | .slice e => !i.agg && (isN i.sl e && (i.ik.isNone && (!i.isStr && match i.ks with | [.sl e' _] => e' == e | _ => false)))
  | .int k => !i.agg && (i.sl.isNone && ((match i.ik with | some k' => decide (k' = k) | none => false) && (!i.isStr && K.eqbs i.ks [.int k])))
  | .bool => !i.agg && (i.sl.isNone && (i.ik.isNone && (!i.isStr && K.eqbs i.ks [.bool])))
  | .string => !i.agg && (i.sl.isNone && (i.ik.isNone && (i.isStr && K.eqbs i.ks [.str])))
  | _ => false
theorem descB_is {i : TI} {d : TypeDesc} (h : descB i d = true) : descIs i d := by
  cases d <;> simp only [descB, Bool.false_eq_true, Bool.and_eq_true, Bool.not_eq_true', Option.isNone_iff_eq_none] at h
  case struct fs => exact ⟨h.1, h.2.1, h.2.2.1, h.2.2.2.1, fldsB_eq h.2.2.2.2⟩
  case slice e =>
    refine ⟨h.1, isN_eq h.2.1, h.2.2.1, h.2.2.2.1, ?_⟩
    have := h.2.2.2.2
    split at this
    · rename_i e' ks hk
      have e1 : e' = e := by simpa using this
      subst e1
      exact ⟨ks, hk⟩
    · cases this
  case int k =>
    refine ⟨h.1, h.2.1, ?_, h.2.2.2.1, K.eqbs_eq h.2.2.2.2⟩
    have := h.2.2.1
    split at this
    · rename_i k' hk
      rw [hk, of_decide_eq_true this]
    · cases this
  case bool => exact ⟨h.1, h.2.1, h.2.2.1, h.2.2.2.1, K.eqbs_eq h.2.2.2.2⟩
  case string => exact ⟨h.1, h.2.1, h.2.2.1, h.2.2.2.1, K.eqbs_eq h.2.2.2.2⟩

def tOkB (P : Program) (i : TI) (t : TypeId) : Bool := !i.ok || match P.info? t, P.underlying t with
  | some n, some d => match n.zero with
    | some z => n.size == i.ks.length && (n.bytes == i.bytes && (zeroB z.cells.toList i.ks && (descB i d && eqB P i t)))
    | none => false
  | _, _ => false
abbrev Tab := List (Nat × TI)
def tabOk (P : Program) (l : Tab) : Bool := l.all fun q => tOkB P q.2 q.1
def tabT (l : Tab) (t : TypeId) : TI := match l with
  | [] => default
  | (u, i) :: l => bif Nat.beq u t then i else tabT l t

theorem tabT_mem {t : TypeId} : ∀ {l : Tab}, (tabT l t).ok = true → (t, tabT l t) ∈ l
  | [], h => by simp [tabT] at h; cases h
  | (u, i) :: l, h => by
    simp only [tabT] at h ⊢
    cases hu : Nat.beq u t with
    | true =>
      have : u = t := Nat.eq_of_beq_eq_true hu
      subst this
      simp
    | false =>
      rw [hu] at h
      simp only [cond_false] at h ⊢
      exact List.mem_cons_of_mem _ (tabT_mem h)

theorem tabT_ok {P : Program} {l : Tab} (h : tabOk P l = true) (t : TypeId) (ht : (tabT l t).ok = true) : TOk P (tabT l) t := by
  have h1 := List.all_eq_true.1 h _ (tabT_mem ht)
  simp only [tOkB, ht, Bool.not_true, Bool.false_or] at h1
  split at h1
  · rename_i n d e1 e2
    split at h1
    · rename_i z e3
      simp only [Bool.and_eq_true, beq_iff_eq] at h1
      exact ⟨⟨n, d, z, e1, e2, h1.1, h1.2.1, e3, zeroB_eq h1.2.2.1, descB_is h1.2.2.2.1⟩, eqB_is h1.2.2.2.2⟩
    · cases h1
  · cases h1

/-! Functions, one after the other. -/
def Good1 (P : Program) (Φ : Fns) (t : Told1) : Prop := FunR P t.f t.args t.rets (Φ t.f) ∧ ∃ fn, P.funcs[t.f]? = some fn ∧ fn.body ≠ none ∧ fn.name ≠ "runtime.NumGoroutine"

theorem told_of {P : Program} {Φ : Fns} : ∀ {l : List Told1}, (∀ t ∈ l, Good1 P Φ t) → Told P Φ (sigs l)
  | [], _, f, sg, h => by simp [sigs] at h
  | t :: l, hl, f, sg, h => by
    simp only [sigs] at h
    cases ht : t.f == f with
    | true =>
      rw [ht] at h
      simp only [cond_true, Option.some.injEq] at h
      have : t.f = f := by simpa using ht
      subst this
      subst h
      exact hl t (by simp)
    | false =>
      rw [ht] at h
      exact told_of (l := l) (fun t ht => hl t (by simp [ht])) f sg h

theorem good1e {P : Program} {Φ : Fns} {T : TypeId → TI} (tok : ∀ t, (T t).ok = true → TOk P T t) (hm : P.follows .mixedOrders = true) {l : List Told1} (hl : ∀ t ∈ l, Good1 P Φ t) {t : Told1} {fn : Func} {hs : List Hint} {vc : VC}
    (hf : P.funcs[t.f]? = some fn) (hn : fn.name ≠ "runtime.NumGoroutine") (hlen : t.args.length ≤ fn.ntmps) (hv : vcOf T (sigs l) hs fn t.args t.rets = some vc)
    (hw : ∀ ds, ds.length = t.args.length → WFAs t.args ds → (Φ t.f 1000 ds).asBool = true → vc.wp Φ (fun l => eqRets (t.rets.flatMap RSh.cells) l (retDs (fun c => Φ t.f c ds) 0 t.rets)) ds fun _ _ => False) : Good1 P Φ t := by
  refine ⟨funR_vc tok hm (told_of hl) hf hlen hv hw, fn, hf, ?_, hn⟩
  intro hb
  unfold vcOf at hv
  rw [hb] at hv
  cases hv

theorem good1 {P : Program} {Φ : Fns} {T : TypeId → TI} (tok : ∀ t, (T t).ok = true → TOk P T t) (hm : P.follows .mixedOrders = true) {l : List Told1} (hl : ∀ t ∈ l, Good1 P Φ t) {t : Told1} {fn : Func} {hs : List Hint} {vc : VC}
    (hf : P.funcs[t.f]? = some fn) (hn : fn.name ≠ "runtime.NumGoroutine") (hlen : t.args.length ≤ fn.ntmps) (hv : vcOf T (sigs l) hs fn t.args t.rets = some vc)
    (hw : ∀ ds, ds.length = t.args.length → WFAs t.args ds → (Φ t.f 1000 ds).asBool = true → vc.wp Φ (fun l => l = retDs (fun c => Φ t.f c ds) 0 t.rets) ds fun _ _ => False) : Good1 P Φ t :=
  good1e tok hm hl hf hn hlen hv fun ds h1 h2 h3 => VC.wp_mono (fun l h => by rw [h]; exact eqRets_refl _ _) _ _ _ (hw ds h1 h2 h3)

end Go.Vx

/-
  Vx, part 37: plain functions on data: how large, the same again, alike.
-/
namespace Go.Vx
open Go.RowKit (Below)

/-- The row at a place. -/
def rowN (xs : List (List D)) (i : Nat) : List D := xs.getD i []
theorem rowN_lt {xs : List (List D)} {i : Nat} (h : i < xs.length) : rowN xs i = xs[i] := by simp [rowN, h]
theorem rowN_mem {xs : List (List D)} {i : Nat} (h : i < xs.length) : rowN xs i ∈ xs := by rw [rowN_lt h]; exact List.getElem_mem _
@[simp] theorem rowN_zero (x : List D) (xs : List (List D)) : rowN (x :: xs) 0 = x := rfl
@[simp] theorem rowN_succ (x : List D) (xs : List (List D)) (i : Nat) : rowN (x :: xs) (i + 1) = rowN xs i := by simp [rowN]
def sumR (p : List D → Nat) : List (List D) → Nat
  | [] => 0
  | x :: xs => p x + sumR p xs
def eqR (p : List D → List D → Bool) : List (List D) → List (List D) → Bool
  | [], [] => true
  | x :: xs, y :: ys => p x y && eqR p xs ys
  | _, _ => false
mutual
/-- How large a datum is: its rows and its texts. -/
def szD : K → D → Nat
  | .int _, _ => 0
  | .bool, _ => 0
  | .str, d => d.asStr.size
  | .sl _ ks, d => d.asList.length + sumR (szDs ks) d.asList
def szDs : List K → List D → Nat
  | [], _ => 0
  | k :: ks, ds => szD k (ds.headD default) + szDs ks ds.tail
end
mutual
/-- A datum, its rows as long as its kind has them. -/
def cnD : K → D → D
  | .int _, d => d
  | .bool, d => d
  | .str, d => d
  | .sl _ ks, d => .sl (d.asList.map (cnDs ks))
def cnDs : List K → List D → List D
  | [], _ => []
  | k :: ks, ds => cnD k (ds.headD default) :: cnDs ks ds.tail
end
mutual
def eqD : K → D → D → Bool
  | .int _, d, e => decide (d.asInt = e.asInt)
  | .bool, d, e => d.asBool == e.asBool
  | .str, d, e => decide (d.asStr = e.asStr)
  | .sl _ ks, d, e => eqR (eqDs ks) d.asList e.asList
def eqDs : List K → List D → List D → Bool
  | [], _, _ => true
  | k :: ks, ds, es => eqD k (ds.headD default) (es.headD default) && eqDs ks ds.tail es.tail
end

theorem eqR_refl {p : List D → List D → Bool} (h : ∀ x, p x x = true) : ∀ xs, eqR p xs xs = true
  | [] => rfl
  | x :: xs => by simp [eqR, h, eqR_refl h xs]
mutual
theorem eqD_refl : ∀ (k : K) (d : D), eqD k d d = true
  | .int _, d => by simp [eqD]
  | .bool, d => by simp [eqD]
  | .str, d => by simp [eqD]
  | .sl _ ks, d => eqR_refl (fun x => eqDs_refl ks x) d.asList
theorem eqDs_refl : ∀ (ks : List K) (ds : List D), eqDs ks ds ds = true
  | [], _ => rfl
  | k :: ks, ds => by rw [eqDs, eqD_refl k, eqDs_refl ks]; rfl
end

theorem sumR_append (p : List D → Nat) : ∀ (xs ys : List (List D)), sumR p (xs ++ ys) = sumR p xs + sumR p ys
  | [], ys => by simp [sumR]
  | x :: xs, ys => by simp [sumR, sumR_append p xs ys]; omega
theorem sumR_take (p : List D → Nat) {xs : List (List D)} {i : Nat} (h : i < xs.length) : sumR p (xs.take (i + 1)) = sumR p (xs.take i) + p (rowN xs i) := by
  rw [List.take_add_one, List.getElem?_eq_getElem h, sumR_append]
  simp [sumR, rowN_lt h]
theorem sumR_take_le (p : List D → Nat) {xs : List (List D)} {i : Nat} : sumR p (xs.take i) ≤ sumR p xs := by
  conv => rhs; rw [← List.take_append_drop i xs, sumR_append]
  omega

/-- A proposition as a Bool, with no instance in it. -/
noncomputable def tt (p : Prop) : Bool := @decide p (Classical.propDecidable p)
@[simp] theorem tt_ok (p : Prop) : (tt p = true) = p := by simp [tt]
@[simp] theorem tt_no (p : Prop) : (tt p = false) = ¬ p := by simp [tt]
theorem decide_tt {p : Prop} {i : Decidable p} : @decide p i = tt p := by by_cases h : p <;> simp [h, tt]
@[simp] theorem tt_and (p q : Prop) : (tt p && tt q) = tt (p ∧ q) := by rw [Bool.eq_iff_iff]; simp
@[simp] theorem tt_not (p : Prop) : (!tt p) = tt (¬ p) := by rw [Bool.eq_iff_iff]; simp
@[simp] theorem tt_true : tt True = true := by simp
@[simp] theorem tt_false : tt False = false := by simp
theorem tt_congr {p q : Prop} (h : p ↔ q) : tt p = tt q := by rw [propext h]
theorem tt_eq (b : Bool) : tt (b = true) = b := by rw [Bool.eq_iff_iff]; simp
@[simp] theorem tt_inj (p q : Prop) : (tt p = tt q) = (p ↔ q) := by rw [Bool.eq_iff_iff]; simp

/-! Numbers of 64 bits. -/
theorem w64 {n : Int} (h : -9223372036854775808 ≤ n) (h' : n ≤ 9223372036854775807) : IntKind.i64.wrap n = n := by
  simp [IntKind.wrap, IntKind.bits, IntKind.signed]
  omega

theorem inR_i64 {n : Int} : inR .i64 n ↔ -9223372036854775808 ≤ n ∧ n ≤ 9223372036854775807 := by
  simp [inR, IntKind.min, IntKind.max, IntKind.bits, IntKind.signed]

section
variable {x y : Int}
@[simp] theorem intV_add {k : IntKind} : intV .add k x y = .int (k.wrap (x + y)) := rfl
@[simp] theorem intV_sub {k : IntKind} : intV .sub k x y = .int (k.wrap (x - y)) := rfl
@[simp] theorem intV_mul {k : IntKind} : intV .mul k x y = .int (k.wrap (x * y)) := rfl
@[simp] theorem intV_quo {k : IntKind} : intV .quo k x y = .int (k.wrap (x.tdiv y)) := rfl
@[simp] theorem intV_rem {k : IntKind} : intV .rem k x y = .int (x.tmod y) := rfl
@[simp] theorem intV_eql {k : IntKind} : intV .eql k x y = .bool (tt (x = y)) := by rw [← decide_tt]; rfl
@[simp] theorem intV_neq {k : IntKind} : intV .neq k x y = .bool (!tt (x = y)) := by rw [← decide_tt]; rfl
@[simp] theorem intV_lss {k : IntKind} : intV .lss k x y = .bool (tt (x < y)) := by rw [← decide_tt]; rfl
@[simp] theorem intV_leq {k : IntKind} : intV .leq k x y = .bool (tt (x ≤ y)) := by rw [← decide_tt]; rfl
@[simp] theorem intV_gtr {k : IntKind} : intV .gtr k x y = .bool (tt (y < x)) := by rw [← decide_tt]; rfl
@[simp] theorem intV_geq {k : IntKind} : intV .geq k x y = .bool (tt (y ≤ x)) := by rw [← decide_tt]; rfl
end
section
variable {x y : ByteArray}
@[simp] theorem strV_add : strV .add x y = .str (x ++ y) := rfl
@[simp] theorem strV_eql : strV .eql x y = .bool (tt (x = y)) := by rw [← decide_tt]; rfl
@[simp] theorem strV_neq : strV .neq x y = .bool (!tt (x = y)) := by rw [← decide_tt]; rfl
@[simp] theorem strV_lss : strV .lss x y = .bool (Op.bytesLess x.toList y.toList) := rfl
@[simp] theorem strV_geq : strV .geq x y = .bool (!Op.bytesLess x.toList y.toList) := rfl
end

@[simp] theorem D.row_sl (r : List D) : (D.sl [r]).row = r := rfl
theorem setB_same {B : Nat → List D → Prop} {l : Nat} {p : List D → Prop} : setB B l p l = p := by simp [setB]
theorem setB_ne {B : Nat → List D → Prop} {l j : Nat} {p : List D → Prop} (h : j ≠ l) : setB B l p j = B j := by simp [setB, h]

theorem eqD_int (k : IntKind) (d e : D) : eqD (.int k) d e = tt (d.asInt = e.asInt) := by rw [← decide_tt]; rfl
theorem eqD_bool (d e : D) : eqD .bool d e = (d.asBool == e.asBool) := rfl
theorem eqD_str (d e : D) : eqD .str d e = tt (d.asStr = e.asStr) := by rw [← decide_tt]; rfl
theorem eqD_sl (t : TypeId) (ks : List K) (d e : D) : eqD (.sl t ks) d e = eqR (eqDs ks) d.asList e.asList := rfl
end Go.Vx

/-
  Vx, part 38: what is left to show, read in plain Lean.
-/
namespace Go.Vx
open Go.RowKit (Below)

/-- A cell of a row; a row of a list. -/
def cell (r : List D) (j : Nat) : D := r.getD j default
def rowAt (xs : List (List D)) (i : Int) : List D := rowN xs i.toNat

@[simp] theorem cell_tail (r : List D) (j : Nat) : cell r.tail j = cell r (j + 1) := by cases r <;> simp [cell]
@[simp] theorem cell_zero (d : D) (r : List D) : cell (d :: r) 0 = d := rfl
@[simp] theorem cell_succ (d : D) (r : List D) (j : Nat) : cell (d :: r) (j + 1) = cell r j := by simp [cell]
theorem headD_cell (r : List D) : r.headD default = cell r 0 := by cases r <;> rfl

section
variable {Φ : Fns} {env : List D}
@[simp] theorem den_var (i : Nat) : (E.var i).den Φ env = cell env i := rfl
@[simp] theorem den_int (n : Int) : (E.int n).den Φ env = .int n := rfl
@[simp] theorem den_bool (b : Bool) : (E.bool b).den Φ env = .bool b := rfl
@[simp] theorem den_str (s : ByteArray) : (E.str s).den Φ env = .str s := rfl
@[simp] theorem den_nl : E.nl.den Φ env = .sl [] := rfl
@[simp] theorem den_op (o : Opn) (es : List E) : (E.op o es).den Φ env = opD Φ o (E.dens Φ env es) := rfl
@[simp] theorem dens_nil : E.dens Φ env [] = [] := rfl
@[simp] theorem dens_cons (e : E) (es : List E) : E.dens Φ env (e :: es) = e.den Φ env :: E.dens Φ env es := rfl
section
variable (a b c : D)
@[simp] theorem op_bin (op : BinOp) (k : IntKind) : opD Φ (.bin op k) [a, b] = intV op k a.asInt b.asInt := rfl
@[simp] theorem op_sbin (op : BinOp) : opD Φ (.sbin op) [a, b] = strV op a.asStr b.asStr := rfl
@[simp] theorem op_beq : opD Φ .beq [a, b] = .bool (a.asBool == b.asBool) := rfl
@[simp] theorem op_bne : opD Φ .bne [a, b] = .bool (a.asBool != b.asBool) := rfl
@[simp] theorem op_not : opD Φ .not [a] = .bool (!a.asBool) := rfl
@[simp] theorem op_and : opD Φ .and [a, b] = .bool (a.asBool && b.asBool) := rfl
@[simp] theorem op_neg (k : IntKind) : opD Φ (.neg k) [a] = .int (k.wrap (0 - a.asInt)) := rfl
@[simp] theorem op_wrap (k : IntKind) : opD Φ (.wrap k) [a] = .int (k.wrap a.asInt) := rfl
@[simp] theorem op_shr (k : IntKind) : opD Φ (.shr k) [a, b] = .int (a.asInt.fdiv (2 ^ min b.asInt.toNat k.bits)) := rfl
@[simp] theorem op_sidx : opD Φ .sidx [a, b] = .int (a.asStr.toList.getD b.asInt.toNat 0).toNat := rfl
@[simp] theorem op_slen : opD Φ .slen [a] = .int a.asStr.size := rfl
@[simp] theorem op_len : opD Φ .len [a] = .int a.asList.length := rfl
@[simp] theorem op_ssub : opD Φ .ssub [a, b, c] = .str (a.asStr.extract b.asInt.toNat c.asInt.toNat) := rfl
@[simp] theorem op_ite : opD Φ .ite [a, b, c] = bif a.asBool then b else c := by show (if a.asBool = true then b else c) = _; cases a.asBool <;> rfl
@[simp] theorem op_row : opD Φ .row [a, b] = .sl [rowAt a.asList b.asInt] := rfl
@[simp] theorem op_fld (j : Nat) : opD Φ (.fld j) [a] = cell a.row j := rfl
@[simp] theorem op_mk (ds : List D) : opD Φ .mk ds = .sl [ds] := rfl
@[simp] theorem op_rput (j : Nat) (ds : List D) : opD Φ (.rput j) (a :: ds) = .sl [a.row.take j ++ ds ++ a.row.drop (j + ds.length)] := rfl
@[simp] theorem op_lset : opD Φ .lset [a, b, c] = .sl (a.asList.set b.asInt.toNat c.row) := rfl
@[simp] theorem op_lapp : opD Φ .lapp [a, b] = .sl (a.asList ++ b.asList) := rfl
@[simp] theorem op_cut : opD Φ .cut [a, b, c] = .sl ((a.asList.drop b.asInt.toNat).take c.asInt.toNat) := rfl
@[simp] theorem op_rep : opD Φ .rep [a, b] = .sl (List.replicate a.asInt.toNat b.row) := rfl
@[simp] theorem op_le : opD Φ .le [a, b] = .bool (tt (a.asInt ≤ b.asInt)) := by rw [← decide_tt]; rfl
@[simp] theorem op_lt : opD Φ .lt [a, b] = .bool (tt (a.asInt < b.asInt)) := by rw [← decide_tt]; rfl
@[simp] theorem op_nz : opD Φ .nz [a] = .bool (tt (a.asInt ≠ 0)) := by rw [← decide_tt]; rfl
@[simp] theorem op_eqi : opD Φ .eqi [a, b] = .bool (tt (a.asInt = b.asInt)) := by rw [← decide_tt]; rfl
@[simp] theorem op_strfit : opD Φ .strfit [a, b] = .bool (tt (a.asStr.size + b.asStr.size ≤ lenMax)) := by rw [← decide_tt]; rfl
@[simp] theorem op_appfit (m : Nat) : opD Φ (.appfit m) [a, b] = .bool (tt (a.asList.length + b.asList.length ≤ lenMax ∧ (a.asList.length + b.asList.length) * m ≤ 140737488355328)) := by rw [← decide_tt]; rfl
@[simp] theorem op_mkfit (m : Nat) : opD Φ (.mkfit m) [a] = .bool (tt (0 ≤ a.asInt ∧ a.asInt.toNat ≤ lenMax ∧ a.asInt.toNat * m ≤ 140737488355328)) := by rw [← decide_tt]; rfl
@[simp] theorem op_rowlen (n : Nat) : opD Φ (.rowlen n) [a] = .bool (tt (a.row.length = n)) := by rw [← decide_tt]; rfl
@[simp] theorem op_addn : opD Φ .addn [a, b] = .int ((a.asInt.toNat + b.asInt.toNat : Nat)) := rfl
@[simp] theorem op_subn : opD Φ .subn [a, b] = .int ((a.asInt.toNat - b.asInt.toNat : Nat)) := rfl
@[simp] theorem op_asl : opD Φ .asl [a] = .sl a.asList := rfl
@[simp] theorem op_ltlen : opD Φ .ltlen [a, b] = .bool (tt (a.asInt.toNat < b.asList.length)) := by rw [← decide_tt]; rfl
@[simp] theorem op_bstr : opD Φ .bstr [a] = .str (bytesOf a.asList) := rfl
@[simp] theorem op_fn (f j : Nat) (ds : List D) : opD Φ (.fn f j) ds = Φ f j ds := rfl
end

section
variable {post : List D → Prop} {B : Nat → List D → Prop}
@[simp] theorem conj_nil : conj Φ env [] = True := rfl
@[simp] theorem conj_cons (c : E) (cs : List E) : conj Φ env (c :: cs) = ((c.den Φ env).asBool = true ∧ conj Φ env cs) := rfl
@[simp] theorem kinds_nil (p : Prop) : kinds env [] p = p := rfl
@[simp] theorem kinds_cons (k : K) (i : Nat) (l : List (K × Nat)) (p : Prop) : kinds env ((k, i) :: l) p = (WFD k (cell env i) → kinds env l p) := rfl
@[simp] theorem wp_req' (cs : List E) (t : VC) : (VC.req cs t).wp Φ post env B = (conj Φ env cs ∧ t.wp Φ post env B) := rfl
@[simp] theorem wp_ite' (c : E) (x y : VC) : (VC.ite c x y).wp Φ post env B = (((c.den Φ env).asBool = true → x.wp Φ post env B) ∧ ((c.den Φ env).asBool = false → y.wp Φ post env B)) := rfl
@[simp] theorem wp_back' (l : Nat) (es : List E) : (VC.back l es).wp Φ post env B = B l (es.map (E.den Φ env)) := rfl
@[simp] theorem wp_ret' (es : List E) : (VC.ret es).wp Φ post env B = post (es.map (E.den Φ env)) := rfl

/-- A loop: what holds of its values each time, and what gets less. -/
theorem wp_loop' {id l m : Nat} {fs : List (K × Nat)} {init : List E} {body : VC} (I : List D → Prop) (μ : List D → Nat) (h0 : I (init.map (E.den Φ env)))
    (hI : allN m fun vs => kinds (env ++ vs) fs (I vs → body.wp Φ post (env ++ vs) (setB B l fun v => I v ∧ μ v < μ vs))) : (VC.loop id l m fs init body).wp Φ post env B := ⟨I, μ, h0, hI⟩
end
end
@[simp] theorem allN_zero (p : List D → Prop) : allN 0 p = p [] := rfl
@[simp] theorem allN_succ (n : Nat) (p : List D → Prop) : allN (n + 1) p = ∀ d : D, allN n fun l => p (d :: l) := rfl
@[simp] theorem setB_eq (B : Nat → List D → Prop) (l : Nat) (p : List D → Prop) : setB B l p l = p := setB_same
@[simp] theorem WFD_int (k : IntKind) (d : D) : WFD (.int k) d = inR k d.asInt := rfl
@[simp] theorem WFD_bool (d : D) : WFD .bool d = True := rfl
@[simp] theorem WFD_str (d : D) : WFD .str d = (d.asStr.size ≤ lenMax) := rfl
@[simp] theorem WFD_sl (e : TypeId) (ks : List K) (d : D) : WFD (.sl e ks) d = (d.asList.length ≤ lenMax) := rfl

@[simp] theorem WFa_int (k : IntKind) (d : D) : WFa (.int k) d = inR k d.asInt := rfl
@[simp] theorem WFa_bool (d : D) : WFa .bool d = True := rfl
@[simp] theorem WFa_str (d : D) : WFa .str d = (d.asStr.size ≤ lenMax) := rfl
@[simp] theorem WFa_sl (e : TypeId) (ks : List K) (d : D) : WFa (.sl e ks) d = (d.asList.length ≤ lenMax ∧ ∀ row, row ∈ d.asList → WFas ks row) := rfl
@[simp] theorem WFas_nil (r : List D) : WFas [] r = True := rfl
@[simp] theorem WFas_cons (k : K) (ks : List K) (r : List D) : WFas (k :: ks) r = (WFa k (cell r 0) ∧ WFas ks r.tail) := by rw [WFas, headD_cell]
@[simp] theorem WFA_one (k : K) (d : D) : WFA (.one k) d = WFa k d := rfl
@[simp] theorem WFA_agg (ks : List K) (d : D) : WFA (.agg ks) d = WFas ks d.row := rfl
@[simp] theorem WFAs_nil (ds : List D) : WFAs [] ds = True := rfl
@[simp] theorem WFAs_cons (s : ASh) (ss : List ASh) (d : D) (ds : List D) : WFAs (s :: ss) (d :: ds) = (WFA s d ∧ WFAs ss ds) := rfl

theorem szDs_nil (r : List D) : szDs [] r = 0 := rfl
theorem szDs_cons (k : K) (ks : List K) (r : List D) : szDs (k :: ks) r = szD k (cell r 0) + szDs ks r.tail := by rw [szDs, headD_cell]
theorem cnDs_nil (r : List D) : cnDs [] r = [] := rfl
theorem cnDs_cons (k : K) (ks : List K) (r : List D) : cnDs (k :: ks) r = cnD k (cell r 0) :: cnDs ks r.tail := by rw [cnDs, headD_cell]
theorem eqDs_nil (r s : List D) : eqDs [] r s = true := rfl
theorem eqDs_cons (k : K) (ks : List K) (r s : List D) : eqDs (k :: ks) r s = (eqD k (cell r 0) (cell s 0) && eqDs ks r.tail s.tail) := by rw [eqDs, headD_cell, headD_cell]

@[simp] theorem retDs_nil (φ : Nat → D) (c : Nat) : retDs φ c [] = [] := rfl
@[simp] theorem retDs_cons (φ : Nat → D) (c : Nat) (r : RSh) (rs : List RSh) : retDs φ c (r :: rs) = r.ds (φ c) ++ retDs φ (c + 1) rs := rfl
def cellsOf : Nat → Nat → List D → List D
  | 0, _, _ => []
  | n + 1, j, r => cell r j :: cellsOf n (j + 1) r
theorem range'_map (r : List D) : ∀ n j, (List.range' j n).map (fun i => r.getD i default) = cellsOf n j r
  | 0, j => rfl
  | n + 1, j => by rw [List.range'_succ, List.map_cons, range'_map r n (j + 1)]; rfl
@[simp] theorem ds_one (c : RC) (d : D) : (RSh.one c).ds d = [d] := rfl
@[simp] theorem ds_agg (cs : List RC) (d : D) : (RSh.agg cs).ds d = cellsOf cs.length 0 d.row := by
  show (List.range cs.length).map (fun j => d.row.getD j default) = _
  rw [List.range_eq_range', range'_map]
@[simp] theorem cellsOf_zero (j : Nat) (r : List D) : cellsOf 0 j r = [] := rfl
@[simp] theorem cellsOf_succ (n j : Nat) (r : List D) : cellsOf (n + 1) j r = cell r j :: cellsOf n (j + 1) r := rfl

/-- The arguments, one by one. -/
theorem args1 {p : List D → Prop} (h : ∀ a, p [a]) : ∀ ds : List D, ds.length = 1 → p ds
  | [a], _ => h a
theorem args2 {p : List D → Prop} (h : ∀ a b, p [a, b]) : ∀ ds : List D, ds.length = 2 → p ds
  | [a, b], _ => h a b
theorem args3 {p : List D → Prop} (h : ∀ a b c, p [a, b, c]) : ∀ ds : List D, ds.length = 3 → p ds
  | [a, b, c], _ => h a b c
theorem args4 {p : List D → Prop} (h : ∀ a b c d, p [a, b, c, d]) : ∀ ds : List D, ds.length = 4 → p ds
  | [a, b, c, d], _ => h a b c d

/-- A contract that asks `pre` of its arguments and gives `f` of them. -/
noncomputable def con (pre : List D → Prop) (f : Nat → List D → D) (c : Nat) (ds : List D) : D := if c = 1000 then .bool (tt (pre ds)) else f c ds
@[simp] theorem con_ok (pre : List D → Prop) (f : Nat → List D → D) (ds : List D) : ((con pre f 1000 ds).asBool = true) = pre ds := by simp [con]
theorem con_pre (pre : List D → Prop) (f : Nat → List D → D) (ds : List D) : con pre f 1000 ds = .bool (tt (pre ds)) := rfl
@[simp] theorem con_asBool (pre : List D → Prop) (f : Nat → List D → D) (ds : List D) : (con pre f 1000 ds).asBool = tt (pre ds) := rfl
@[simp] theorem con_zero (pre : List D → Prop) (f : Nat → List D → D) (ds : List D) : con pre f 0 ds = f 0 ds := rfl
@[simp] theorem con_one (pre : List D → Prop) (f : Nat → List D → D) (ds : List D) : con pre f 1 ds = f 1 ds := rfl

@[simp] theorem asBool_cond (c : Bool) (x y : D) : (bif c then x else y).asBool = bif c then x.asBool else y.asBool := by cases c <;> rfl
@[simp] theorem asInt_cond (c : Bool) (x y : D) : (bif c then x else y).asInt = bif c then x.asInt else y.asInt := by cases c <;> rfl
@[simp] theorem asStr_cond (c : Bool) (x y : D) : (bif c then x else y).asStr = bif c then x.asStr else y.asStr := by cases c <;> rfl
@[simp] theorem asList_cond (c : Bool) (x y : D) : (bif c then x else y).asList = bif c then x.asList else y.asList := by cases c <;> rfl
@[simp] theorem bool_cond (c : Bool) (x y : Bool) : (bif c then D.bool x else D.bool y) = D.bool (bif c then x else y) := by cases c <;> rfl
@[simp] theorem int_cond (c : Bool) (x y : Int) : (bif c then D.int x else D.int y) = D.int (bif c then x else y) := by cases c <;> rfl
theorem cond_ok (c x y : Bool) : ((bif c then x else y) = true) = ((c = true → x = true) ∧ (c = false → y = true)) := by cases c <;> simp
@[simp] theorem cond_true_right (c x : Bool) : (bif c then x else true) = (!c || x) := by cases c <;> rfl
@[simp] theorem cond_false_right (c x : Bool) : (bif c then x else false) = (c && x) := by cases c <;> rfl
@[simp] theorem cond_true_left (c x : Bool) : (bif c then true else x) = (c || x) := by cases c <;> rfl
@[simp] theorem cond_false_left (c x : Bool) : (bif c then false else x) = (!c && x) := by cases c <;> rfl
@[simp] theorem eqRets_nil (ds ds' : List D) : eqRets [] ds ds' = True := rfl
@[simp] theorem eqRets_cons (c : RC) (cs : List RC) (a b : D) (ds ds' : List D) : eqRets (c :: cs) (a :: ds) (b :: ds') = (eqRC c a b ∧ eqRets cs ds ds') := rfl
@[simp] theorem eqRC_im (k : K) (a b : D) : eqRC (.im k) a b = eqK k a b := rfl
@[simp] theorem eqRC_own (e : TypeId) (ks : List K) (dp : Bool) (a b : D) : eqRC (.own e ks dp) a b = (a.asList = b.asList) := rfl
@[simp] theorem eqK_int (k : IntKind) (a b : D) : eqK (.int k) a b = (a.asInt = b.asInt) := rfl
@[simp] theorem eqK_bool (a b : D) : eqK .bool a b = (a.asBool = b.asBool) := rfl
@[simp] theorem eqK_str (a b : D) : eqK .str a b = (a.asStr = b.asStr) := rfl
@[simp] theorem eqK_sl (e : TypeId) (ks : List K) (a b : D) : eqK (.sl e ks) a b = (a.asList = b.asList) := rfl
end Go.Vx

/-
  Vx, part 39: loops that measure, compare and copy the rows of a slice.
-/
namespace Go.Vx
open Go.RowKit (Below)

theorem cell_cellsOf (r : List D) : ∀ (n j i : Nat), i < n → cell (cellsOf n j r) i = cell r (j + i)
  | 0, _, i, h => by omega
  | n + 1, j, 0, _ => rfl
  | n + 1, j, i + 1, h => by rw [cellsOf_succ, cell_succ, cell_cellsOf r n (j + 1) i (by omega), Nat.add_right_comm, Nat.add_assoc]
theorem szDs_ext : ∀ (ks : List K) {r s : List D}, (∀ j, j < ks.length → cell r j = cell s j) → szDs ks r = szDs ks s
  | [], _, _, _ => rfl
  | k :: ks, r, s, h => by
    rw [szDs_cons, szDs_cons, h 0 (by simp), szDs_ext ks (r := r.tail) (s := s.tail) fun j hj => by rw [cell_tail, cell_tail]; exact h (j + 1) (by simpa using hj)]
theorem cnDs_ext : ∀ (ks : List K) {r s : List D}, (∀ j, j < ks.length → cell r j = cell s j) → cnDs ks r = cnDs ks s
  | [], _, _, _ => rfl
  | k :: ks, r, s, h => by
    rw [cnDs_cons, cnDs_cons, h 0 (by simp), cnDs_ext ks (r := r.tail) (s := s.tail) fun j hj => by rw [cell_tail, cell_tail]; exact h (j + 1) (by simpa using hj)]
theorem eqDs_ext : ∀ (ks : List K) {r s r' s' : List D}, (∀ j, j < ks.length → cell r j = cell r' j) → (∀ j, j < ks.length → cell s j = cell s' j) → eqDs ks r s = eqDs ks r' s'
  | [], _, _, _, _, _, _ => rfl
  | k :: ks, r, s, r', s', h, h' => by
    rw [eqDs_cons, eqDs_cons, h 0 (by simp), h' 0 (by simp), eqDs_ext ks (r := r.tail) (s := s.tail) (r' := r'.tail) (s' := s'.tail) (fun j hj => by rw [cell_tail, cell_tail]; exact h (j + 1) (by simpa using hj)) fun j hj => by rw [cell_tail, cell_tail]; exact h' (j + 1) (by simpa using hj)]
theorem szDs_cells (ks : List K) (r : List D) : szDs ks (cellsOf ks.length 0 r) = szDs ks r := szDs_ext ks fun j hj => by rw [cell_cellsOf r _ _ _ hj, Nat.zero_add]
theorem cnDs_cells (ks : List K) (r : List D) : cnDs ks (cellsOf ks.length 0 r) = cnDs ks r := cnDs_ext ks fun j hj => by rw [cell_cellsOf r _ _ _ hj, Nat.zero_add]
theorem eqDs_cells (ks : List K) (r s : List D) : eqDs ks (cellsOf ks.length 0 r) (cellsOf ks.length 0 s) = eqDs ks r s :=
  eqDs_ext ks (fun j hj => by rw [cell_cellsOf r _ _ _ hj, Nat.zero_add]) fun j hj => by rw [cell_cellsOf s _ _ _ hj, Nat.zero_add]
theorem cellsOf_length (r : List D) : ∀ n j, (cellsOf n j r).length = n
  | 0, _ => rfl
  | n + 1, j => by simp [cellsOf_length r n]
theorem cnDs_length : ∀ (ks : List K) (r : List D), (cnDs ks r).length = ks.length
  | [], _ => rfl
  | k :: ks, r => by simp [cnDs, cnDs_length ks]

theorem rowAt_nat (xs : List (List D)) (i : Nat) : rowAt xs (i : Int) = rowN xs i := by simp [rowAt]
theorem rowAt_mem {xs : List (List D)} {i : Int} (h : 0 ≤ i) (h' : i < xs.length) : rowAt xs i ∈ xs := by
  exact rowN_mem (by omega)

/-- A row of a slice. -/
def mkE (x i : E) : E := .op .row [x, i]
section
variable {Φ : Fns} {env : List D}
@[simp] theorem mkE_den (x i : E) : (mkE x i).den Φ env = .sl [rowAt (x.den Φ env).asList (i.den Φ env).asInt] := rfl
end

theorem conj_append {Φ : Fns} {env : List D} : ∀ (cs ds : List E), conj Φ env (cs ++ ds) = (conj Φ env cs ∧ conj Φ env ds)
  | [], ds => by simp
  | c :: cs, ds => by simp [conj_append cs ds, and_assoc]

/-! Measuring. -/
def szM (n : Nat) (l : Int) : Int := if l < n then -1 else l - n
theorem szM_neg {n : Nat} {l : Int} (h : l < n) : szM n l = -1 := if_pos h
theorem szM_pos {n : Nat} {l : Int} (h : (n : Int) ≤ l) : szM n l = l - n := if_neg (by omega)
def szPre (ds : List D) : Prop := 0 ≤ (cell ds 1).asInt ∧ (cell ds 1).asInt ≤ 1048576
noncomputable def mSzA (ks : List K) : Nat → List D → D := con szPre fun _ ds => .int (szM (szDs ks (cell ds 0).row) (cell ds 1).asInt)
noncomputable def mSzL (ks : List K) : Nat → List D → D := con szPre fun _ ds => .int (szM ((cell ds 0).asList.length + sumR (szDs ks) (cell ds 0).asList) (cell ds 1).asInt)

def szV (c : Nat) : VC := .ite (.op (.bin .lss .i64) [.op (.bin .sub .i64) [.var 1, .op .len [.var 0]], .int 0]) (.ret [.int (-1)])
  (.loop 5 0 2 [(.int .i64, 2), (.int .i64, 3)] [.op (.bin .sub .i64) [.var 1, .op .len [.var 0]], .int 0]
    (.ite (.op (.bin .lss .i64) [.var 3, .op .len [.var 0]])
      (.req [.op .le [.int 0, .var 3], .op .lt [.var 3, .op .len [.var 0]], .op (.fn c 1000) [mkE (.var 0) (.var 3), .var 2]]
        (.ite (.op (.bin .lss .i64) [.op (.fn c 0) [mkE (.var 0) (.var 3), .var 2], .int 0]) (.ret [.int (-1)])
          (.back 0 [.op (.fn c 0) [mkE (.var 0) (.var 3), .var 2], .op (.bin .add .i64) [.var 3, .int 1]])))
      (.ret [.var 2])))

theorem szV_wp {Φ : Fns} {c : Nat} {ks : List K} (hΦ : Φ c = mSzA ks) {a b : D} (ha : a.asList.length ≤ lenMax) (hb : 0 ≤ b.asInt ∧ b.asInt ≤ 1048576) (B : Nat → List D → Prop) :
    (szV c).wp Φ (fun l => l = [.int (szM (a.asList.length + sumR (szDs ks) a.asList) b.asInt)]) [a, b] B := by
  have hl : (a.asList.length : Int) ≤ 140737488355328 := by simp only [lenMax] at ha; omega
  have w1 : IntKind.i64.wrap (b.asInt - a.asList.length) = b.asInt - a.asList.length := w64 (by omega) (by omega)
  simp only [szV, wp_ite', den_op, dens_cons, dens_nil, den_var, op_bin, op_len, intV_sub, intV_lss, den_int, D.asInt_int, D.asBool_bool, tt_ok, tt_no, cell_zero, cell_succ, w1]
  refine ⟨fun h => ?_, fun h => ?_⟩
  · simp [szM]
    omega
  · refine wp_loop' (fun v => ∃ i : Nat, v = [.int (b.asInt - a.asList.length - sumR (szDs ks) (a.asList.take i)), .int i] ∧ i ≤ a.asList.length ∧ 0 ≤ b.asInt - a.asList.length - sumR (szDs ks) (a.asList.take i))
      (fun v => a.asList.length - (cell v 1).asInt.toNat) ⟨0, by simp [sumR, w1], by omega, by simp [sumR]; omega⟩ ?_
    simp
    intro d e _ _ i hd he hi hnn
    subst hd he
    have hsm := sumR_take_le (szDs ks) (xs := a.asList) (i := i)
    refine ⟨fun hlt => ?_, fun hge => ?_⟩
    · have hlt' : i < a.asList.length := by simpa using hlt
      simp [hΦ, mSzA, szPre, rowAt_nat]
      have hst := sumR_take (szDs ks) hlt'
      refine ⟨⟨by omega, by omega, by omega⟩, fun h1 => ?_, fun h1 => ?_⟩
      · have hs2 := sumR_take_le (szDs ks) (xs := a.asList) (i := i + 1)
        simp only [szM] at h1 ⊢
        split at h1 <;> split <;> omega
      · simp only [szM] at h1 ⊢
        split at h1
        · omega
        · rename_i h2
          refine ⟨⟨i + 1, ⟨?_, ?_⟩, by omega, ?_⟩, ?_⟩
          · rw [if_neg h2, hst]; simp only [Int.natCast_add]; omega
          · rw [w64 (by omega) (by omega)]; simp
          · rw [hst]; simp only [Int.natCast_add]; omega
          · rw [w64 (by omega) (by omega)]; omega
    · have hi' : i = a.asList.length := by simp at hge; omega
      subst hi'
      simp [szM] at hnn ⊢
      omega

/-- The steps of measuring a struct. -/
inductive St1 where
  | s (e : E)
  | l (e : E)
  | c (f : Nat) (e : E)
def szSV : List St1 → E → VC
  | [], L => .ret [L]
  | .s e :: st, L => .ite (.op (.bin .lss .i64) [.op (.bin .sub .i64) [L, .op .slen [e]], .int 0]) (.ret [.int (-1)]) (szSV st (.op (.bin .sub .i64) [L, .op .slen [e]]))
  | .l e :: st, L => .ite (.op (.bin .lss .i64) [.op (.bin .sub .i64) [L, .op .len [e]], .int 0]) (.ret [.int (-1)]) (szSV st (.op (.bin .sub .i64) [L, .op .len [e]]))
  | .c f e :: st, L => .req [.op (.fn f 1000) [e, L]] (.ite (.op (.bin .lss .i64) [.op (.fn f 0) [e, L], .int 0]) (.ret [.int (-1)]) (szSV st (.op (.fn f 0) [e, L])))
def stOk (Φ : Fns) (env : List D) : List St1 → List Nat → Prop
  | [], [] => True
  | .s e :: st, n :: ns => ((e.den Φ env).asStr.size = n ∧ n ≤ lenMax) ∧ stOk Φ env st ns
  | .l e :: st, n :: ns => ((e.den Φ env).asList.length = n ∧ n ≤ lenMax) ∧ stOk Φ env st ns
  | .c f e :: st, n :: ns => (∀ d : D, 0 ≤ d.asInt → d.asInt ≤ 1048576 → (Φ f 1000 [e.den Φ env, d]).asBool = true ∧ Φ f 0 [e.den Φ env, d] = .int (szM n d.asInt)) ∧ stOk Φ env st ns
  | _, _ => False
def sumN : List Nat → Nat
  | [] => 0
  | n :: ns => n + sumN ns

theorem szSV_wp {Φ : Fns} {env : List D} {B : Nat → List D → Prop} : ∀ (st : List St1) (ns : List Nat) (L : E) (l : Int), stOk Φ env st ns → (L.den Φ env).asInt = l → (st = [] → L.den Φ env = .int l) → 0 ≤ l → l ≤ 1048576 →
    (szSV st L).wp Φ (fun r => r = [.int (szM (sumN ns) l)]) env B
  | [], [], L, l, _, _, h, h0, _ => by
    simp only [szSV, wp_ret', List.map_cons, List.map_nil, h rfl, sumN]
    rw [szM_pos (by simpa using h0)]; simp
  | [], _ :: _, _, _, h, _, _, _, _ => h.elim
  | .s _ :: _, [], _, _, h, _, _, _, _ => h.elim
  | .l _ :: _, [], _, _, h, _, _, _, _ => h.elim
  | .c _ _ :: _, [], _, _, h, _, _, _, _ => h.elim
  | .s e :: st, n :: ns, L, l, h, hL, _, h0, h1 => by
    obtain ⟨⟨rfl, hm⟩, h⟩ := h
    have hm' : ((e.den Φ env).asStr.size : Int) ≤ 140737488355328 := by simp only [lenMax] at hm; omega
    have hw : IntKind.i64.wrap (l - (e.den Φ env).asStr.size) = l - (e.den Φ env).asStr.size := w64 (by omega) (by omega)
    simp only [szSV, wp_ite', den_op, dens_cons, dens_nil, op_bin, op_slen, intV_sub, intV_lss, den_int, D.asInt_int, D.asBool_bool, tt_ok, tt_no, hL, hw]
    refine ⟨fun hn => ?_, fun hn => ?_⟩
    · simp only [wp_ret', List.map_cons, List.map_nil, den_int, sumN]
      rw [szM_neg (by simp only [Int.natCast_add]; omega)]
    · have := szSV_wp (Φ := Φ) (env := env) (B := B) st ns (.op (.bin .sub .i64) [L, .op .slen [e]]) (l - (e.den Φ env).asStr.size) h (by simp [hL, hw]) (fun _ => by simp [hL, hw]) (by omega) (by omega)
      have e1 : szM (sumN ((e.den Φ env).asStr.size :: ns)) l = szM (sumN ns) (l - (e.den Φ env).asStr.size) := by
        rw [show sumN ((e.den Φ env).asStr.size :: ns) = (e.den Φ env).asStr.size + sumN ns from rfl]
        unfold szM
        split <;> split <;> omega
      rw [e1]
      exact this
  | .l e :: st, n :: ns, L, l, h, hL, _, h0, h1 => by
    obtain ⟨⟨rfl, hm⟩, h⟩ := h
    have hm' : ((e.den Φ env).asList.length : Int) ≤ 140737488355328 := by simp only [lenMax] at hm; omega
    have hw : IntKind.i64.wrap (l - (e.den Φ env).asList.length) = l - (e.den Φ env).asList.length := w64 (by omega) (by omega)
    simp only [szSV, wp_ite', den_op, dens_cons, dens_nil, op_bin, op_len, intV_sub, intV_lss, den_int, D.asInt_int, D.asBool_bool, tt_ok, tt_no, hL, hw]
    refine ⟨fun hn => ?_, fun hn => ?_⟩
    · simp only [wp_ret', List.map_cons, List.map_nil, den_int, sumN]
      rw [szM_neg (by simp only [Int.natCast_add]; omega)]
    · have := szSV_wp (Φ := Φ) (env := env) (B := B) st ns (.op (.bin .sub .i64) [L, .op .len [e]]) (l - (e.den Φ env).asList.length) h (by simp [hL, hw]) (fun _ => by simp [hL, hw]) (by omega) (by omega)
      have e1 : szM (sumN ((e.den Φ env).asList.length :: ns)) l = szM (sumN ns) (l - (e.den Φ env).asList.length) := by
        rw [show sumN ((e.den Φ env).asList.length :: ns) = (e.den Φ env).asList.length + sumN ns from rfl]
        unfold szM
        split <;> split <;> omega
      rw [e1]
      exact this
  | .c f e :: st, n :: ns, L, l, h, hL, _, h0, h1 => by
    obtain ⟨hf, h⟩ := h
    obtain ⟨f1, f2⟩ := hf (L.den Φ env) (by omega) (by omega)
    rw [hL] at f2
    simp only [szSV, wp_req', wp_ite', conj_cons, conj_nil, den_op, dens_cons, dens_nil, op_bin, op_fn, intV_lss, den_int, D.asInt_int, D.asBool_bool, tt_ok, tt_no, f1, f2, and_true, true_and]
    refine ⟨fun hn => ?_, fun hn => ?_⟩
    · have hn' : l < n := by
        rcases Int.lt_or_le l n with h' | h'
        · exact h'
        · rw [szM_pos h'] at hn; omega
      simp only [wp_ret', List.map_cons, List.map_nil, den_int, sumN]
      rw [szM_neg (by simp only [Int.natCast_add]; omega)]
    · have hn' : szM n l = l - n := by
        rcases Int.lt_or_le l n with h' | h'
        · rw [szM_neg h'] at hn; omega
        · exact szM_pos h'
      have := szSV_wp (Φ := Φ) (env := env) (B := B) st ns (.op (.fn f 0) [e, L]) (l - n) h (by simp [f2, hn']) (fun _ => by simp [f2, hn']) (by rw [hn'] at hn; omega) (by omega)
      have e1 : szM (sumN (n :: ns)) l = szM (sumN ns) (l - n) := by
        rw [hn'] at hn
        rw [show sumN (n :: ns) = n + sumN ns from rfl]
        unfold szM
        split <;> split <;> omega
      rw [e1]
      exact this

/-! Comparing. -/
noncomputable def mEqA (ks : List K) : Nat → List D → D := con (fun _ => True) fun _ ds => .bool (eqDs ks (cell ds 0).row (cell ds 1).row)
noncomputable def mEqL (ks : List K) : Nat → List D → D := con (fun _ => True) fun _ ds => .bool (eqR (eqDs ks) (cell ds 0).asList (cell ds 1).asList)

theorem eqR_len {p : List D → List D → Bool} : ∀ {xs ys : List (List D)}, xs.length ≠ ys.length → eqR p xs ys = false
  | [], [], h => by simp at h
  | [], _ :: _, _ => rfl
  | _ :: _, [], _ => rfl
  | x :: xs, y :: ys, h => by simp [eqR, eqR_len (p := p) (xs := xs) (ys := ys) (by simpa using h)]
theorem eqR_take {p : List D → List D → Bool} : ∀ {xs ys : List (List D)} {i : Nat}, i < xs.length → i < ys.length → eqR p (xs.take (i + 1)) (ys.take (i + 1)) = (eqR p (xs.take i) (ys.take i) && p (rowN xs i) (rowN ys i))
  | x :: xs, y :: ys, 0, _, _ => by simp [eqR]
  | x :: xs, y :: ys, i + 1, h, h' => by
    have := eqR_take (p := p) (xs := xs) (ys := ys) (i := i) (by simpa using h) (by simpa using h')
    simp only [List.take_succ_cons, eqR] at this ⊢
    rw [this, Bool.and_assoc]
    simp
theorem eqR_false {p : List D → List D → Bool} : ∀ {xs ys : List (List D)} {i : Nat}, i < xs.length → i < ys.length → p (rowN xs i) (rowN ys i) = false → eqR p xs ys = false
  | x :: xs, y :: ys, 0, _, _, h => by simp at h; simp [eqR, h]
  | x :: xs, y :: ys, i + 1, h, h', hp => by
    simp [eqR, eqR_false (p := p) (xs := xs) (ys := ys) (i := i) (by simpa using h) (by simpa using h') (by simpa using hp)]

/-- A loop over two slices of one length: c compares two rows. -/
def eqV' (tests : List E) (t : E) : VC := .ite (.op (.bin .neq .i64) [.op .len [.var 0], .op .len [.var 1]]) (.ret [.bool false])
  (.loop 4 0 1 [(.int .i64, 2)] [.int 0] (.ite (.op (.bin .lss .i64) [.var 2, .op .len [.var 0]])
    (.req ([.op .le [.int 0, .var 2], .op .lt [.var 2, .op .len [.var 0]], .op .lt [.var 2, .op .len [.var 1]]] ++ tests)
      (.ite t (.ret [.bool false]) (.back 0 [.op (.bin .add .i64) [.var 2, .int 1]])))
    (.ret [.bool true])))
def eqV (tests : List E) (t : E) : VC := eqV' tests (.op .not [t])

theorem eqV'_wp {Φ : Fns} {tests : List E} {t : E} {p : List D → List D → Bool} {a b : D} (ha : a.asList.length ≤ lenMax)
    (ht : ∀ i : Nat, i < a.asList.length → i < b.asList.length → conj Φ [a, b, .int i] tests ∧ (t.den Φ [a, b, .int i]).asBool = !p (rowN a.asList i) (rowN b.asList i)) (B : Nat → List D → Prop) :
    (eqV' tests t).wp Φ (fun l => l = [.bool (eqR p a.asList b.asList)]) [a, b] B := by
  have hl : (a.asList.length : Int) ≤ 140737488355328 := by simp only [lenMax] at ha; omega
  simp only [eqV', wp_ite', den_op, dens_cons, dens_nil, den_var, op_bin, op_len, intV_neq, D.asInt_int, D.asBool_bool, cell_zero, cell_succ]
  refine ⟨fun h => ?_, fun h => ?_⟩
  · simp at h ⊢
    exact eqR_len fun e => h (by rw [e])
  · have hlen : a.asList.length = b.asList.length := by simp at h; omega
    refine wp_loop' (fun v => ∃ i : Nat, v = [.int i] ∧ i ≤ a.asList.length ∧ eqR p (a.asList.take i) (b.asList.take i) = true) (fun v => a.asList.length - (cell v 0).asInt.toNat) ⟨0, by simp, by omega, by simp [eqR]⟩ ?_
    simp only [allN_succ, allN_zero, kinds_cons, kinds_nil, List.cons_append, List.nil_append]
    rintro d _ ⟨i, hd, hi, he⟩
    simp only [List.cons.injEq, and_true] at hd
    subst hd
    simp only [wp_ite', den_op, dens_cons, dens_nil, den_var, op_bin, op_len, intV_lss, D.asInt_int, D.asBool_bool, cell_zero, cell_succ, tt_ok, tt_no]
    refine ⟨fun hlt => ?_, fun hge => ?_⟩
    · have hlt' : i < a.asList.length := by omega
      obtain ⟨t1, t2⟩ := ht i hlt' (by omega)
      simp only [wp_req', conj_cons, den_op, dens_cons, dens_nil, den_var, den_int, op_le, op_lt, op_len, D.asInt_int, D.asBool_bool, cell_zero, cell_succ, tt_ok]
      refine ⟨⟨by omega, by omega, by omega, t1⟩, ?_⟩
      simp only [wp_ite', t2]
      refine ⟨fun hp => ?_, fun hp => ?_⟩
      · have : p (rowN a.asList i) (rowN b.asList i) = false := by simpa using hp
        simp [eqR_false hlt' (by omega) this]
      · have hp' : p (rowN a.asList i) (rowN b.asList i) = true := by simpa using hp
        simp only [wp_back', List.map_cons, List.map_nil, den_op, dens_cons, dens_nil, den_var, den_int, op_bin, intV_add, D.asInt_int, cell_zero, cell_succ, setB_eq]
        rw [w64 (by omega) (by omega)]
        refine ⟨⟨i + 1, by simp, by omega, ?_⟩, ?_⟩
        · rw [eqR_take hlt' (by omega), he, hp']; rfl
        · simp; omega
    · have hi' : i = a.asList.length := by omega
      subst hi'
      rw [List.take_length, hlen, List.take_length] at he
      simp [he]

theorem eqV_wp {Φ : Fns} {tests : List E} {t : E} {p : List D → List D → Bool} {a b : D} (ha : a.asList.length ≤ lenMax)
    (ht : ∀ i : Nat, i < a.asList.length → i < b.asList.length → conj Φ [a, b, .int i] tests ∧ (t.den Φ [a, b, .int i]).asBool = p (rowN a.asList i) (rowN b.asList i)) (B : Nat → List D → Prop) :
    (eqV tests t).wp Φ (fun l => l = [.bool (eqR p a.asList b.asList)]) [a, b] B :=
  eqV'_wp ha (fun i h1 h2 => ⟨(ht i h1 h2).1, by simp [(ht i h1 h2).2]⟩) B

/-! Copying. -/
def toPre (ks : List K) (ds : List D) : Prop := szDs ks (cell ds 0).row ≤ 1048576
def toPreL (ks : List K) (ds : List D) : Prop := (cell ds 0).asList.length + sumR (szDs ks) (cell ds 0).asList ≤ 1048576
noncomputable def mToA (ks : List K) : Nat → List D → D := con (toPre ks) fun _ ds => .sl [cnDs ks (cell ds 0).row]
noncomputable def mToL (ks : List K) : Nat → List D → D := con (toPreL ks) fun _ ds => .sl ((cell ds 0).asList.map (cnDs ks))

def zeroE : K → E
  | .int _ => .int 0
  | .bool => .bool false
  | .str => .str ⟨#[]⟩
  | .sl _ _ => .nl
def outE (e : E) : Nat → List K → List E
  | _, [] => []
  | j, .sl _ _ :: ks => .op .asl [.op (.fld j) [e]] :: outE e (j + 1) ks
  | j, _ :: ks => .op (.fld j) [e] :: outE e (j + 1) ks
def toV' (tests : List E) (src : E) (bytes tid : Nat) (ks : List K) : VC := .req [.op (.mkfit bytes) [.op .len [.var 0]]]
  (.loop 3 0 2 [(.int .i64, 1), (.sl tid ks, 2)] [.int 0, .op .rep [.op .len [.var 0], .op .mk (ks.map zeroE)]]
    (.ite (.op (.bin .lss .i64) [.var 1, .op .len [.var 0]])
      (.req ([.op .le [.int 0, .var 1], .op .lt [.var 1, .op .len [.var 0]]] ++ (tests ++ [.op .lt [.var 1, .op .len [.var 2]], .op .ltlen [.var 1, .var 2],
          .op (.rowlen ks.length) [.op .row [.var 2, .var 1]]]))
        (.back 0 [.op (.bin .add .i64) [.var 1, .int 1], .op .lset [.var 2, .var 1, .op (.rput 0) (.op .row [.var 2, .var 1] :: outE src 0 ks)]]))
      (.ret [.var 2])))
def toV (c bytes tid : Nat) (ks : List K) : VC := toV' [.op (.fn c 1000) [mkE (.var 0) (.var 1)]] (.op (.fn c 0) [mkE (.var 0) (.var 1)]) bytes tid ks

theorem outE_den {Φ : Fns} {env : List D} (e : E) (l : List K) : ∀ (ks : List K) (j : Nat) (r : List D), (∀ i, i < ks.length → cell (e.den Φ env).row (j + i) = cell (cnDs ks r) i) → E.dens Φ env (outE e j ks) = cnDs ks r
  | [], j, r, h => by simp [outE, cnDs]
  | k :: ks, j, r, h => by
    have ih := outE_den e l ks (j + 1) r.tail fun i hi => by
      have := h (i + 1) (by simpa using hi)
      rw [cnDs, cell_succ] at this
      rw [← this]
      congr 1
      omega
    have h0 : cell (e.den Φ env).row j = cnD k (r.headD default) := by simpa [cnDs] using h 0 (by simp)
    cases k <;> simp only [outE, dens_cons, den_op, dens_nil, op_fld, op_asl, h0, ih, cnDs, cnD, D.asList_sl]

theorem dens_zero {Φ : Fns} {env : List D} : ∀ (ks : List K), (E.dens Φ env (ks.map zeroE)).length = ks.length
  | [] => rfl
  | k :: ks => by simp [dens_zero ks]

theorem toV'_wp {Φ : Fns} {tests : List E} {src : E} {bytes tid : Nat} {ks ks' : List K} (hbytes : bytes ≤ 1000) (hlen : ks'.length = ks.length) (hcn : ∀ r, cnDs ks' r = cnDs ks r) {a : D}
    (ht : ∀ (i : Nat) (x : D), i < a.asList.length → conj Φ [a, .int i, x] tests ∧ ∀ j, j < ks.length → cell (src.den Φ [a, .int i, x]).row j = cell (cnDs ks (rowN a.asList i)) j)
    (ha : a.asList.length + sumR (szDs ks) a.asList ≤ 1048576) (B : Nat → List D → Prop) : (toV' tests src bytes tid ks').wp Φ (fun l => l = [.sl (a.asList.map (cnDs ks))]) [a] B := by
  have hb : a.asList.length * bytes ≤ 1048576 * 1000 := Nat.mul_le_mul (by omega) hbytes
  rw [toV', wp_req']
  refine ⟨by simp [lenMax]; omega, ?_⟩
  let z : List D := E.dens Φ [a] (ks'.map zeroE)
  have hz : z.length = ks'.length := dens_zero ks'
  refine wp_loop' (fun v => ∃ i : Nat, v = [.int i, .sl ((a.asList.take i).map (cnDs ks) ++ List.replicate (a.asList.length - i) z)] ∧ i ≤ a.asList.length) (fun v => a.asList.length - (cell v 0).asInt.toNat)
    ⟨0, by simp [z], by omega⟩ ?_
  simp only [allN_succ, allN_zero, kinds_cons, kinds_nil, List.cons_append, List.nil_append]
  rintro d e _ _ ⟨i, hd, hi⟩
  simp only [List.cons.injEq, and_true] at hd
  obtain ⟨rfl, rfl⟩ := hd
  simp only [wp_ite', den_op, dens_cons, dens_nil, den_var, op_bin, op_len, intV_lss, D.asInt_int, D.asBool_bool, cell_zero, cell_succ, tt_ok, tt_no]
  refine ⟨fun hlt => ?_, fun hge => ?_⟩
  · have hlt' : i < a.asList.length := by omega
    have hsum : szDs ks (rowN a.asList i) ≤ sumR (szDs ks) a.asList := by
      have h1 := sumR_take (szDs ks) hlt'
      have h2 := sumR_take_le (szDs ks) (xs := a.asList) (i := i + 1)
      omega
    have hll : ((a.asList.take i).map (cnDs ks) ++ List.replicate (a.asList.length - i) z).length = a.asList.length := by simp; omega
    have e5 : a.asList.length - i = (a.asList.length - (i + 1)) + 1 := by omega
    have e4 : i - ((a.asList.take i).map (cnDs ks)).length = 0 := by simp; omega
    have hrow : rowAt ((a.asList.take i).map (cnDs ks) ++ List.replicate (a.asList.length - i) z) (i : Int) = z := by
      rw [rowAt_nat, rowN, List.getD_eq_getElem?_getD, List.getElem?_append_right (by simp; omega), e4, e5, List.replicate_succ]
      rfl
    obtain ⟨t1, t2⟩ := ht i (.sl ((a.asList.take i).map (cnDs ks) ++ List.replicate (a.asList.length - i) z)) hlt'
    rw [wp_req', conj_cons, conj_cons, conj_append]
    constructor
    · refine ⟨?_, ?_, t1, ?_⟩ <;> simp only [conj_cons, conj_nil, den_op, dens_cons, dens_nil, den_var, den_int, mkE_den, op_le, op_lt, op_len, op_ltlen, op_rowlen, op_row, op_fn, cell_zero, D.row_sl, D.asInt_int, D.asBool_bool, D.asList_sl, cell_zero, cell_succ,
        hll, hrow, hz, rowAt_nat, Int.toNat_natCast, tt_ok]
      · omega
      · omega
      · exact ⟨by omega, by omega, trivial, trivial⟩
    simp only [wp_back', List.map_cons, List.map_nil, den_op, dens_cons, dens_nil, den_var, den_int, op_bin, intV_add, op_lset, op_rput, op_row, D.asInt_int, D.asList_sl, D.row_sl, cell_zero, cell_succ, setB_eq, hrow]
    have hden := outE_den (Φ := Φ) (env := [a, .int i, .sl ((a.asList.take i).map (cnDs ks) ++ List.replicate (a.asList.length - i) z)]) src [] ks' 0 (rowN a.asList i) fun j hj => by rw [Nat.zero_add, t2 _ (by omega), hcn]
    rw [hden, hcn, w64 (by omega) (by omega)]
    refine ⟨⟨i + 1, ?_, by omega⟩, ?_⟩
    · simp only [List.cons.injEq, and_true, D.int.injEq, D.sl.injEq]
      refine ⟨by simp, ?_⟩
      have e1 : z.drop (0 + (cnDs ks (rowN a.asList i)).length) = [] := by rw [cnDs_length, Nat.zero_add, ← hlen, ← hz, List.drop_length]
      rw [e1, List.take_zero, List.nil_append, List.append_nil, Int.toNat_natCast, e5, List.replicate_succ, List.set_append_right _ _ (by simp; omega), e4, List.set_cons_zero, List.take_add_one, List.getElem?_eq_getElem hlt', List.map_append]
      simp [rowN_lt hlt']
    · simp; omega
  · have hi' : i = a.asList.length := by omega
    subst hi'
    simp

theorem toV_wp {Φ : Fns} {c bytes tid : Nat} {ks ks' : List K} (hbytes : bytes ≤ 1000) (hlen : ks'.length = ks.length) (hcn : ∀ r, cnDs ks' r = cnDs ks r) (hΦ : Φ c = mToA ks) {a : D}
    (ha : a.asList.length + sumR (szDs ks) a.asList ≤ 1048576) (B : Nat → List D → Prop) : (toV c bytes tid ks').wp Φ (fun l => l = [.sl (a.asList.map (cnDs ks))]) [a] B := by
  refine toV'_wp hbytes hlen hcn (fun i x hi => ?_) ha B
  have hsum : szDs ks (rowN a.asList i) ≤ sumR (szDs ks) a.asList := by
    have h1 := sumR_take (szDs ks) hi
    have h2 := sumR_take_le (szDs ks) (xs := a.asList) (i := i + 1)
    omega
  simp only [conj_cons, conj_nil, den_op, dens_cons, dens_nil, den_var, mkE_den, op_fn, hΦ, mToA, con_ok, con_zero, toPre, cell_zero, cell_succ, D.row_sl, D.asInt_int, rowAt_nat, and_true]
  exact ⟨by omega, fun _ _ => trivial⟩

/-! Slices of plain values. -/
theorem sumR_zero {p : List D → Nat} (h : ∀ r, p r = 0) : ∀ xs, sumR p xs = 0
  | [] => rfl
  | x :: xs => by simp [sumR, h, sumR_zero h xs]
/-- Only the rows are counted. -/
def szC : VC := .ite (.op (.bin .lss .i64) [.op (.bin .sub .i64) [.var 1, .op .len [.var 0]], .int 0]) (.ret [.int (-1)]) (.ret [.op (.bin .sub .i64) [.var 1, .op .len [.var 0]]])
theorem szC_wp {Φ : Fns} {ks : List K} (hk : ∀ r, szDs ks r = 0) {a b : D} (ha : a.asList.length ≤ lenMax) (hb : 0 ≤ b.asInt ∧ b.asInt ≤ 1048576) (B : Nat → List D → Prop) :
    szC.wp Φ (fun l => l = [.int (szM (a.asList.length + sumR (szDs ks) a.asList) b.asInt)]) [a, b] B := by
  have hl : (a.asList.length : Int) ≤ 140737488355328 := by simp only [lenMax] at ha; omega
  have w1 : IntKind.i64.wrap (b.asInt - a.asList.length) = b.asInt - a.asList.length := w64 (by omega) (by omega)
  simp only [szC, wp_ite', wp_ret', List.map_cons, List.map_nil, den_op, dens_cons, dens_nil, den_var, op_bin, op_len, intV_sub, intV_lss, den_int, D.asInt_int, D.asBool_bool, tt_ok, tt_no, cell_zero, cell_succ, w1, sumR_zero hk, szM]
  refine ⟨fun h => ?_, fun h => ?_⟩
  · rw [if_pos (by omega)]
  · rw [if_neg (by omega)]; simp

def szT : VC := .ite (.op (.bin .lss .i64) [.op (.bin .sub .i64) [.var 1, .op .len [.var 0]], .int 0]) (.ret [.int (-1)])
  (.loop 5 0 2 [(.int .i64, 2), (.int .i64, 3)] [.op (.bin .sub .i64) [.var 1, .op .len [.var 0]], .int 0]
    (.ite (.op (.bin .lss .i64) [.var 3, .op .len [.var 0]])
      (.req [.op .le [.int 0, .var 3], .op .lt [.var 3, .op .len [.var 0]]]
        (.ite (.op (.bin .lss .i64) [.op (.bin .sub .i64) [.var 2, .op .slen [.op (.fld 0) [.op .row [.var 0, .var 3]]]], .int 0]) (.ret [.int (-1)])
          (.back 0 [.op (.bin .sub .i64) [.var 2, .op .slen [.op (.fld 0) [.op .row [.var 0, .var 3]]]], .op (.bin .add .i64) [.var 3, .int 1]])))
      (.ret [.var 2])))
theorem szT_wp {Φ : Fns} {a b : D} (ha : a.asList.length ≤ lenMax) (hr : ∀ r ∈ a.asList, (cell r 0).asStr.size ≤ lenMax) (hb : 0 ≤ b.asInt ∧ b.asInt ≤ 1048576) (B : Nat → List D → Prop) :
    szT.wp Φ (fun l => l = [.int (szM (a.asList.length + sumR (szDs [.str]) a.asList) b.asInt)]) [a, b] B := by
  have hl : (a.asList.length : Int) ≤ 140737488355328 := by simp only [lenMax] at ha; omega
  have w1 : IntKind.i64.wrap (b.asInt - a.asList.length) = b.asInt - a.asList.length := w64 (by omega) (by omega)
  simp only [szT, wp_ite', den_op, dens_cons, dens_nil, den_var, op_bin, op_len, intV_sub, intV_lss, den_int, D.asInt_int, D.asBool_bool, tt_ok, tt_no, cell_zero, cell_succ, w1]
  refine ⟨fun h => ?_, fun h => ?_⟩
  · simp [szM]
    omega
  · refine wp_loop' (fun v => ∃ i : Nat, v = [.int (b.asInt - a.asList.length - sumR (szDs [.str]) (a.asList.take i)), .int i] ∧ i ≤ a.asList.length ∧ 0 ≤ b.asInt - a.asList.length - sumR (szDs [.str]) (a.asList.take i))
      (fun v => a.asList.length - (cell v 1).asInt.toNat) ⟨0, by simp [sumR, w1], by omega, by simp [sumR]; omega⟩ ?_
    simp
    intro d e _ _ i hd he hi hnn
    subst hd he
    have hsm := sumR_take_le (szDs [.str]) (xs := a.asList) (i := i)
    refine ⟨fun hlt => ?_, fun hge => ?_⟩
    · have hlt' : i < a.asList.length := by simpa using hlt
      have hst := sumR_take (szDs [.str]) hlt'
      have hs2 := sumR_take_le (szDs [.str]) (xs := a.asList) (i := i + 1)
      have hz : szDs [.str] (rowN a.asList i) = (cell (rowN a.asList i) 0).asStr.size := by simp only [szDs_cons, szDs_nil, szD]; rfl
      have hm : ((cell (rowN a.asList i) 0).asStr.size : Int) ≤ 140737488355328 := by have := hr _ (rowN_mem hlt'); simp only [lenMax] at this; omega
      rw [hz] at hst
      simp [rowAt_nat]
      rw [w64 (n := b.asInt - a.asList.length - sumR (szDs [.str]) (a.asList.take i) - (cell (rowN a.asList i) 0).asStr.size) (by omega) (by omega)]
      refine ⟨by omega, fun h1 => ?_, fun h1 => ?_⟩
      · simp only [szM]
        split <;> omega
      · refine ⟨⟨i + 1, ⟨?_, ?_⟩, by omega, ?_⟩, ?_⟩
        · rw [hst]; simp only [Int.natCast_add]; omega
        · rw [w64 (by omega) (by omega)]; simp
        · rw [hst]; simp only [Int.natCast_add]; omega
        · rw [w64 (by omega) (by omega)]; omega
    · have hi' : i = a.asList.length := by simp at hge; omega
      subst hi'
      simp [szM] at hnn ⊢
      omega

end Go.Vx

/-
  A program logic of our own, parts 16 to 32.
-/
import Derived.Test.YtmfbmdipchnmaaaDoorVxa
import Derived.Calls
import Derived.Orders
set_option linter.unusedVariables false
set_option linter.unusedSimpArgs false
/-
  Vx, part 16: operations on closed states: the others that only read.
-/
namespace Go.Vx
open Go.RowKit (Below)

mutual
def K.eqb : K → K → Bool
  | .int k, .int l => decide (k = l)
  | .bool, .bool => true
  | .str, .str => true
  | .sl e ks, .sl f ls => e == f && K.eqbs ks ls
  | _, _ => false
def K.eqbs : List K → List K → Bool
  | [], [] => true
  | k :: ks, l :: ls => K.eqb k l && K.eqbs ks ls
  | _, _ => false
end
mutual
theorem K.eqb_eq : ∀ {k l : K}, K.eqb k l = true → k = l
  | .int k, l, h => by cases l <;> simp_all [K.eqb]
  | .bool, l, h => by cases l <;> simp_all [K.eqb]
  | .str, l, h => by cases l <;> simp_all [K.eqb]
  | .sl e ks, l, h => by
    cases l <;> simp only [K.eqb, Bool.false_eq_true, Bool.and_eq_true, beq_iff_eq] at h
    obtain ⟨rfl, h⟩ := h
    rw [K.eqbs_eq h]
theorem K.eqbs_eq : ∀ {ks ls : List K}, K.eqbs ks ls = true → ks = ls
  | [], ls, h => by cases ls <;> simp_all [K.eqbs]
  | k :: ks, ls, h => by
    cases ls with
    | nil => simp [K.eqbs] at h
    | cons l ls =>
      simp only [K.eqbs, Bool.and_eq_true] at h
      rw [K.eqb_eq h.1, K.eqbs_eq h.2]
end

/-- Cells that are all data. -/
def datsE : List SC → Option (List K × List E)
  | [] => some ([], [])
  | .dat k e :: cs => match datsE cs with
    | some (ks, es) => some (k :: ks, e :: es)
    | none => none
  | _ :: _ => none
def eqE (k : K) (a b : E) : E := match k with
  | .int k => .op (.bin .eql k) [a, b]
  | .bool => .op .beq [a, b]
  | .str => .op (.sbin .eql) [a, b]
  | .sl _ _ => .bool false
def eqEs : List K → List E → List E → E
  | [k], [a], [b] => eqE k a b
  | k :: ks, a :: as, b :: bs => .op .and [eqE k a b, eqEs ks as bs]
  | _, _, _ => .bool true
/-- Structs that are compared. -/
def fEq (T : TypeId → TI) (s : SSt) (op : BinOp) (t : TypeId) (x y : Operand) (u : TypeId) : Option Res :=
  match sev T t s x, sev T u s y with
  | .agg cs, .agg cs' => match datsE cs, datsE cs' with
    | some (ks, es), some (ks', fs) => bif (T t).ok && ((T t).eq && (K.eqbs ks (T t).ks && K.eqbs ks' (T t).ks)) then match op with
      | .eql => some ⟨[], .one (.dat .bool (eqEs ks es fs)), []⟩
      | .neq => some ⟨[], .one (.dat .bool (.op .not [eqEs ks es fs])), []⟩
      | _ => none
      else none
    | _, _ => none
  | _, _ => none

def fUn (T : TypeId → TI) (s : SSt) (op : UnOp) (t : TypeId) (x : Operand) : Option Res :=
  match op, (sev T t s x).dn with
  | .not, .one (.dat .bool a) => some ⟨[], .one (.dat .bool (.op .not [a])), []⟩
  | .neg, .one (.dat (.int k) a) => some ⟨[], .one (.dat (.int k) (.op (.neg k) [a])), []⟩
  | _, _ => none

def fConv (T : TypeId → TI) (s : SSt) (st t : TypeId) (x : Operand) : Option Res :=
  match (T t).ik, (sev T st s x).dn with
  | some k', .one (.dat (.int _) a) => bif (T st).ok && (T t).ok then some ⟨[], .one (.dat (.int k') (.op (.wrap k') [a])), []⟩ else none
  | _, _ => none

def fIndex (T : TypeId → TI) (s : SSt) (t : TypeId) (x y : Operand) : Option Res :=
  match (sev T t s x).dn, (sev T 0 s y).dn with
  | .one (.dat .str a), .one (.dat (.int _) i) => bif (T t).ok && (T t).isStr then some ⟨[.op .le [.int 0, i], .op .lt [i, .op .slen [a]]], .one (.dat (.int .u8) (.op .sidx [a, i])), []⟩ else none
  | _, _ => none

def fPick (T : TypeId → TI) (s : SSt) (ty : TypeId) (c x y : Operand) : Option Res :=
  match (sev T 0 s c).dn, (sev T ty s x).core, (sev T ty s y).core with
  | .one (.dat .bool d), .one (.dat k a), .one (.dat k' b) =>
    bif K.eqb k k' then some ⟨(sev T ty s x).conds.map (fun e => .op .ite [d, e, .bool true]) ++ (sev T ty s y).conds.map (fun e => .op .ite [d, .bool true, e]), .one (.dat k (.op .ite [d, a, b])), []⟩ else none
  | _, _, _ => none

def fLen (T : TypeId → TI) (s : SSt) (t : TypeId) (x : Operand) : Option Res :=
  bif (T t).ok then match (T t).isStr with
    | true => match (sev T t s x).dn with
      | .one (.dat .str a) => some ⟨[], .one (.dat (.int .i64) (.op .slen [a])), []⟩
      | _ => none
    | false => bif (T t).sl.isSome then match sev T t s x with
      | .one (.ref z p) => match s.obj z with
        | some (.arr _ _ _ xs) => some ⟨[], .one (.dat (.int .i64) (plen xs p)), []⟩
        | some (.arx _ _ xs) => bif p.isNone then some ⟨[], .one (.dat (.int .i64) (lenX 64 xs)), []⟩ else none
        | _ => none
      | v => match v.dn with
        | .one (.dat (.sl _ _) d) => some ⟨[], .one (.dat (.int .i64) (.op .len [d])), []⟩
        | _ => none
      else none
  else none

def fSlice (T : TypeId → TI) (s : SSt) (t : TypeId) (x : Operand) (lo hi : Option Operand) : Option Res :=
  bif (T t).ok then match (T t).isStr, (sev T t s x).dn with
    | true, .one (.dat .str a) => match sbnd T s (.int 0) lo, sbnd T s (.op .slen [a]) hi with
      | some l, some h => some ⟨[.op .le [.int 0, l], .op .le [l, h], .op .le [h, .op .slen [a]]], .one (.dat .str (.op .ssub [a, l, h])), []⟩
      | _, _ => none
    | false, .one (.dat (.sl e' ks) d) => match (T t).sl with
      | some e => bif (T e).ok && ks.length == (T e).ks.length then match sbnd T s (.int 0) lo, sbnd T s (.op .len [d]) hi with
        | some l, some h => some ⟨[.op .le [.int 0, l], .op .le [l, h], .op .le [h, .op .len [d]]], .one (.dat (.sl e' ks) (.op .cut [d, l, .op .subn [h, l]])), []⟩
        | _, _ => none
        else none
      | none => none
    | false, .one (.ref z p) => match (T t).sl, s.obj z with
      | some e, some (.arr _ ks _ xs) => bif (T e).ok && ks.length == (T e).ks.length then match sbnd T s (.int 0) lo, sbnd T s (plen xs p) hi with
        | some l, some h => some ⟨[.op .le [.int 0, l], .op .le [l, h], .op .le [h, plen xs p]], .one (.ref z (some (poff p l, .op .subn [h, l]))), []⟩
        | _, _ => none
        else none
      | _, _ => none
    | _, _ => none
  else none

def fExtract (T : TypeId → TI) (s : SSt) (x : Operand) (i : Nat) : Option Res :=
  match sev T 0 s x with
  | .tup vs => match vs[i]? with
    | some v => some ⟨[], v, []⟩
    | none => none
  | _ => none

def fField (T : TypeId → TI) (s : SSt) (st : TypeId) (x : Operand) (f : Nat) : Option Res :=
  match (T st).flds[f]?, sev T st s x with
  | some (off, ft), .agg cs => bif (T st).ok && ((T st).agg && ((T ft).ok && Nat.ble (off + (T ft).ks.length) cs.length)) then some ⟨[], smkA (T ft).agg ((cs.drop off).take (T ft).ks.length), []⟩ else none
  | _, _ => none

def fNilCheck (T : TypeId → TI) (s : SSt) (x : Operand) : Option Res :=
  match sev T 0 s x with
  | .ptr y i j => bif slive (s.obj y) then some ⟨[], .ptr y i j, []⟩ else none
  | _ => none

section
variable {Φ : Fns} {env : List D} {C : Cx} {g : Gh} {s : SSt} {a : Act} {w : World} {o : Oper}

theorem sbnd_den {T : TypeId → TI} {dflt : E} {d0 : Int} (hd : (dflt.den Φ env).asInt = d0) {x : Option Operand} {e : E} (h : sbnd T s dflt x = some e) : bnd T (s.den Φ env) d0 x = some (e.den Φ env).asInt := by
  cases x with
  | none => simp only [sbnd, Option.some.injEq] at h; subst h; simp [bnd, hd]
  | some x =>
    simp only [sbnd] at h
    split at h
    · rename_i k e' hx
      simp only [Option.some.injEq] at h
      subst h
      have := sev_dat (Φ := Φ) (env := env) hx
      simp only [bnd, this]
    · cases h

theorem datsE_den : ∀ {cs : List SC} {ks : List K} {es : List E}, datsE cs = some (ks, es) → cs.map (SC.den Φ env) = dats ks (es.map (E.den Φ env)) ∧ es.length = ks.length
  | [], ks, es, h => by simp only [datsE, Option.some.injEq, Prod.mk.injEq] at h; obtain ⟨rfl, rfl⟩ := h; exact ⟨rfl, rfl⟩
  | .dat k e :: cs, ks, es, h => by
    simp only [datsE] at h
    split at h
    · rename_i ks' es' h1
      simp only [Option.some.injEq, Prod.mk.injEq] at h
      obtain ⟨rfl, rfl⟩ := h
      obtain ⟨h2, h3⟩ := datsE_den h1
      exact ⟨by simp [dats, SC.den, h2], by simp [h3]⟩
    · cases h
  | .nil _ _ :: _, _, _, h => by simp [datsE] at h
  | .ref _ _ :: _, _, _, h => by simp [datsE] at h
  | .dead :: _, _, _, h => by simp [datsE] at h

theorem eqE_den (k : K) (a b : E) : ((eqE k a b).den Φ env).asBool = ceq k (a.den Φ env) (b.den Φ env) ∧ (eqE k a b).den Φ env = .bool (ceq k (a.den Φ env) (b.den Φ env)) := by
  cases k <;> simp [eqE, E.den, E.dens, opD, intV, intOp, strV, strOp, ceq, D.asBool]

theorem eqEs_den : ∀ (ks : List K) (as bs : List E), as.length = ks.length → bs.length = ks.length → (eqEs ks as bs).den Φ env = .bool (ceqs ks (as.map (E.den Φ env)) (bs.map (E.den Φ env)))
  | [], as, bs, h, h' => by
    rw [List.eq_nil_of_length_eq_zero h, List.eq_nil_of_length_eq_zero h']; rfl
  | [k], as, bs, h, h' => by
    obtain ⟨a, rfl⟩ := List.length_eq_one_iff.1 h
    obtain ⟨b, rfl⟩ := List.length_eq_one_iff.1 h'
    simp [eqEs, ceqs, (eqE_den k a b).2]
  | k :: k2 :: ks, a :: as, b :: bs, h, h' => by
    have ih := eqEs_den (k2 :: ks) as bs (by simpa using h) (by simpa using h')
    rw [show eqEs (k :: k2 :: ks) (a :: as) (b :: bs) = .op .and [eqE k a b, eqEs (k2 :: ks) as bs] from rfl]
    simp only [E.den, E.dens, opD, List.getD_cons_zero, List.getD_cons_succ, ih, (eqE_den k a b).1, D.asBool_bool, List.map_cons]
    rfl
  | _ :: _ :: _, [], _, h, _ => by simp at h
  | _ :: _ :: _, _ :: _, [], _, h' => by simp at h'

theorem good_eq (R : Rel C g (s.den Φ env) a w) {op : BinOp} {t u : TypeId} {x y : Operand} (ho : o.op = .binOp op t x y u) {r : Res} (h : fEq C.T s op t x y u = some r) : Good Φ env C s a w o r := fun hc => by
  unfold fEq at h
  split at h
  · rename_i cs cs' hx hy
    split at h
    · rename_i ks es ks' fs h1 h2
      obtain ⟨h3, h4⟩ := bif_some h
      clear h
      simp only [Bool.and_eq_true] at h3
      obtain ⟨q1, q2, q3, q4⟩ := h3
      have e1 := K.eqbs_eq q3
      have e2 := K.eqbs_eq q4
      obtain ⟨d1, l1⟩ := datsE_den (Φ := Φ) (env := env) h1
      obtain ⟨d2, l2⟩ := datsE_den (Φ := Φ) (env := env) h2
      have hx' := sev_is (Φ := Φ) (env := env) hx
      have hy' := sev_is (Φ := Φ) (env := env) hy
      rw [SV.den, d1, e1] at hx'
      rw [SV.den, d2, e2] at hy'
      have e3 : ks = ks' := e1.trans e2.symm
      subst e3
      split at h4
      · simp only [Option.some.injEq] at h4
        subst h4
        have := did_bin_agg R ho q1 q2 hx' hy' (.inl ⟨rfl, rfl⟩)
        rw [← e1] at this
        simpa [SV.den, SC.den, SSt.upds, eqEs_den ks es fs l1 l2] using this
      · simp only [Option.some.injEq] at h4
        subst h4
        have := did_bin_agg R ho q1 q2 hx' hy' (.inr ⟨rfl, rfl⟩)
        rw [← e1] at this
        simpa [SV.den, SC.den, SSt.upds, E.den, E.dens, opD, D.asBool, eqEs_den ks es fs l1 l2] using this
      · cases h4
    · cases h
  · cases h

theorem good_un (R : Rel C g (s.den Φ env) a w) {op : UnOp} {t : TypeId} {x : Operand} (ho : o.op = .unOp op t x) {r : Res} (h : fUn C.T s op t x = some r) : Good Φ env C s a w o r := fun hc => by
  unfold fUn at h
  split at h
  · rename_i a' hx
    simp only [Option.some.injEq] at h
    subst h
    exact did_not R ho (sev_dat hx)
  · rename_i k a' hx
    simp only [Option.some.injEq] at h
    subst h
    exact did_neg R ho (sev_dat hx)
  · cases h

theorem good_conv (R : Rel C g (s.den Φ env) a w) {st t : TypeId} {x : Operand} (ho : o.op = .convert st t x) {r : Res} (h : fConv C.T s st t x = some r) : Good Φ env C s a w o r := fun hc => by
  unfold fConv at h
  split at h
  · rename_i k' k a' hk hx
    obtain ⟨h1, h⟩ := bif_some h
    simp only [Bool.and_eq_true] at h1
    simp only [Option.some.injEq] at h
    subst h
    exact did_conv_int R ho h1.1 h1.2 hk (sev_dat hx)
  · cases h

theorem good_index (R : Rel C g (s.den Φ env) a w) {t : TypeId} {x y : Operand} (ho : o.op = .index t x y) {r : Res} (h : fIndex C.T s t x y = some r) : Good Φ env C s a w o r := fun hc => by
  unfold fIndex at h
  split at h
  · rename_i a' k i hx hy
    obtain ⟨h1, h⟩ := bif_some h
    simp only [Bool.and_eq_true] at h1
    simp only [Option.some.injEq] at h
    subst h
    have c0 := hc (.op .le [.int 0, i]) (by simp)
    have c1 := hc (.op .lt [i, .op .slen [a']]) (by simp)
    simp [E.den, E.dens, opD, D.asBool, D.asInt] at c0 c1
    exact did_index_str R ho h1.1 h1.2 (sev_dat hx) (sev_dat hy) c0 c1
  · cases h

theorem good_pick (R : Rel C g (s.den Φ env) a w) {c x y : Operand} (ho : o.op = .pick c x y) {r : Res} (h : fPick C.T s o.type c x y = some r) : Good Φ env C s a w o r := fun hc => by
  unfold fPick at h
  split at h
  · rename_i d k a' k' b' hd hx hy
    obtain ⟨h1, h2⟩ := bif_some h
    have h3 : k = k' := K.eqb_eq h1
    clear h h1
    subst h3
    simp only [Option.some.injEq] at h2
    subst h2
    have ex : (ev C.T o.type (s.den Φ env) x).core = .one (.dat k (a'.den Φ env)) := by rw [← sev_den (Φ := Φ) (env := env), ← SV.den_core, hx]; rfl
    have ey : (ev C.T o.type (s.den Φ env) y).core = .one (.dat k (b'.den Φ env)) := by rw [← sev_den (Φ := Φ) (env := env), ← SV.den_core, hy]; rfl
    refine did_pick R ho (sev_dat hd) ex ey (fun hd1 b hb => ?_) (fun hd1 b hb => ?_)
    · rw [← sev_den (Φ := Φ) (env := env), SV.den_conds, List.mem_map] at hb
      obtain ⟨e, he, rfl⟩ := hb
      have := hc (.op .ite [d, e, .bool true]) (List.mem_append.2 (.inl (List.mem_map.2 ⟨e, he, rfl⟩)))
      simpa [E.den, E.dens, opD, hd1] using this
    · rw [← sev_den (Φ := Φ) (env := env), SV.den_conds, List.mem_map] at hb
      obtain ⟨e, he, rfl⟩ := hb
      have := hc (.op .ite [d, .bool true, e]) (List.mem_append.2 (.inr (List.mem_map.2 ⟨e, he, rfl⟩)))
      simpa [E.den, E.dens, opD, hd1] using this
  · cases h

theorem good_len (R : Rel C g (s.den Φ env) a w) {t : TypeId} {x : Operand} (ho : o.op = .call { callee := .builtin .len, args := #[x], argTypes := #[t] }) {r : Res} (h : fLen C.T s t x = some r) : Good Φ env C s a w o r := fun hc => by
  unfold fLen at h
  obtain ⟨ht, h⟩ := bif_some h
  split at h
  · rename_i hs
    split at h
    · rename_i a' hx
      simp only [Option.some.injEq] at h
      subst h
      exact did_len_str R ho ht hs (sev_dat hx)
    · cases h
  · obtain ⟨h1, h⟩ := bif_some h
    obtain ⟨e', he'⟩ := Option.isSome_iff_exists.1 h1
    split at h
    · rename_i z p hx
      split at h
      · rename_i e ks dp xs hz
        simp only [Option.some.injEq] at h
        subst h
        have := did_len_ref R ho ht he' (sev_is hx) (obj_is hz)
        simpa [SV.den, SC.den, SSt.upds, plen_den] using this
      · rename_i e ks xs hz
        obtain ⟨hp, h⟩ := bif_some h
        simp only [Option.some.injEq] at h
        subst h
        have hp : p = none := by simpa using hp
        subst hp
        have := did_len_arx R ho ht he' (sev_is hx) (obj_is hz)
        simpa [SV.den, SC.den, SSt.upds, lenX_ok] using this
      · cases h
    · split at h
      · rename_i v hv e ks d hx
        simp only [Option.some.injEq] at h
        subst h
        exact did_len_dat R ho ht he' (sev_dat hx)
      · cases h

theorem good_slice (R : Rel C g (s.den Φ env) a w) {t : TypeId} {x : Operand} {lo hi : Option Operand} (ho : o.op = .slice t x lo hi none) {r : Res} (h : fSlice C.T s t x lo hi = some r) : Good Φ env C s a w o r := fun hc => by
  unfold fSlice at h
  obtain ⟨ht, h⟩ := bif_some h
  split at h
  · rename_i a' hs hx
    split at h
    · rename_i l hh hl hh'
      simp only [Option.some.injEq] at h
      subst h
      have c0 := hc (.op .le [.int 0, l]) (by simp)
      have c1 := hc (.op .le [l, hh]) (by simp)
      have c2 := hc (.op .le [hh, .op .slen [a']]) (by simp)
      simp [E.den, E.dens, opD, D.asBool, D.asInt] at c0 c1 c2
      exact did_slice_str R ho ht hs (sev_dat hx) (sbnd_den rfl hl) (sbnd_den rfl hh') c0 c1 c2
    · cases h
  · rename_i e' ks d hs hx
    split at h
    · rename_i e he
      obtain ⟨h1, h⟩ := bif_some h
      simp only [Bool.and_eq_true, beq_iff_eq] at h1
      split at h
      · rename_i l hh hl hh'
        simp only [Option.some.injEq] at h
        subst h
        have c0 := hc (.op .le [.int 0, l]) (by simp)
        have c1 := hc (.op .le [l, hh]) (by simp)
        have c2 := hc (.op .le [hh, .op .len [d]]) (by simp)
        simp [E.den, E.dens, opD, D.asBool, D.asInt] at c0 c1 c2
        have := did_slice_dat R ho ht he h1.1 (sev_dat hx) h1.2 (sbnd_den rfl hl) (sbnd_den rfl hh') c0 c1 c2
        simpa [SV.den, SC.den, SSt.upds, E.den, E.dens, opD, D.n, D.asInt] using this
      · cases h
    · cases h
  · rename_i z p hs hx
    split at h
    · rename_i e e' ks dp xs he hz
      obtain ⟨h1, h⟩ := bif_some h
      simp only [Bool.and_eq_true, beq_iff_eq] at h1
      split at h
      · rename_i l hh hl hh'
        simp only [Option.some.injEq] at h
        subst h
        have c0 := hc (.op .le [.int 0, l]) (by simp)
        have c1 := hc (.op .le [l, hh]) (by simp)
        have c2 := hc (.op .le [hh, plen xs p]) (by simp)
        simp [E.den, E.dens, opD, D.asBool, D.asInt, plen_den] at c0 c1 c2
        have hx' : sev C.T t s x = .one (.ref z p) := by
          generalize sev C.T t s x = v at hx
          cases v with
          | one c => cases c <;> simp_all [SV.dn, SC.dn]
          | _ => simp [SV.dn] at hx
        have := did_slice_ref R ho ht he h1.1 (sev_is hx') (obj_is hz) h1.2 (sbnd_den rfl hl) (sbnd_den (d0 := (cutLen (xs.den Φ env).asList (denP Φ env p) : Int)) (by rw [plen_den]; rfl) hh') c0 c1 c2
        have e1 : denP Φ env (some (poff p l, .op .subn [hh, l])) = some (cutOff (denP Φ env p) + (l.den Φ env).asInt.toNat, (hh.den Φ env).asInt.toNat - (l.den Φ env).asInt.toNat) := by
          simp only [denP, poff_den]
          rfl
        simpa [SV.den, SC.den, SSt.upds, e1] using this
      · cases h
    · cases h
  · cases h

theorem good_extract (R : Rel C g (s.den Φ env) a w) {x : Operand} {i : Nat} (ho : o.op = .extract x i) {r : Res} (h : fExtract C.T s x i = some r) : Good Φ env C s a w o r := fun hc => by
  unfold fExtract at h
  split at h
  · rename_i vs hx
    split at h
    · rename_i v hv
      simp only [Option.some.injEq] at h
      subst h
      refine did_extract R ho (us := vs.map (SV.den Φ env)) ?_ (by simp [hv])
      rw [sev_is hx, ← SV.dens_map]; rfl
    · cases h
  · cases h

theorem good_field (R : Rel C g (s.den Φ env) a w) {st : TypeId} {x : Operand} {f : Nat} (ho : o.op = .field st x f) {r : Res} (h : fField C.T s st x f = some r) : Good Φ env C s a w o r := fun hc => by
  unfold fField at h
  split at h
  · rename_i off ft cs hf hx
    obtain ⟨h1, h⟩ := bif_some h
    simp only [Bool.and_eq_true] at h1
    obtain ⟨q1, q2, q3, q4⟩ := h1
    simp only [Option.some.injEq] at h
    subst h
    have := did_field R ho q1 q2 hf q3 (sev_is hx) (by simpa using Nat.le_of_ble_eq_true q4)
    simpa [smkA_den, SSt.upds, List.map_take, List.map_drop] using this
  · cases h

theorem good_nilCheck (R : Rel C g (s.den Φ env) a w) {x : Operand} (ho : o.op = .nilCheck x) {r : Res} (h : fNilCheck C.T s x = some r) : Good Φ env C s a w o r := fun hc => by
  unfold fNilCheck at h
  split at h
  · rename_i y i j hx
    obtain ⟨h1, h⟩ := bif_some h
    simp only [Option.some.injEq] at h
    subst h
    exact did_nilCheck R ho (sev_is hx) (by rw [slive_den]; exact h1)
  · cases h
end

end Go.Vx

/-
  Vx, part 17: operations on closed states: those that make or change objects.
-/
namespace Go.Vx
open Go.RowKit (Below)

def szero : K → SC
  | .int k => .dat (.int k) (.int 0)
  | .bool => .dat .bool (.bool false)
  | .str => .dat .str (.str ⟨#[]⟩)
  | .sl e ks => .nil e ks
def szeroE : K → E
  | .int _ => .int 0
  | .bool => .bool false
  | .str => .str ⟨#[]⟩
  | .sl _ _ => .nl

/-- Cells as data: the arrays among them are sealed. -/
def sabsorb (s : SSt) : List SC → Option (List (Nat × SOb) × List K × List E × Bool)
  | [] => some ([], [], [], true)
  | .dat k d :: cs => match sabsorb s cs with
    | some (l, ks, ds, dp) => some (l, k :: ks, d :: ds, dp && k.plain)
    | none => none
  | .nil e ks' :: cs => match sabsorb s cs with
    | some (l, ks, ds, dp) => some (l, .sl e ks' :: ks, .nl :: ds, dp)
    | none => none
  | .ref y p :: cs => match s.obj y with
    | some (.arr e ks' dp' xs) => match sabsorb (s.setO y (.sealed e ks' xs)) cs with
      | some (l, ks, ds, dp) => some ((y, .sealed e ks' xs) :: l, .sl e ks' :: ks, scut xs p :: ds, dp && (dp' && p.isNone))
      | none => none
    | some (.sealed e ks' xs) => match sabsorb s cs with
      | some (l, ks, ds, dp) => some (l, .sl e ks' :: ks, scut xs p :: ds, false)
      | none => none
    | _ => none
  | .dead :: _ => none

def SV.cells? : SV → Option (List SC)
  | .agg cs => some cs
  | .one c => some [c]
  | _ => none

def sgather (n : Nat) : List SV → Option (List SC)
  | [] => some []
  | u :: us => match u.cells?, sgather n us with
    | some cs, some cs' => bif cs.length == n then some (cs ++ cs') else none
    | _, _ => none

def slay (flds : List (Nat × Nat)) : List SC → List (Nat × SV) → Option (List SC)
  | cs, [] => some cs
  | cs, (i, u) :: rest => match flds[i]?, u.cells? with
    | some (off, n), some cs' => bif cs'.length == n && Nat.ble (off + n) cs.length then slay flds (cs.take off ++ cs' ++ cs.drop (off + n)) rest else none
    | _, _ => none

section
variable {Φ : Fns} {env : List D}

theorem szero_den (k : K) : (szero k).den Φ env = zeroA k := by cases k <;> rfl
theorem szeroE_den (k : K) : (szeroE k).den Φ env = zeroD k := by cases k <;> rfl
theorem SV.cells_den (v : SV) {cs : List SC} (h : v.cells? = some cs) : (v.den Φ env).cells? = some (cs.map (SC.den Φ env)) := by
  cases v <;> simp only [SV.cells?, Option.some.injEq, reduceCtorEq] at h <;> subst h <;> rfl
theorem SSt.upds_append (s : SSt) (l l' : List (Nat × SOb)) : s.upds (l ++ l') = (s.upds l).upds l' := by
  induction l generalizing s with
  | nil => rfl
  | cons p l ih => obtain ⟨x, o⟩ := p; exact ih _
theorem sabsorb_den : ∀ (cs : List SC) {s : SSt} {l : List (Nat × SOb)} {ks : List K} {ds : List E} {dp : Bool}, sabsorb s cs = some (l, ks, ds, dp) →
    absorb (s.den Φ env) (cs.map (SC.den Φ env)) = some ((s.upds l).den Φ env, ks, ds.map (E.den Φ env), dp)
  | [], s, l, ks, ds, dp, h => by
    simp only [sabsorb, Option.some.injEq, Prod.mk.injEq] at h
    obtain ⟨rfl, rfl, rfl, rfl⟩ := h
    rfl
  | .dat k d :: cs, s, l, ks, ds, dp, h => by
    simp only [sabsorb] at h
    split at h
    · rename_i l1 ks1 ds1 dp1 h1
      simp only [Option.some.injEq, Prod.mk.injEq] at h
      obtain ⟨rfl, rfl, rfl, rfl⟩ := h
      simp [SC.den, absorb, sabsorb_den cs h1]
    · cases h
  | .nil e ks' :: cs, s, l, ks, ds, dp, h => by
    simp only [sabsorb] at h
    split at h
    · rename_i l1 ks1 ds1 dp1 h1
      simp only [Option.some.injEq, Prod.mk.injEq] at h
      obtain ⟨rfl, rfl, rfl, rfl⟩ := h
      simp [SC.den, absorb, sabsorb_den cs h1, E.den]
    · cases h
  | .ref y p :: cs, s, l, ks, ds, dp, h => by
    have hp : (denP Φ env p).isNone = p.isNone := by cases p <;> rfl
    simp only [sabsorb] at h
    split at h
    · rename_i e ks' dp' xs ho
      split at h
      · rename_i l1 ks1 ds1 dp1 h1
        simp only [Option.some.injEq, Prod.mk.injEq] at h
        obtain ⟨rfl, rfl, rfl, rfl⟩ := h
        have := sabsorb_den cs h1
        rw [SSt.den_setO] at this
        simp only [SOb.den] at this
        simp [SC.den, absorb, obj_is ho, SOb.den, this, scut_den, hp, SSt.upds]
      · cases h
    · rename_i e ks' xs ho
      split at h
      · rename_i l1 ks1 ds1 dp1 h1
        simp only [Option.some.injEq, Prod.mk.injEq] at h
        obtain ⟨rfl, rfl, rfl, rfl⟩ := h
        simp [SC.den, absorb, obj_is ho, SOb.den, sabsorb_den cs h1, scut_den]
      · cases h
    · cases h
  | .dead :: _, _, _, _, _, _, h => by simp [sabsorb] at h
theorem sabsorb_len : ∀ (cs : List SC) {s : SSt} {l : List (Nat × SOb)} {ks : List K} {ds : List E} {dp : Bool}, sabsorb s cs = some (l, ks, ds, dp) → ks.length = cs.length ∧ ds.length = cs.length
  | [], s, l, ks, ds, dp, h => by
    simp only [sabsorb, Option.some.injEq, Prod.mk.injEq] at h
    obtain ⟨rfl, rfl, rfl, rfl⟩ := h
    simp
  | .dat k d :: cs, s, l, ks, ds, dp, h => by
    simp only [sabsorb] at h
    split at h
    · rename_i l1 ks1 ds1 dp1 h1
      simp only [Option.some.injEq, Prod.mk.injEq] at h
      obtain ⟨rfl, rfl, rfl, rfl⟩ := h
      simpa using sabsorb_len cs h1
    · cases h
  | .nil e ks' :: cs, s, l, ks, ds, dp, h => by
    simp only [sabsorb] at h
    split at h
    · rename_i l1 ks1 ds1 dp1 h1
      simp only [Option.some.injEq, Prod.mk.injEq] at h
      obtain ⟨rfl, rfl, rfl, rfl⟩ := h
      simpa using sabsorb_len cs h1
    · cases h
  | .ref y p :: cs, s, l, ks, ds, dp, h => by
    simp only [sabsorb] at h
    split at h
    · split at h
      · rename_i l1 ks1 ds1 dp1 h1
        simp only [Option.some.injEq, Prod.mk.injEq] at h
        obtain ⟨rfl, rfl, rfl, rfl⟩ := h
        simpa using sabsorb_len cs h1
      · cases h
    · split at h
      · rename_i l1 ks1 ds1 dp1 h1
        simp only [Option.some.injEq, Prod.mk.injEq] at h
        obtain ⟨rfl, rfl, rfl, rfl⟩ := h
        simpa using sabsorb_len cs h1
      · cases h
    · cases h
  | .dead :: _, _, _, _, _, _, h => by simp [sabsorb] at h
theorem sgather_den (n : Nat) : ∀ (us : List SV) {cs : List SC}, sgather n us = some cs → gather n (us.map (SV.den Φ env)) = some (cs.map (SC.den Φ env)) ∧ cs.length = us.length * n
  | [], cs, h => by simp only [sgather, Option.some.injEq] at h; subst h; simp [gather]
  | u :: us, cs, h => by
    simp only [sgather] at h
    split at h
    · rename_i c1 c2 h1 h2
      obtain ⟨h3, h⟩ := bif_some h
      simp only [Option.some.injEq] at h
      subst h
      have h3 : c1.length = n := by simpa using h3
      obtain ⟨q1, q2⟩ := sgather_den n us h2
      simp only [List.map_cons, gather, SV.cells_den u h1, q1, List.length_map, h3, if_true, List.map_append, List.length_append, q2, List.length_cons, Nat.add_mul, true_and]
      omega
    · cases h
theorem slay_den (flds : List (Nat × Nat)) : ∀ (ps : List (Nat × SV)) {cs cs2 : List SC}, slay flds cs ps = some cs2 → layA flds (cs.map (SC.den Φ env)) (ps.map fun p => (p.1, p.2.den Φ env)) = some (cs2.map (SC.den Φ env))
  | [], cs, cs2, h => by simp only [slay, Option.some.injEq] at h; subst h; rfl
  | (i, u) :: ps, cs, cs2, h => by
    simp only [slay] at h
    split at h
    · rename_i off n cs' h1 h2
      obtain ⟨h3, h⟩ := bif_some h
      simp only [Bool.and_eq_true, beq_iff_eq] at h3
      have := slay_den flds ps h
      simp only [List.map_append, List.map_take, List.map_drop] at this
      simp only [List.map_cons, layA, h1, SV.cells_den u h2, List.length_map, h3.1, Nat.le_of_ble_eq_true h3.2, and_self, if_true, this]
    · cases h
end

def fAlloc (T : TypeId → TI) (key : Nat) (t : TypeId) : Option Res :=
  bif (T t).ok then some ⟨[], .ptr key (.int 0) 0, [(key, .box t ((T t).ks.map szero))]⟩ else none
def fBox (T : TypeId → TI) (key : Nat) (s : SSt) (t : TypeId) (y : Operand) : Option Res :=
  match (sev T t s y).cells? with
  | some cs => some ⟨[], .ptr key (.int 0) 0, [(key, .box t cs)]⟩
  | none => none
def fStore (T : TypeId → TI) (s : SSt) (t : TypeId) (x y : Operand) : Option Res :=
  match sev T 0 s x, (sev T t s y).cells? with
  | .ptr k i j, some cs' => bif (T t).ok && cs'.length == (T t).ks.length then match s.obj k with
    | some (.box B cs) => bif Nat.ble (j + cs'.length) cs.length then some ⟨[], .dead, [(k, .box B (cs.take j ++ cs' ++ cs.drop (j + cs'.length)))]⟩ else none
    | some (.arr e ks dp xs) => match sabsorb s cs' with
      | some (l, ks', ds', dp') => match (s.upds l).obj k with
        | some (.arr _ _ _ _) => bif K.eqbs ks' ((ks.drop j).take cs'.length) && (Nat.ble (j + cs'.length) ks.length && l.all fun p => !(p.1 == k)) then
            some ⟨[.op .ltlen [i, xs], .op (.rowlen ks.length) [.op .row [xs, i]]], .dead, l ++ [(k, .arr e ks (dp && dp') (.op .lset [xs, i, .op (.rput j) (.op .row [xs, i] :: ds')]))]⟩ else none
        | _ => none
      | none => none
    | some (.arx e ks xs) => match sev T t s y, ks[j]? with
      | .one (.dat kk d), some k2 => bif K.eqb kk k2 && (kk.plain && (!(T t).agg && okR ks.length 64 (arxR xs i).2)) then
          some ⟨[.op .ltlen [i, (arxR xs i).1], .op (.rowlen ks.length) [baseR 64 (arxR xs i).2]], .dead, [(k, .arx e ks (.op .lset [(arxR xs i).1, i, .op (.rput j) [(arxR xs i).2, d]]))]⟩ else none
      | _, _ => none
    | _ => none
    else none
  | _, _ => none
def fBuild (T : TypeId → TI) (s : SSt) (t : TypeId) (parts : List (Nat × Operand)) : Option Res :=
  bif (T t).ok && ((T t).agg && (T t).flds.all fun p => (T p.2).ok) then
    match slay ((T t).flds.map fun p => (p.1, (T p.2).ks.length)) ((T t).ks.map szero) (parts.map fun p => (p.1, sev T (((T t).flds.getD p.1 (0, 0)).2) s p.2)) with
    | some cs => some ⟨[], .agg cs, []⟩
    | none => none
  else none
def isIota : Nat → List Nat → Bool
  | _, [] => true
  | n, x :: l => x == n && isIota (n + 1) l
def fBuildSlice (T : TypeId → TI) (key : Nat) (s : SSt) (t : TypeId) (n : Nat) (parts : List (Nat × Operand)) : Option Res :=
  match (T t).sl with
  | some e => bif (T t).ok && ((T e).ok && (!((T e).ks.length == 0) && (Nat.ble (n * (T e).ks.length) 16777216 && (parts.length == n && isIota 0 (parts.map Prod.fst))))) then
      match sgather (T e).ks.length (parts.map fun p => sev T e s p.2) with
      | some cs => match sabsorb s cs with
        | some (l, ks', ds, dp) => bif K.eqbs ks' (List.replicate n (T e).ks).flatten then some ⟨[], .one (.ref key none), l ++ [(key, .arr e (T e).ks dp (.op (.rows (T e).ks.length) ds))]⟩ else none
        | none => none
      | none => none
    else none
  | none => none
def fMake (T : TypeId → TI) (key : Nat) (s : SSt) (t : TypeId) (x y : Operand) : Option Res :=
  match (T t).sl, (sev T 0 s x).dn, (sev T 0 s y).dn with
  | some e, .one (.dat (.int _) d), .one (.dat (.int _) d') =>
    bif (T t).ok && ((T e).ok && !((T e).ks.length == 0)) then
      some ⟨[.op .eqi [d', d], .op (.mkfit (T e).bytes) [d]], .one (.ref key none), [(key, .arr e (T e).ks true (.op .rep [d, .op .mk ((T e).ks.map szeroE)]))]⟩
    else none
  | _, _, _ => none

section
variable {Φ : Fns} {env : List D} {C : Cx} {g : Gh} {s : SSt} {a : Act} {w : World} {o : Oper} {key : Nat}

theorem none_den (h : s.obj key = none) : (s.den Φ env).obj key = none := by rw [SSt.den_obj, h]; rfl

theorem good_alloc (R : Rel C g (s.den Φ env) a w) (hk : s.obj key = none) {t : TypeId} (ho : o.op = .alloc t) {r : Res} (h : fAlloc C.T key t = some r) : Good Φ env C s a w o r := fun hc => by
  unfold fAlloc at h
  obtain ⟨ht, h⟩ := bif_some h
  simp only [Option.some.injEq] at h
  subst h
  have := did_alloc R ho ht (none_den hk)
  simpa [SSt.upds, SSt.den_setO, SOb.den, SV.den, E.den, D.n, D.asInt, Function.comp_def, szero_den] using this

theorem good_box (R : Rel C g (s.den Φ env) a w) (hk : s.obj key = none) {t : TypeId} {y : Operand} (ho : o.op = .box t y) {r : Res} (h : fBox C.T key s t y = some r) : Good Φ env C s a w o r := fun hc => by
  unfold fBox at h
  split at h
  · rename_i cs hy
    simp only [Option.some.injEq] at h
    subst h
    have := did_box R ho (by rw [← sev_den (Φ := Φ) (env := env)]; exact SV.cells_den _ hy) (none_den hk)
    simpa [SSt.upds, SSt.den_setO, SOb.den, SV.den, E.den, D.n, D.asInt] using this
  · cases h

theorem upds_obj (x : Nat) : ∀ (l : List (Nat × SOb)) (s : SSt), (l.all fun p => !(p.1 == x)) = true → ((s.upds l).den Φ env).obj x = (s.den Φ env).obj x
  | [], s, _ => rfl
  | (y, o) :: l, s, h => by
    simp only [List.all_cons, Bool.and_eq_true, Bool.not_eq_true', beq_eq_false_iff_ne, ne_eq] at h
    rw [show s.upds ((y, o) :: l) = (s.setO y o).upds l from rfl, upds_obj x l _ h.2, SSt.den_setO, St.obj_setO, if_neg fun e => h.1 e.symm]

theorem good_store (R : Rel C g (s.den Φ env) a w) {t : TypeId} {x y : Operand} (ho : o.op = .store t x y) {r : Res} (h : fStore C.T s t x y = some r) : Good Φ env C s a w o r := fun hc => by
  unfold fStore at h
  split at h
  · rename_i k i j cs' hx hy
    obtain ⟨h1, h⟩ := bif_some h
    simp only [Bool.and_eq_true, beq_iff_eq] at h1
    have ey : (ev C.T t (s.den Φ env) y).cells? = some (cs'.map (SC.den Φ env)) := by rw [← sev_den (Φ := Φ) (env := env)]; exact SV.cells_den _ hy
    split at h
    · rename_i B cs hk
      obtain ⟨h2, h⟩ := bif_some h
      simp only [Option.some.injEq] at h
      subst h
      have := did_store_box R ho h1.1 (sev_is hx) (obj_is hk) ey (by simpa using h1.2) (by simpa using Nat.le_of_ble_eq_true h2)
      simpa [SSt.upds, SSt.den_setO, SOb.den, SV.den, List.map_take, List.map_drop] using this
    · rename_i e ks dp xs hk
      split at h
      · rename_i l ks' ds' dp' hab
        split at h
        · obtain ⟨h2, h⟩ := bif_some h
          simp only [Bool.and_eq_true] at h2
          obtain ⟨q1, q2, q3⟩ := h2
          simp only [Option.some.injEq] at h
          subst h
          obtain ⟨_, hl2⟩ := sabsorb_len cs' hab
          have c0 := hc (.op .ltlen [i, xs]) (by simp)
          have c1 := hc (.op (.rowlen ks.length) [.op .row [xs, i]]) (by simp)
          simp only [E.den, E.dens, opD, D.asBool, decide_eq_true_eq, List.getD_cons_zero, List.getD_cons_succ] at c0 c1
          have := did_store_arr R ho h1.1 (sev_is hx) (obj_is hk) c0 c1 ey (sabsorb_den cs' hab) (by rw [upds_obj k l s q3]; exact obj_is hk) (by simpa using h1.2) (by simpa using hl2) (by simpa using K.eqbs_eq q1) (by simpa using Nat.le_of_ble_eq_true q2)
          simpa [SSt.upds_append, SSt.upds, SSt.den_setO, SOb.den, SV.den, E.den, E.dens, E.dens_map, opD, D.asList, D.row, D.n] using this
        · cases h
      · cases h
    · rename_i e ks xs hk
      split at h
      · rename_i kk d k2 hcs hk2
        obtain ⟨h2, h⟩ := bif_some h
        simp only [Bool.and_eq_true, Bool.not_eq_true'] at h2
        obtain ⟨q1, q2, q3⟩ := h2
        simp only [Option.some.injEq] at h
        subst h
        have e1 := K.eqb_eq q1
        subst e1
        have c0 := hc (.op .ltlen [i, (arxR xs i).1]) (by simp)
        have c1 := hc (.op (.rowlen ks.length) [baseR 64 (arxR xs i).2]) (by simp)
        simp only [E.den, E.dens, opD, D.asBool, decide_eq_true_eq, List.getD_cons_zero, List.getD_cons_succ] at c0 c1
        obtain ⟨x1, x2, x3⟩ := arxR_ok (Φ := Φ) (env := env) xs i c0
        have x4 := okR_len (Φ := Φ) (env := env) 64 (arxR xs i).2 q3.2 c1
        rw [x2] at x4
        have := did_store_arx R ho h1.1 (sev_is hx) (obj_is hk) (by rw [← x1]; exact c0) x4 (sev_is hcs) hk2 q2 q3.1
        simp only [← x3, ← x2] at this
        simpa [SSt.upds, SSt.den_setO, SOb.den, SV.den, E.den, E.dens, E.dens_map, opD, D.asList, D.row, D.n] using this
      · cases h
    · cases h
  · cases h

theorem good_build (R : Rel C g (s.den Φ env) a w) {t : TypeId} {parts : Array (Nat × Operand)} (ho : o.op = .build t parts) {r : Res} (h : fBuild C.T s t parts.toList = some r) : Good Φ env C s a w o r := fun hc => by
  unfold fBuild at h
  obtain ⟨h1, h⟩ := bif_some h
  simp only [Bool.and_eq_true, List.all_eq_true] at h1
  split at h
  · rename_i cs hl
    simp only [Option.some.injEq] at h
    subst h
    have := slay_den (Φ := Φ) (env := env) _ _ hl
    refine did_build R ho h1.1 h1.2.1 h1.2.2 ?_
    simpa [Function.comp_def, szero_den, sev_den] using this
  · cases h

theorem isIota_range : ∀ (l : List Nat) (n : Nat), isIota n l = true → l = List.range' n l.length
  | [], _, _ => rfl
  | x :: l, n, h => by
    simp only [isIota, Bool.and_eq_true, beq_iff_eq] at h
    rw [h.1, List.length_cons, List.range'_succ, ← isIota_range l (n + 1) h.2]

theorem good_buildSlice (R : Rel C g (s.den Φ env) a w) (hk : s.obj key = none) {t : TypeId} {n : Nat} {parts : Array (Nat × Operand)} (ho : o.op = .buildSlice t n parts) {r : Res} (h : fBuildSlice C.T key s t n parts.toList = some r) :
    Good Φ env C s a w o r := fun hc => by
  unfold fBuildSlice at h
  split at h
  · rename_i e he
    obtain ⟨h1, h⟩ := bif_some h
    simp only [Bool.and_eq_true, Bool.not_eq_true', beq_eq_false_iff_ne, ne_eq, beq_iff_eq] at h1
    obtain ⟨q1, q2, q3, q4, q5, q6⟩ := h1
    split at h
    · rename_i cs hg
      split at h
      · rename_i l ks' ds dp hab
        obtain ⟨h2, h⟩ := bif_some h
        simp only [Option.some.injEq] at h
        subst h
        obtain ⟨g1, g2⟩ := sgather_den (Φ := Φ) (env := env) _ _ hg
        obtain ⟨_, hl2⟩ := sabsorb_len cs hab
        have hio : parts.toList.map Prod.fst = List.range n := by
          have := isIota_range _ _ q6
          rw [List.length_map, q5, ← List.range_eq_range'] at this
          exact this
        have := did_buildSlice R ho q1 he q2 (by omega) (Nat.le_of_ble_eq_true q4) hio (by simpa [Function.comp_def, sev_den] using g1) (sabsorb_den cs hab) (K.eqbs_eq h2) (none_den hk)
        have hlen : ds.length / (C.T e).ks.length = n := by
          rw [hl2, g2, List.length_map, q5]
          exact Nat.mul_div_cancel _ (by omega)
        simpa [SSt.upds_append, SSt.upds, SSt.den_setO, SOb.den, SV.den, SC.den, denP, E.den, E.dens_map, opD, D.asList, hlen] using this
      · cases h
    · cases h
  · cases h

theorem good_make (R : Rel C g (s.den Φ env) a w) (hk : s.obj key = none) {t : TypeId} {x y : Operand} (ho : o.op = .makeSlice t x y) {r : Res} (h : fMake C.T key s t x y = some r) : Good Φ env C s a w o r := fun hc => by
  unfold fMake at h
  split at h
  · rename_i e k d k' d' he hx hy
    obtain ⟨h1, h⟩ := bif_some h
    simp only [Bool.and_eq_true, Bool.not_eq_true', beq_eq_false_iff_ne, ne_eq] at h1
    simp only [Option.some.injEq] at h
    subst h
    have c0 := hc (.op .eqi [d', d]) (by simp)
    have c1 := hc (.op (.mkfit (C.T e).bytes) [d]) (by simp)
    simp only [E.den, E.dens, opD, D.asBool, decide_eq_true_eq, List.getD_cons_zero, List.getD_cons_succ, D.n] at c0 c1
    have := did_make R ho h1.1 he h1.2.1 (by omega) (sev_dat hx) (sev_dat hy) c0 c1.1 c1.2.1 (by omega) (none_den hk)
    simpa [SSt.upds, SSt.den_setO, SOb.den, SV.den, SC.den, denP, E.den, E.dens, E.dens_map, opD, D.asList, D.row, D.n, Function.comp_def, szeroE_den] using this
  · cases h
end

end Go.Vx

/-
  Vx, part 18: append on closed states; all operations but calls.
-/
namespace Go.Vx
open Go.RowKit (Below)

def ssrc (T : TypeId → TI) (s : SSt) (t : TypeId) (ks : List K) (y : Operand) : Option E := match sev T t s y with
  | .one (.ref z q) => match s.obj z with
    | some (.arr _ ks' _ xs) => bif K.eqbs ks' ks then some (scut xs q) else none
    | _ => none
  | v => match v.dn with
    | .one (.dat (.sl _ ks') d) => bif K.eqbs ks' ks then some d else none
    | _ => none

def offC : Option (E × E) → List E
  | none => []
  | some (o, _) => [.op .le [o, .int 0]]

/-- An array of the call's own whose rows own what they hold, as the source of an append. -/
def deepSrc (T : TypeId → TI) (s : SSt) (t : TypeId) (kd : Nat) (ks : List K) (dp : Bool) (y : Operand) : Option (Nat × TypeId × E) :=
  bif dp && !(plainK ks) then match sev T t s y with
    | .one (.ref z none) => bif z == kd then none else match s.obj z with
      | some (.arr e ks' true ys) => bif K.eqbs ks' ks then some (z, e, ys) else none
      | _ => none
    | _ => none
  else none
def fAppCore (T : TypeId → TI) (key : Nat) (s : SSt) (t e : TypeId) (y : Operand) (kd : Nat) (p : Option (E × E)) : Option Res :=
  match s.obj kd with
  | some (.arr e' ks dp xs) => bif e' == e && ks.length == (T e).ks.length then match deepSrc T s t kd ks dp y with
    | some (z, ez, ys) => some ⟨.op (.appfit (T e).bytes) [scut xs p, ys] :: offC p, .one (.ref key none), [(z, .sealed ez ks ys), (kd, .gone), (key, .arr e ks true (.op .lapp [scut xs p, ys]))]⟩
    | none => match ssrc T s t ks y with
    | some ys => some ⟨.op (.appfit (T e).bytes) [scut xs p, ys] :: offC p, .one (.ref key none), [(kd, .gone), (key, .arr e ks (dp && plainK ks) (.op .lapp [scut xs p, ys]))]⟩
    | none => none
    else none
  | _ => none

def fAppend (T : TypeId → TI) (key : Nat) (s : SSt) (t : TypeId) (x y : Operand) : Option Res :=
  match (T t).sl with
  | some e => bif (T t).ok && ((T e).ok && !((T e).ks.length == 0)) then match sev T t s x with
    | .one (.ref kd p) => fAppCore T key s t e y kd p
    | .one (.nil e' ks) => match s.obj (key + 1) with
      | none => match fAppCore T key (s.setO (key + 1) (.arr e' ks true .nl)) t e y (key + 1) none with
        | some r => some { r with upd := (key + 1, .arr e' ks true .nl) :: r.upd }
        | none => none
      | _ => none
    | _ => none
    else none
  | none => none

section
variable {Φ : Fns} {env : List D} {C : Cx} {g : Gh} {s : SSt} {a : Act} {w : World} {o : Oper} {key : Nat}

theorem ssrc_src (R : Rel C g (s.den Φ env) a w) {t : TypeId} {ks : List K} {y : Operand} {ys : E} (h : ssrc C.T s t ks y = some ys) : ∃ vssn, Src w (Me C.M (s.den Φ env).obj g.hd g.fp) ks (a.eval y) (ys.den Φ env).asList vssn := by
  unfold ssrc at h
  split at h
  · rename_i z q hy
    split at h
    · rename_i e ks' dp xs hz
      obtain ⟨h1, h2⟩ := bif_some h
      have h3 := K.eqbs_eq h1
      clear h h1
      subst h3
      simp only [Option.some.injEq] at h2
      subst h2
      have hr := ev_rep R t y
      rw [sev_is hy] at hr
      obtain ⟨vssn, S⟩ := R.src (obj_is hz) hr.1
      exact ⟨vssn, by rw [scut_den]; exact S⟩
    · cases h
  · split at h
    · rename_i v hv e ks' d hy
      obtain ⟨h1, h2⟩ := bif_some h
      have h3 := K.eqbs_eq h1
      clear h h1
      subst h3
      simp only [Option.some.injEq] at h2
      subst h2
      exact Src.of_dat (R.datv (sev_dat hy))
    · cases h

theorem Rel.srcDeep {σ : St} (R : Rel C g σ a w) {y : Nat} {e : TypeId} {ks : List K} {ys : List (List D)} (hy : σ.obj y = some (.arr e ks true ys)) {v : Value} (hr : RefRep (sur C g σ w) y none v) :
    ∃ (vssn : List (List Value)) (fpsn : List (List Nat)), Src w (Me C.M (σ.setO y (.sealed e ks ys)).obj (g.upd y (g.hd y) []).hd (g.upd y (g.hd y) []).fp) ks v ys vssn ∧ fpsn.length = ys.length ∧
      (∀ (i : Nat) (row : List D) (vs : List Value) (f : List Nat), ys[i]? = some row → vssn[i]? = some vs → fpsn[i]? = some f → RepDs w ks vs row f) ∧ fpsn.flatten.Nodup ∧ ∀ c, c ∈ fpsn.flatten → c ∈ g.fp y := by
  obtain ⟨vss, fps, h1, h2, h3, h4, h5, hlen, h6⟩ := R.arrAll hy
  unfold RefRep at hr
  simp only [sur, hy] at hr
  have hv := hr.2
  subst hv
  have hmem : ∀ c, c ∈ fps.flatten → c ∈ g.fp y := fun c hc => by rw [h5]; simp [hc]
  have hnd : fps.flatten.Nodup := by
    have := R.own y
    rw [h5] at this
    exact (List.nodup_append.1 this).2.1
  have hme : ∀ c, c ∈ g.fp y → ∀ o, ¬ Me C.M (σ.setO y (.sealed e ks ys)).obj (g.upd y (g.hd y) []).hd (g.upd y (g.hd y) []).fp c o := fun c hc o => R.notMe hc (fun z hl hb => by
    rw [St.obj_setO] at hl
    split at hl
    · simp [Ob.live] at hl
    · rename_i hz
      exact ⟨hl, hz, by simp [Gh.upd, upd_ne _ _ hz]⟩) (fun z hl hb => by
    rw [St.obj_setO] at hl
    split at hl
    · simp [Ob.isX] at hl
    · rename_i hz
      exact ⟨hz, by simpa [Gh.upd, upd_ne _ _ hz] using hb⟩) o
  refine ⟨vss, fps, ⟨h3, hlen, ?_, fun i row vs e1 e2 => ?_⟩, h4, fun i row vs f e1 e2 e3 => (h6 i row vs f e1 e2 e3).2.1 rfl, hnd, hmem⟩
  · rcases ownsRow_cases h1 with ⟨hh, h00⟩ | ⟨b, cap', hh, hn, _⟩
    · exact ⟨none, 0, by rw [hh, h00], fun h => by omega⟩
    · refine ⟨some ⟨b, 0, none⟩, cap', hh, fun _ => ⟨b, 0, rfl, ?_⟩⟩
      refine row_flatten (sz := ks.length) _ _ fun i vs hi => ?_
      have hr := ownsRow_row h1 hlen (by rw [hh]; rfl : (g.hd y).ownBlock = some b) hi
      rw [Nat.zero_add]
      exact ⟨hr, hlen vs (List.mem_of_getElem? hi)⟩
  · have hi := (List.getElem?_eq_some_iff.1 e2).1
    have hf : fps[i]? = some fps[i] := List.getElem?_eq_getElem (by omega)
    exact ((h6 i row vs _ e1 e2 hf).2.1 rfl).toC fun b hb o => hme b (hmem b (List.mem_flatten.2 ⟨_, List.getElem_mem _, hb⟩)) o

theorem setO_setO_comm_free {σ : St} {x : Nat} {o : Ob} {z : Nat} (h : z ≠ x) : (σ.setO x o).obj z = σ.obj z := by rw [St.obj_setO, if_neg h]

theorem good_appCore (R : Rel C g (s.den Φ env) a w) (hkey : s.obj key = none) {t e : TypeId} {x y : Operand} (ho : o.op = .call { callee := .builtin .append, args := #[x, y], argTypes := #[t, t] })
    (ht : (C.T t).ok = true) (hs : (C.T t).sl = some e) (het : (C.T e).ok = true) (hpos : 0 < (C.T e).ks.length) {kd : Nat} {p : Option (E × E)} (hx : RefRep (sur C g (s.den Φ env) w) kd (denP Φ env p) (a.eval x))
    {r : Res} (h : fAppCore C.T key s t e y kd p = some r) : Good Φ env C s a w o r := fun hc => by
  unfold fAppCore at h
  split at h
  · rename_i e' ks dp xs hk
    obtain ⟨h1, h2⟩ := bif_some h
    clear h
    simp only [Bool.and_eq_true, beq_iff_eq] at h1
    obtain ⟨h3, h4⟩ := h1
    subst h3
    split at h2
    · rename_i z ez ys hys
      simp only [Option.some.injEq] at h2
      subst h2
      unfold deepSrc at hys
      obtain ⟨hb, hys0⟩ := bif_some hys
      clear hys
      have hys := hys0
      clear hys0
      simp only [Bool.and_eq_true] at hb
      split at hys
      · rename_i z' hz'
        cases hzk : z' == kd with
        | true => rw [hzk] at hys; cases hys
        | false =>
          rw [hzk] at hys
          simp only [cond_false] at hys
          split at hys
          · rename_i e2 ks2 ys2 hzo
            obtain ⟨hk2, hys3⟩ := bif_some hys
            clear hys
            have hk3 := K.eqbs_eq hk2
            subst hk3
            have hys4 := Option.some.inj hys3
            clear hys3
            simp only [Prod.mk.injEq] at hys4
            obtain ⟨rfl, rfl, rfl⟩ := hys4
            have hne : z' ≠ kd := by simpa using hzk
            have hdp : dp = true := hb.1
            have hzo' := obj_is (Φ := Φ) (env := env) hzo
            have hrz : RefRep (sur C g (s.den Φ env) w) z' none (a.eval y) := by
              have := ev_rep R t y
              rw [sev_is hz'] at this
              exact this.1
            obtain ⟨vssn, fpsn, S, f1, f2, f3, f4⟩ := R.srcDeep hzo' hrz
            have R1 := R.shutOb hzo'
            have hkd1 : ((s.den Φ env).setO z' (.sealed e2 ks2 (ys2.den Φ env).asList)).obj kd = some (.arr e' ks2 dp (xs.den Φ env).asList) := by
              rw [setO_setO_comm_free (fun e => hne e.symm)]; exact obj_is hk
            have hx1 : RefRep (sur C (g.upd z' (g.hd z') []) ((s.den Φ env).setO z' (.sealed e2 ks2 (ys2.den Φ env).asList)) w) kd (denP Φ env p) (a.eval x) := by
              have hkd0 := obj_is (Φ := Φ) (env := env) hk
              have hhd : (g.upd z' (g.hd z') []).hd kd = g.hd kd := by simp [Gh.upd, upd_ne _ _ (fun e => hne e.symm : kd ≠ z')]
              unfold RefRep at hx ⊢
              simp only [sur] at hx ⊢
              rw [hkd1, hhd]
              rw [hkd0] at hx
              exact hx
            have hkn : ((s.den Φ env).setO z' (.sealed e2 ks2 (ys2.den Φ env).asList)).obj key = none := by
              rw [setO_setO_comm_free (fun e => by rw [e, hzo] at hkey; cases hkey)]
              exact none_den hkey
            have c0 := hc (.op (.appfit (C.T e').bytes) [scut xs p, ys2]) (by simp)
            simp only [E.den, E.dens, opD, D.asBool, decide_eq_true_eq, List.getD_cons_zero, List.getD_cons_succ, scut_den, D.asList] at c0
            have hp0 : cutOff (denP Φ env p) = 0 := by
              cases p with
              | none => rfl
              | some q =>
                obtain ⟨f, l⟩ := q
                have c1 := hc (.op .le [f, .int 0]) (by simp [offC])
                simp [E.den, E.dens, opD, D.asBool, D.asInt] at c1
                simp only [denP, cutOff, D.n]
                have c1' : (f.den Φ env).asInt ≤ 0 := c1
                omega
            have := did_append R1 ho ht hs het hpos hx1 hp0 hkd1 h4 S hkn (dp2 := true) (fun _ => ⟨hdp, fpsn, f1, f2, f3, fun c hcc => by
              have hcy := f4 c hcc
              refine ⟨fun z hz => ?_, R.alw _ c hcy⟩
              by_cases hzz : z = z'
              · subst hzz; simp [Gh.upd, upd_eq] at hz
              · simp only [Gh.upd, upd_ne _ _ hzz] at hz
                exact R.apart z z' hzz c hz hcy⟩) c0.1 c0.2
            simpa [SSt.upds, SSt.den_setO, SOb.den, SV.den, SC.den, denP, E.den, E.dens, opD, D.asList, scut_den] using this
          · cases hys
      · cases hys
    split at h2
    · rename_i ys hys
      simp only [Option.some.injEq] at h2
      subst h2
      obtain ⟨vssn, S⟩ := ssrc_src R hys
      have c0 := hc (.op (.appfit (C.T e').bytes) [scut xs p, ys]) (by simp)
      simp only [E.den, E.dens, opD, D.asBool, decide_eq_true_eq, List.getD_cons_zero, List.getD_cons_succ, scut_den, D.asList] at c0
      have hp0 : cutOff (denP Φ env p) = 0 := by
        cases p with
        | none => rfl
        | some q =>
          obtain ⟨f, l⟩ := q
          have c1 := hc (.op .le [f, .int 0]) (by simp [offC])
          simp [E.den, E.dens, opD, D.asBool, D.asInt] at c1
          simp only [denP, cutOff, D.n]
          have c1' : (f.den Φ env).asInt ≤ 0 := c1
          omega
      have := did_append R ho ht hs het hpos hx hp0 (obj_is hk) h4 S (none_den hkey) (dp2 := dp && plainK ks) (fun hd => by
        simp only [Bool.and_eq_true] at hd
        refine ⟨hd.1, List.replicate (ys.den Φ env).asList.length [], by simp, fun i row vs f e1 e2 e3 => ?_, by simp, fun c hcc => by simp at hcc⟩
        rw [(List.mem_replicate.1 (List.mem_of_getElem? e3)).2]
        exact (S.rows i row vs e1 e2).plain hd.2) c0.1 c0.2
      simpa [SSt.upds, SSt.den_setO, SOb.den, SV.den, SC.den, denP, E.den, E.dens, opD, D.asList, scut_den] using this
    · cases h2
  · cases h

theorem obj_setO_ne {x y : Nat} {ob : SOb} (h : x ≠ y) : (s.setO y ob).obj x = s.obj x := by
  have hd : ∀ l, slook x (sdrop y l) = slook x l := by
    intro l
    induction l with
    | nil => rfl
    | cons q l ih =>
      obtain ⟨z, ob'⟩ := q
      by_cases hz : y = z
      · subst hz
        have : (x == y) = false := by simpa using h
        simp [sdrop, slook, this, ih]
      · have : (y == z) = false := by simpa using hz
        simp [sdrop, slook, this, ih]
  have : (x == y) = false := by simpa using h
  simp [SSt.obj, SSt.setO, slook, this, hd]

theorem good_append (R : Rel C g (s.den Φ env) a w) (hkey : s.obj key = none) {t : TypeId} {x y : Operand} (ho : o.op = .call { callee := .builtin .append, args := #[x, y], argTypes := #[t, t] }) {r : Res}
    (h : fAppend C.T key s t x y = some r) : Good Φ env C s a w o r := by
  unfold fAppend at h
  split at h
  · rename_i e he
    obtain ⟨h1, h2⟩ := bif_some h
    clear h
    simp only [Bool.and_eq_true, Bool.not_eq_true', beq_eq_false_iff_ne, ne_eq] at h1
    have hr := ev_rep R t x
    split at h2
    · rename_i kd p hx
      rw [sev_is hx] at hr
      exact good_appCore R hkey ho h1.1 he h1.2.1 (by omega) hr.1 h2
    · rename_i e' ks hx
      rw [sev_is hx] at hr
      have hv : a.eval x = .slice none 0 0 := hr.1
      split at h2
      · rename_i hk2
        split at h2
        · rename_i r' hr'
          simp only [Option.some.injEq] at h2
          subst h2
          have R' := R.nilArr (none_den (Φ := Φ) (env := env) hk2) e' ks
          have e1 : (s.den Φ env).setO (key + 1) (.arr e' ks true []) = (s.setO (key + 1) (.arr e' ks true .nl)).den Φ env := by rw [SSt.den_setO]; rfl
          rw [e1] at R'
          refine good_appCore R' (by rw [obj_setO_ne (by omega)]; exact hkey) ho h1.1 he h1.2.1 (by omega) ?_ hr'
          unfold RefRep
          simp only [sur, ← e1, St.obj_setO, if_true, Gh.upd, upd_eq]
          exact ⟨trivial, hv⟩
        · cases h2
      · cases h2
    · cases h2
  · cases h
end

/-- Bytes as a text. -/
def fBytes (T : TypeId → TI) (s : SSt) (st t : TypeId) (x : Operand) : Option Res := match (T st).sl with
  | some e => match (T e).ik with
    | some .u8 => bif (T st).ok && ((T e).ok && ((T t).ok && (T t).isStr)) then match ssrc T s st [.int .u8] x with
      | some ys => some ⟨[.op .le [.op .len [ys], .int 140737488355328]], .one (.dat .str (.op .bstr [ys])), []⟩
      | none => none
      else none
    | _ => none
  | none => none

section
variable {Φ : Fns} {env : List D} {C : Cx} {g : Gh} {s : SSt} {a : Act} {w : World} {o : Oper} {key : Nat}

theorem bytes_flatten {w : World} {me : Nat → Nat → Prop} : ∀ (ys : List (List D)) (vssn : List (List Value)), vssn.length = ys.length → (∀ (i : Nat) (row : List D) (vs : List Value), ys[i]? = some row → vssn[i]? = some vs → RepCs w me [.int .u8] vs row) →
    vssn.flatten = (ys.map fun r => (r.headD default).asInt).map (Value.int .u8)
  | [], [], _, _ => rfl
  | [], _ :: _, h, _ => by simp at h
  | _ :: _, [], h, _ => by simp at h
  | y :: ys, vs :: vss, h, hr => by
    have h0 := hr 0 y vs rfl rfl
    obtain ⟨v, vs', rfl, hc, hn⟩ := h0
    have hn : vs' = [] := hn
    subst hn
    rw [List.flatten_cons, bytes_flatten ys vss (by simpa using h) fun i row vs e1 e2 => hr (i + 1) row vs (by simpa using e1) (by simpa using e2), hc.1]
    rfl

theorem did_bytes {σ : St} (R : Rel C g σ a w) {st t e : TypeId} {x : Operand} (ho : o.op = .convert st t x) (hst : (C.T st).ok = true) (hsl : (C.T st).sl = some e) (he : (C.T e).ok = true) (hik : (C.T e).ik = some .u8)
    (ht : (C.T t).ok = true) (hstr : (C.T t).isStr = true) {me : Nat → Nat → Prop} {ys : List (List D)} {vssn : List (List Value)} (S : Src w me [.int .u8] (a.eval x) ys vssn) (hmax : ys.length ≤ lenMax) :
    Did C a w o (.one (.dat .str (.str (bytesOf ys)))) σ := by
  obtain ⟨_, d1, _, _, hu1, _, _, _, _, h1⟩ := (C.tok st hst).ex
  obtain ⟨_, d2, _, _, hu2, _, _, _, _, h2⟩ := (C.tok e he).ex
  obtain ⟨_, d3, _, _, hu3, _, _, _, _, h3⟩ := (C.tok t ht).ex
  have e1 : d1 = .slice e := by
    cases d1 with
    | slice e' => have := h1.2.1; rw [hsl] at this; simp at this; rw [this]
    | struct fs => have := h1.2.1; rw [hsl] at this; cases this
    | int k => have := h1.2.1; rw [hsl] at this; cases this
    | bool => have := h1.2.1; rw [hsl] at this; cases this
    | string => have := h1.2.1; rw [hsl] at this; cases this
    | _ => exact h1.elim
  have e2 : d2 = .int .u8 := by
    cases d2 with
    | int k => have := h2.2.2.1; rw [hik] at this; simp at this; rw [this]
    | slice e' => have := h2.2.2.1; rw [hik] at this; cases this
    | struct fs => have := h2.2.2.1; rw [hik] at this; cases this
    | bool => have := h2.2.2.1; rw [hik] at this; cases this
    | string => have := h2.2.2.1; rw [hik] at this; cases this
    | _ => exact h2.elim
  have e3 : d3 = .string := by
    cases d3 with
    | string => rfl
    | int k => have := h3.2.2.2.1; rw [hstr] at this; cases this
    | slice e' => have := h3.2.2.2.1; rw [hstr] at this; cases this
    | struct fs => have := h3.2.2.2.1; rw [hstr] at this; cases this
    | bool => have := h3.2.2.2.1; rw [hstr] at this; cases this
    | _ => exact h3.elim
  subst e1 e2 e3
  obtain ⟨ad, cap, ev, hrow⟩ := S.val
  have hfl := bytes_flatten ys vssn S.len S.rows
  have hsz : (bytesOf ys).size ≤ lenMax := by simp [bytesOf, strOfNums_size, hmax]
  have key : (convert st t (.slice ad ys.length cap)).run C.P w = .ok (.string (bytesOf ys)) w := by
    cases ys with
    | nil =>
      rw [run_convert_bytes_string w st t e ad _ cap hu1 hu2 hu3]
      cases ad with
      | none => simp [Conv.bytesToString, bytesOf, strOfNums]; rfl
      | some a0 =>
        have hl : (loadCells a0 0).run C.P w = .ok (([] : List Int).map (Value.int .u8)).toArray w := by
          simpa using run_loadCells_list (P := C.P) w a0 [] (fun j v hj => by simp at hj)
        have := run_bytesToString (P := C.P) w a0 0 cap [] hl
        exact this.trans rfl
    | cons y ys =>
      obtain ⟨b, p, rfl, hr⟩ := hrow (by simp)
      rw [hfl] at hr
      exact run_convert_bytes_arg (P := C.P) w st e hu1 hu2 b p (y :: ys).length cap ((y :: ys).map fun r => (r.headD default).asInt) (by simp) (fun i hi => by
        have hi' : i < ((y :: ys).map fun r => (r.headD default).asInt).length := by simpa using hi
        have := hr.get i (.int .u8 (((y :: ys).map fun r => (r.headD default).asInt)[i])) (by rw [List.getElem?_map, List.getElem?_eq_getElem hi', Option.map_some])
        rw [this, List.getD_eq_getElem?_getD, List.getElem?_eq_getElem hi', Option.getD_some]) t hu3
  exact .quiet R (v := .string (bytesOf ys)) (by simp [execOp, ho, ev, key]) (rep_one ⟨rfl, hsz⟩)

theorem good_bytes (R : Rel C g (s.den Φ env) a w) {st t : TypeId} {x : Operand} (ho : o.op = .convert st t x) {r : Res} (h : fBytes C.T s st t x = some r) : Good Φ env C s a w o r := fun hc => by
  unfold fBytes at h
  split at h
  · rename_i e he
    split at h
    · rename_i hik
      obtain ⟨h1, h2⟩ := bif_some h
      simp only [Bool.and_eq_true] at h1
      split at h2
      · rename_i ys hys
        simp only [Option.some.injEq] at h2
        subst h2
        obtain ⟨vssn, S⟩ := ssrc_src R hys
        have c0 := hc (.op .le [.op .len [ys], .int 140737488355328]) (by simp)
        simp [E.den, E.dens, opD, D.asBool, D.asInt] at c0
        exact did_bytes R ho h1.1 he h1.2.1 hik h1.2.2.1 h1.2.2.2 S (by show (ys.den Φ env).asList.length ≤ 2 ^ 47; omega)
      · cases h2
    · cases h
  · cases h
end

/-- An operation that is no call of a function. `key`, `key + 1`: names for what it makes. -/
def opF (T : TypeId → TI) (key : Nat) (s : SSt) (o : Oper) : Option Res := match o.op with
  | .move x => some ⟨[], sev T o.type s x, []⟩
  | .assign x => some ⟨[], sev T o.type s x, []⟩
  | .load t x => fLoad T s t x
  | .fieldAddr t x f => fFieldAddr T s t x f
  | .indexAddr t x y => fIndexAddr T s t x y
  | .binOp op t x y u => match fEq T s op t x y u with | some r => some r | none => fBin T s op t x y u
  | .unOp op t x => fUn T s op t x
  | .convert st t x => match fBytes T s st t x with | some r => some r | none => fConv T s st t x
  | .index t x y => fIndex T s t x y
  | .pick c x y => fPick T s o.type c x y
  | .slice t x lo hi none => fSlice T s t x lo hi
  | .extract x i => fExtract T s x i
  | .field st x f => fField T s st x f
  | .nilCheck x => fNilCheck T s x
  | .alloc t => fAlloc T key t
  | .box t y => fBox T key s t y
  | .store t x y => fStore T s t x y
  | .build t parts => fBuild T s t parts.toList
  | .buildSlice t n parts => fBuildSlice T key s t n parts.toList
  | .makeSlice t x y => fMake T key s t x y
  | .call c => match c.callee, c.args.toList, c.argTypes.toList with
    | .builtin .len, [x], [t] => fLen T s t x
    | .builtin .append, [x, y], [t, t'] => bif t == t' then fAppend T key s t x y else none
    | _, _, _ => none
  | _ => none

section
variable {Φ : Fns} {env : List D} {C : Cx} {g : Gh} {s : SSt} {a : Act} {w : World} {o : Oper} {key : Nat}

theorem good_op (R : Rel C g (s.den Φ env) a w) (hkey : s.obj key = none) {r : Res} (h : opF C.T key s o = some r) : Good Φ env C s a w o r := by
  unfold opF at h
  split at h
  case h_1 ho => simp only [Option.some.injEq] at h; subst h; exact good_move R _ (.inl ho)
  case h_2 ho => simp only [Option.some.injEq] at h; subst h; exact good_move R _ (.inr ho)
  case h_3 ho => exact good_load R ho h
  case h_4 ho => exact good_fieldAddr R ho h
  case h_5 ho => exact good_indexAddr R ho h
  case h_6 ho =>
    split at h
    · rename_i r' hr
      simp only [Option.some.injEq] at h
      subst h
      exact good_eq R ho hr
    · exact good_bin R ho h
  case h_7 ho => exact good_un R ho h
  case h_8 ho =>
    split at h
    · rename_i r' hr
      simp only [Option.some.injEq] at h
      subst h
      exact good_bytes R ho hr
    · exact good_conv R ho h
  case h_9 ho => exact good_index R ho h
  case h_10 ho => exact good_pick R ho h
  case h_11 ho => exact good_slice R ho h
  case h_12 ho => exact good_extract R ho h
  case h_13 ho => exact good_field R ho h
  case h_14 ho => exact good_nilCheck R ho h
  case h_15 ho => exact good_alloc R hkey ho h
  case h_16 ho => exact good_box R hkey ho h
  case h_17 ho => exact good_store R ho h
  case h_18 ho => exact good_build R ho h
  case h_19 ho => exact good_buildSlice R hkey ho h
  case h_20 ho => exact good_make R hkey ho h
  case h_21 c ho =>
    split at h
    · rename_i x t h1 h2 h3
      have e1 : c = { callee := .builtin .len, args := #[x], argTypes := #[t] } := by
        obtain ⟨cl, ar, at'⟩ := c
        simp only at h1 h2 h3
        subst h1
        rw [show ar = #[x] from Array.ext' h2, show at' = #[t] from Array.ext' h3]
      rw [e1] at ho
      exact good_len R ho h
    · rename_i x y t t' h1 h2 h3
      obtain ⟨h4, h5⟩ := bif_some h
      clear h
      have h6 : t = t' := by simpa using h4
      clear h4
      subst h6
      have e1 : c = { callee := .builtin .append, args := #[x, y], argTypes := #[t, t] } := by
        obtain ⟨cl, ar, at'⟩ := c
        simp only at h1 h2 h3
        subst h1
        rw [show ar = #[x, y] from Array.ext' h2, show at' = #[t, t] from Array.ext' h3]
      rw [e1] at ho
      exact good_append R hkey ho h5
    · cases h
  case h_22 => cases h
end

end Go.Vx

/-
  Vx, part 19: many new objects at once; what a function is told to do.
-/
namespace Go.Vx
open Go.RowKit (Below)

abbrev New := Nat → Option (Ob × Value × List Nat)
def Gh.many (g : Gh) (N : New) : Gh := ⟨fun x => match N x with | some (_, h, _) => h | none => g.hd x, fun x => match N x with | some (_, _, f) => f | none => g.fp x⟩

theorem Shift.many {C : Cx} {g : Gh} {σ σ' : St} {w w' : World} (hb : Below w.heap.size w w') {N : New} (hN : ∀ x q, N x = some q → σ.obj x = none)
    (hσ : ∀ x, σ'.obj x = match N x with | some (o, _, _) => some o | none => σ.obj x) (hh : ∀ x o h f, N x = some (o, h, f) → ∀ b, blkOf h = some b → w.heap.size ≤ b)
    (hX : ∀ x o h f, N x = some (o, h, f) → ∀ b, b ∈ f → w.heap.size ≤ b) :
    Shift (sur C g σ w) (sur C (g.many N) σ' w') := by
  have hk : Keeps w (Me C.M σ.obj g.hd g.fp) w' (Me C.M σ'.obj (g.many N).hd (g.many N).fp) := fun b p v hc hn => by
    have hlt := cell_lt hc
    refine ⟨by rw [hb.cell (p := ⟨b, p, none⟩) hlt]; exact hc, ?_⟩
    rintro (hM | ⟨y, hl, hbk⟩ | ⟨y, hl, hbk⟩)
    · exact hn (.inl hM)
    · cases hy : N y with
      | some q =>
        obtain ⟨o, h, f⟩ := q
        simp only [Gh.many, hy] at hbk
        have := hh y o h f hy b hbk
        omega
      | none =>
        rw [hσ, hy] at hl
        simp only [Gh.many, hy] at hbk
        exact hn (.inr (.inl ⟨y, hl, hbk⟩))
    · cases hy : N y with
      | some q =>
        obtain ⟨o, h, f⟩ := q
        simp only [Gh.many, hy] at hbk
        have := hX y o h f hy b hbk
        omega
      | none =>
        rw [hσ, hy] at hl
        simp only [Gh.many, hy] at hbk
        exact hn (.inr (.inr ⟨y, hl, hbk⟩))
  refine ⟨hk, fun y q v hr => ?_, fun y i j v hp => ?_, fun y i j v hl => ?_, fun y o' hy' => ?_⟩
  rotate_left 2
  · cases hy : N y with
    | some q => simp [LodRep, sur, hN y q hy] at hl
    | none =>
      refine hl.keep (by simp only [sur, hσ, hy]) (by simp only [sur, Gh.many, hy]) fun b p u hu _ => ?_
      show w'.cell? _ = _
      rw [hb.cell (p := ⟨b, p, none⟩) (cell_lt hu)]; exact hu
  · cases hy : N y with
    | some q => simp only [sur, hN y q hy] at hy'; cases hy'
    | none => exact ⟨o', by simp only [sur, hσ, hy]; exact hy', fun e ks xs' e1 => ⟨⟨xs', e1⟩, by simp only [sur, Gh.many, hy]⟩⟩
  · cases hy : N y with
    | some q' => unfold RefRep at hr; simp only [sur, hN y q' hy] at hr
    | none =>
      have h1 : σ'.obj y = σ.obj y := by rw [hσ, hy]
      have h2 : (g.many N).hd y = g.hd y := by simp only [Gh.many, hy]
      unfold RefRep at hr ⊢
      simp only [sur, h1, h2] at hr ⊢
      cases he : σ.obj y with
      | none => rw [he] at hr; exact hr
      | some q =>
        rw [he] at hr
        cases q with
        | «sealed» e ks xs => exact ⟨hr.1, hr.2.keeps hk⟩
        | _ => exact hr
  · cases hy : N y with
    | some q' => unfold PtrRep at hp; simp only [sur, hN y q' hy] at hp
    | none =>
      have h1 : σ'.obj y = σ.obj y := by rw [hσ, hy]
      have h2 : (g.many N).hd y = g.hd y := by simp only [Gh.many, hy]
      unfold PtrRep at hp ⊢
      simp only [sur, h1, h2] at hp ⊢
      exact hp

theorem Rel.many {C : Cx} {g : Gh} {σ σ' : St} {a : Act} {w w' : World} (R : Rel C g σ a w) (hb : Below w.heap.size w w') {N : New} (ht : σ'.tmps = σ.tmps) (hN : ∀ x q, N x = some q → σ.obj x = none)
    (hσ : ∀ x, σ'.obj x = match N x with | some (o, _, _) => some o | none => σ.obj x) (hh : ∀ x o h f, N x = some (o, h, f) → ∀ b, blkOf h = some b → w.heap.size ≤ b)
    (hf : ∀ x o h f, N x = some (o, h, f) → f.Nodup ∧ ∀ b, b ∈ f → w.heap.size ≤ b ∧ b < w'.heap.size)
    (hd : ∀ x y o h f o' h' f', x ≠ y → N x = some (o, h, f) → N y = some (o', h', f') → ∀ b, b ∈ f → b ∉ f')
    (ho : ∀ x q, N x = some q → RepOb (sur C (g.many N) σ' w') (g.many N).fp x) : Rel C (g.many N) σ' a w' := by
  have hs := Shift.many (C := C) (g := g) hb hN hσ hh fun x o h f hq b hbm => ((hf x o h f hq).2 b hbm).1
  have old : ∀ y b, b ∈ g.fp y → b < w.heap.size := fun y b hm => (R.alw y b hm).2
  have fpo : ∀ y, N y = none → (g.many N).fp y = g.fp y := fun y hy => by simp only [Gh.many, hy]
  have fpn : ∀ y o h f, N y = some (o, h, f) → (g.many N).fp y = f := fun y o h f hy => by simp only [Gh.many, hy]
  refine R.move ht hs (fun y => ?_) (fun y => ?_) (fun y z hyz b hy hz => ?_) (fun y b hy => ?_) (R.fr.below hb)
  · cases hy : N y with
    | some q => exact ho y q hy
    | none =>
      refine (R.objs y).shift hs ?_ ?_ (fpo y hy) fun b hm => hb.block b (old y b hm)
      · show σ'.obj y = σ.obj y
        rw [hσ, hy]
      · show (g.many N).hd y = g.hd y
        simp only [Gh.many, hy]
  · cases hy : N y with
    | some q => obtain ⟨o, h, f⟩ := q; rw [fpn y o h f hy]; exact (hf y o h f hy).1
    | none => rw [fpo y hy]; exact R.own y
  · cases hy' : N y with
    | some q =>
      obtain ⟨o, h, f⟩ := q
      rw [fpn y o h f hy'] at hy
      cases hz' : N z with
      | some q' =>
        obtain ⟨o', h', f'⟩ := q'
        rw [fpn z o' h' f' hz'] at hz
        exact hd y z o h f o' h' f' hyz hy' hz' b hy hz
      | none =>
        rw [fpo z hz'] at hz
        have := ((hf y o h f hy').2 b hy).1
        have := old z b hz
        omega
    | none =>
      rw [fpo y hy'] at hy
      cases hz' : N z with
      | some q' =>
        obtain ⟨o', h', f'⟩ := q'
        rw [fpn z o' h' f' hz'] at hz
        have := ((hf z o' h' f' hz').2 b hz).1
        have := old y b hy
        omega
      | none =>
        rw [fpo z hz'] at hz
        exact R.apart y z hyz b hy hz
  · cases hy' : N y with
    | some q =>
      obtain ⟨o, h, f⟩ := q
      rw [fpn y o h f hy'] at hy
      have := (hf y o h f hy').2 b hy
      exact ⟨.inl (Nat.le_trans R.fr.size this.1), this.2⟩
    | none =>
      rw [fpo y hy'] at hy
      exact ⟨(R.alw y b hy).1, Nat.lt_of_lt_of_le (R.alw y b hy).2 hb.size⟩

/-- Nothing of the call's own is turned. -/
theorem Rel.below {C : Cx} {g : Gh} {σ : St} {a : Act} {w w' : World} (R : Rel C g σ a w) (hb : Below w.heap.size w w') : Rel C g σ a w' :=
  R.many (N := fun _ => none) hb rfl (fun _ _ h => by cases h) (fun _ => rfl) (fun _ _ _ _ h => by cases h) (fun _ _ _ _ h => by cases h) (fun _ _ _ _ _ _ _ _ _ h => by cases h) (fun _ _ h => by cases h)

/-- An array that nobody else names. -/
def OwnRep (w : World) (M : Nat → Nat → Prop) (e : TypeId) (ks : List K) (dp : Bool) (v : Value) (xs : List (List D)) (F : List Nat) : Prop :=
  ∃ (vss : List (List Value)) (fps : List (List Nat)), w.ownsRow 0 e ks.length v xs.length vss.flatten ∧ xs.length ≤ lenMax ∧
      vss.length = xs.length ∧ fps.length = xs.length ∧ F = v.ownBlock.toList ++ fps.flatten ∧
      (∀ (i : Nat) (row : List D) (vs : List Value) (f : List Nat), xs[i]? = some row → vss[i]? = some vs → fps[i]? = some f →
        if dp then RepDs w ks vs row f else (RepCs w M ks vs row ∧ f = []))

/-- A cell of a result: data; an array of its own. -/
inductive RC where
  | im (k : K)
  | own (e : TypeId) (ks : List K) (dp : Bool)
  deriving Inhabited

def RetCs (w : World) (M : Nat → Nat → Prop) : List RC → List Value → List D → List (List Nat) → Prop
  | [], vs, _, Fs => vs = [] ∧ Fs = []
  | .im k :: cs, vs, ds, Fs => ∃ v vs', vs = v :: vs' ∧ RepC w M k v (ds.headD default) ∧ RetCs w M cs vs' ds.tail Fs
  | .own e ks dp :: cs, vs, ds, Fs => ∃ v vs' F Fs', vs = v :: vs' ∧ Fs = F :: Fs' ∧ OwnRep w M e ks dp v (ds.headD default).asList F ∧ RetCs w M cs vs' ds.tail Fs'

/-- What an argument is. -/
inductive ASh where
  | one (k : K)
  | agg (ks : List K)
  deriving Inhabited
inductive RSh where
  | one (c : RC)
  | agg (cs : List RC)
  deriving Inhabited

def ArgRep (w : World) (M : Nat → Nat → Prop) : ASh → Value → D → Prop
  | .one k, v, d => RepC w M k v d
  | .agg ks, v, d => ∃ vs, v = .agg (List.toArray vs) ∧ RepCs w M ks vs d.row
def ArgReps (w : World) (M : Nat → Nat → Prop) : List ASh → List Value → List D → Prop
  | [], vs, ds => vs = [] ∧ ds = []
  | s :: ss, vs, ds => ∃ v vs' d ds', vs = v :: vs' ∧ ds = d :: ds' ∧ ArgRep w M s v d ∧ ArgReps w M ss vs' ds'

/-- The cells of a result that heads an array of its own are not to be written by others. -/
def MeR (M : Nat → Nat → Prop) (Fs : List (List Nat)) (b o : Nat) : Prop := M b o ∨ ∃ F, F ∈ Fs ∧ b ∈ F

end Go.Vx

/-
  Vx, part 20: contracts of functions, and what an operation does to what comes after it.
-/
namespace Go.Vx
open Go.RowKit (Below)

theorem RepC.mono {w : World} {M M' : Nat → Nat → Prop} (h : ∀ b o, M' b o → M b o) {k : K} {v : Value} {d : D} (hr : RepC w M k v d) : RepC w M' k v d :=
  hr.keeps (fun _ _ _ hc hn => ⟨hc, fun hm => hn (h _ _ hm)⟩)
theorem RepCs.mono {w : World} {M M' : Nat → Nat → Prop} (h : ∀ b o, M' b o → M b o) {ks : List K} {vs : List Value} {ds : List D} (hr : RepCs w M ks vs ds) : RepCs w M' ks vs ds :=
  hr.keeps (fun _ _ _ hc hn => ⟨hc, fun hm => hn (h _ _ hm)⟩)

def RC.head : RC → Value → List Nat
  | .own _ _ _, v => v.ownBlock.toList
  | .im _, _ => []
def retHeads : List RC → List Value → List Nat
  | c :: cs, v :: vs => c.head v ++ retHeads cs vs
  | _, _ => []
def MeH (M : Nat → Nat → Prop) (hs : List Nat) (b o : Nat) : Prop := M b o ∨ b ∈ hs

def RSh.cells : RSh → List RC
  | .one c => [c]
  | .agg cs => cs
def RSh.mk : RSh → List Value → Value
  | .one _, vs => vs.headD undef
  | .agg _, vs => .agg vs.toArray
def RSh.ds (r : RSh) (d : D) : List D := match r with
  | .one _ => [d]
  | .agg cs => (List.range cs.length).map fun j => d.row.getD j default
def mkRets : List RSh → List Value → List Value
  | [], _ => []
  | r :: rs, vs => r.mk (vs.take r.cells.length) :: mkRets rs (vs.drop r.cells.length)
def mkRet (rets : List RSh) (vs : List Value) : Value := match rets with
  | [r] => r.mk vs
  | rs => .tuple (mkRets rs vs).toArray
def retDs (φ : Nat → D) : Nat → List RSh → List D
  | _, [] => []
  | c, r :: rs => r.ds (φ c) ++ retDs φ (c + 1) rs

/-- A function answers its contract. Its condition: component 1000. -/
def FunR (P : Program) (f : FuncId) (args : List ASh) (rets : List RSh) (φ : Nat → List D → D) : Prop :=
  ∀ (w : World) (M : Nat → Nat → Prop) (vs : List Value) (ds : List D), (∀ b o, M b o → b < w.heap.size) → glob P w → ArgReps w M args vs ds → (φ 1000 ds).asBool = true →
    Calls P f vs.toArray w fun e w' => ∃ us Fs, e = .returned (mkRet rets us) ∧ Below w.heap.size w w' ∧
      RetCs w' (MeH M (retHeads (rets.flatMap RSh.cells) us)) (rets.flatMap RSh.cells) us (retDs (fun c => φ c ds) 0 rets) Fs ∧
      Fs.flatten.Nodup ∧ ∀ b, b ∈ Fs.flatten → w.heap.size ≤ b ∧ b < w'.heap.size

/-- What an operation does to what comes after it. -/
def Does (C : Cx) (a : Act) (w : World) (o : Oper) (u : AV) (σ' : St) : Prop :=
  ∀ (next : Act → World → Prop) (Q : Exit → Act → World → Prop), (∀ v w' g', RepAV (sur C g' σ' w') u v → Rel C g' σ' a w' → next (a.put o.dst v) w') → o.wp C.P a w next Q

theorem Did.does {C : Cx} {a : Act} {w : World} {o : Oper} {u : AV} {σ' : St} (h : Did C a w o u σ') : Does C a w o u σ' := fun next Q hn => by
  obtain ⟨nx, w', g', h1, h2, h3⟩ := h
  unfold Oper.wp
  rw [h1]
  rcases h2 with ⟨v, rfl, h2⟩ | ⟨rfl, rfl⟩
  · exact hn v w' g' h2 h3
  · exact hn undef w' g' trivial h3

theorem does_call {C : Cx} {g : Gh} {σ : St} {a : Act} {w : World} {o : Oper} (R : Rel C g σ a w) {f : FuncId} {c : Call} {fn : Func} (hfn : C.P.funcs[f]? = some fn) (hb : fn.body ≠ none)
    (hname : fn.name ≠ "runtime.NumGoroutine") (ho : o.op = .call c) (hc : c.callee = .value (.func f)) {u : AV} {σ' : St}
    (h : Calls C.P f (c.args.map a.eval) w fun e w' => ∃ v g', e = .returned v ∧ RepAV (sur C g' σ' w') u v ∧ Rel C g' σ' a w') : Does C a w o u σ' := fun next Q hn => by
  unfold Oper.wp
  have he : (execOp a.eval o).run C.P w = .ok (.enter f (c.args.map a.eval)) w := by
    simp [execOp, ho, resolve, hc, Act.eval, Deferred.ofValue, invoke, callFunc, hfn, hb, hname]
  rw [he, Oper.upon_enter]
  refine h.mono fun e w' ⟨v, g', he, h1, h2⟩ => ?_
  subst he
  exact hn v w' g' h1 h2

/-- Facts that every datum of a kind has. -/
def WFD : K → D → Prop
  | .int k, d => inR k d.asInt
  | .bool, _ => True
  | .str, d => d.asStr.size ≤ lenMax
  | .sl _ _, d => d.asList.length ≤ lenMax

theorem RepC.wf {w : World} {M : Nat → Nat → Prop} {k : K} {v : Value} {d : D} (h : RepC w M k v d) : WFD k d := by
  cases k with
  | int k => exact h.2
  | bool => trivial
  | str => exact h.2
  | sl e ks => obtain ⟨_, _, _, _, h, _⟩ := h; exact h

/-! Functions that write what they are handed. -/

/-- What an argument is: data; cells, some of which are arrays that the function may write, as nobody else looks into them. -/
inductive XSh where
  | im (s : ASh)
  | one (c : RC)
  | agg (cs : List RC)
  deriving Inhabited
def XReps (w : World) (M : Nat → Nat → Prop) : List XSh → List Value → List D → List (List Nat) → Prop
  | [], vs, ds, Fs => vs = [] ∧ ds = [] ∧ Fs = []
  | .im sh :: ss, vs, ds, Fs => ∃ v vs' d ds', vs = v :: vs' ∧ ds = d :: ds' ∧ ArgRep w M sh v d ∧ XReps w M ss vs' ds' Fs
  | .one c :: ss, vs, ds, Fs => ∃ v vs' d ds' F Fs', vs = v :: vs' ∧ ds = d :: ds' ∧ Fs = F ++ Fs' ∧ RetCs w M [c] [v] [d] F ∧ XReps w M ss vs' ds' Fs'
  | .agg cs :: ss, vs, ds, Fs => ∃ us vs' d ds' F Fs', vs = .agg (List.toArray us) :: vs' ∧ ds = d :: ds' ∧ Fs = F ++ Fs' ∧ RetCs w M cs us d.row F ∧ XReps w M ss vs' ds' Fs'
/-- The arrays among cells. -/
def ioCs : List RC → List Value → List (TypeId × List K × Value)
  | .own t ks _ :: cs, v :: vs => (t, ks, v) :: ioCs cs vs
  | .im _ :: cs, _ :: vs => ioCs cs vs
  | _, _ => []
def ioOf : List XSh → List Value → List (TypeId × List K × Value)
  | .im _ :: ss, _ :: vs => ioOf ss vs
  | .one c :: ss, v :: vs => ioCs [c] [v] ++ ioOf ss vs
  | .agg cs :: ss, .agg us :: vs => ioCs cs us.toList ++ ioOf ss vs
  | _, _ => []
/-- The arrays afterwards. -/
def OwnOuts (w w' : World) : Nat → List (TypeId × List K × Value) → (Nat → D) → List (List Nat) → Prop
  | _, [], _, Gs => Gs = []
  | n, (t, ks, v) :: l, φ, Gs => ∃ G Gs', Gs = G :: Gs' ∧ RepD w' (.sl t ks) v (.sl (φ n).asList) G ∧ (∀ i j u, LodAt w ks v i j u → LodAt w' ks v i j u) ∧ OwnOuts w w' (n + 1) l φ Gs'

/-- All own cells are deep. -/
def XSh.deep : XSh → Bool
  | .im _ => true
  | .one c => match c with | .own _ _ dp => dp | _ => true
  | .agg cs => cs.all fun c => match c with | .own _ _ dp => dp | _ => true

/-- A function that writes some of its arguments answers its contract. What becomes of these: components 2000, 2001, .. -/
def FunX (P : Program) (f : FuncId) (args : List XSh) (rets : List RSh) (φ : Nat → List D → D) : Prop :=
  ∀ (w : World) (M : Nat → Nat → Prop) (vs : List Value) (ds : List D) (Fs : List (List Nat)), (∀ b o, M b o → b < w.heap.size ∧ b ∉ Fs.flatten) → (∀ w', Fr w Fs.flatten w' → glob P w') → XReps w (fun b o => M b o ∨ b ∈ Fs.flatten) args vs ds Fs →
    Fs.flatten.Nodup → (∀ b, b ∈ Fs.flatten → b < w.heap.size) → (φ 1000 ds).asBool = true →
    Calls P f vs.toArray w fun e w' => ∃ us Gs, e = .returned (mkRet rets us) ∧ Fr w Fs.flatten w' ∧ RetCs w' (fun _ _ => False) (rets.flatMap RSh.cells) us (retDs (fun c => φ c ds) 0 rets) [] ∧
      OwnOuts w w' 0 (ioOf args vs) (fun n => φ (2000 + n) ds) Gs ∧ Gs.flatten.Nodup ∧ ∀ b, b ∈ Gs.flatten → (w.heap.size ≤ b ∨ b ∈ Fs.flatten) ∧ b < w'.heap.size
end Go.Vx

/-
  Vx, part 21: the arguments of a call.
-/
namespace Go.Vx
open Go.RowKit (Below)

/-- A cell as an argument's datum; whether it is an array that may yet be written. -/
def sargC (s : SSt) (k : K) (c : SC) : Option (E × Bool) := match c with
  | .dat k' e => bif K.eqb k' k then some (e, false) else none
  | .nil t ks => bif K.eqb (.sl t ks) k then some (.nl, false) else none
  | .ref z p => match s.obj z with
    | some (.arr t ks _ xs) => bif K.eqb (.sl t ks) k then some (scut xs p, true) else none
    | some (.sealed t ks xs) => bif K.eqb (.sl t ks) k then some (scut xs p, false) else none
    | some (.arx t ks xs) => bif K.eqb (.sl t ks) k && p.isNone then some (.op .asl [xs], true) else none
    | _ => none
  | .dead => none
def sargCs (s : SSt) : List K → List SC → Option (List E × Bool)
  | [], [] => some ([], false)
  | k :: ks, c :: cs => match sargC s k c, sargCs s ks cs with
    | some (e, b), some (es, b') => some (e :: es, b || b')
    | _, _ => none
  | _, _ => none
/-- All cells of one row, in order: that row. -/
def isFlds (e : E) : Nat → List E → Bool
  | _, [] => true
  | j, .op (.fld i) [e'] :: es => i == j && (E.eqb e e' && isFlds e (j + 1) es)
  | _, _ => false
def etaE (es : List E) : E := match es with
  | .op (.fld 0) [e] :: _ => bif isFlds e 0 es then e else .op .mk es
  | _ => .op .mk es
def sarg (T : TypeId → TI) (s : SSt) (ty : TypeId) (x : Operand) : ASh → Option (E × Bool)
  | .one k => match sev T ty s x with
    | .one c => sargC s k c
    | _ => none
  | .agg ks => match sev T ty s x with
    | .agg cs => match sargCs s ks cs with
      | some (es, b) => some (etaE es, b)
      | none => none
    | _ => none
def sargs (T : TypeId → TI) (s : SSt) : List ASh → List TypeId → List Operand → Option (List E × Bool)
  | [], [], [] => some ([], false)
  | h :: hs, t :: ts, x :: xs => match sarg T s t x h, sargs T s hs ts xs with
    | some (e, b), some (es, b') => some (e :: es, b || b')
    | _, _ => none
  | _, _, _ => none

/-- What the called function may not rely on: the cells that may be written; or, if it is handed such cells, none. -/
def calleeM (live : Bool) (me : Nat → Nat → Prop) (b o : Nat) : Prop := live = false ∧ me b o

theorem calleeM_or {l l' : Bool} {me : Nat → Nat → Prop} {b o : Nat} (h : calleeM (l || l') me b o) : calleeM l me b o ∧ calleeM l' me b o := by
  obtain ⟨h1, h2⟩ := h
  simp only [Bool.or_eq_false_iff] at h1
  exact ⟨⟨h1.1, h2⟩, ⟨h1.2, h2⟩⟩

theorem ArgRep.mono {w : World} {M M' : Nat → Nat → Prop} (h : ∀ b o, M' b o → M b o) {sh : ASh} {v : Value} {d : D} (hr : ArgRep w M sh v d) : ArgRep w M' sh v d := by
  cases sh with
  | one k => exact RepC.mono h hr
  | agg ks => obtain ⟨vs, e, hr⟩ := hr; exact ⟨vs, e, hr.mono h⟩
theorem ArgReps.mono {w : World} {M M' : Nat → Nat → Prop} (h : ∀ b o, M' b o → M b o) : ∀ {ss : List ASh} {vs : List Value} {ds : List D}, ArgReps w M ss vs ds → ArgReps w M' ss vs ds
  | [], _, _, hr => hr
  | _ :: _, _, _, ⟨v, vs', d, ds', e1, e2, h1, h2⟩ => ⟨v, vs', d, ds', e1, e2, h1.mono h, ArgReps.mono h h2⟩

section
variable {Φ : Fns} {env : List D} {C : Cx} {g : Gh} {s : SSt} {a : Act} {w : World} {o : Oper}

theorem sargC_rep (R : Rel C g (s.den Φ env) a w) {k : K} {c : SC} {v : Value} (hv : RepAC (sur C g (s.den Φ env) w) (c.den Φ env) v) {e : E} {b : Bool} (h : sargC s k c = some (e, b)) :
    RepC w (calleeM b (Me C.M (s.den Φ env).obj g.hd g.fp)) k v (e.den Φ env) := by
  have weak : ∀ (b : Bool) (c o : Nat), calleeM b (Me C.M (s.den Φ env).obj g.hd g.fp) c o → Me C.M (s.den Φ env).obj g.hd g.fp c o := fun _ _ _ h => h.2
  cases c with
  | dat k' e' =>
    obtain ⟨h1, h2⟩ := bif_some h
    have h3 := K.eqb_eq h1
    subst h3
    simp only [Option.some.injEq, Prod.mk.injEq] at h2
    obtain ⟨rfl, rfl⟩ := h2
    exact RepC.mono (weak _) hv
  | nil t ks =>
    obtain ⟨h1, h2⟩ := bif_some h
    have h3 := K.eqb_eq h1
    subst h3
    simp only [Option.some.injEq, Prod.mk.injEq] at h2
    obtain ⟨rfl, rfl⟩ := h2
    have := RepAC.dn hv
    exact RepC.mono (weak _) this
  | ref z p =>
    simp only [sargC] at h
    have hr : RefRep (sur C g (s.den Φ env) w) z (denP Φ env p) v := hv
    split at h
    · rename_i t ks dp xs hz
      obtain ⟨h1, h2⟩ := bif_some h
      have h3 := K.eqb_eq h1
      subst h3
      simp only [Option.some.injEq, Prod.mk.injEq] at h2
      obtain ⟨rfl, rfl⟩ := h2
      rw [scut_den]
      exact R.sealRep (obj_is hz) hr _ (fun _ _ _ hc hn => ⟨hc, fun hm => by cases hm.1⟩) (fun _ _ _ hm => by cases hm.1)
    · rename_i t ks xs hz
      obtain ⟨h1, h2⟩ := bif_some h
      have h3 := K.eqb_eq h1
      subst h3
      simp only [Option.some.injEq, Prod.mk.injEq] at h2
      obtain ⟨rfl, rfl⟩ := h2
      rw [scut_den]
      unfold RefRep at hr
      have ho : (sur C g (s.den Φ env) w).obj z = _ := obj_is (Φ := Φ) (env := env) hz
      rw [ho] at hr
      exact RepC.mono (weak _) hr.2
    · rename_i t ks xs hz
      obtain ⟨h1, h2⟩ := bif_some h
      simp only [Bool.and_eq_true] at h1
      have h3 := K.eqb_eq h1.1
      subst h3
      have hp : p = none := by simpa using h1.2
      subst hp
      simp only [Option.some.injEq, Prod.mk.injEq] at h2
      obtain ⟨rfl, rfl⟩ := h2
      have ho : (sur C g (s.den Φ env) w).obj z = _ := obj_is (Φ := Φ) (env := env) hz
      unfold RefRep at hr
      rw [ho] at hr
      have hv : v = g.hd z := hr
      subst hv
      exact (R.arxRep (obj_is hz)).toC fun _ _ _ hm => by cases hm.1
    · cases h
  | dead => simp [sargC] at h

theorem sargCs_rep (R : Rel C g (s.den Φ env) a w) : ∀ {ks : List K} {cs : List SC} {vs : List Value} {es : List E} {b : Bool}, RepACs (sur C g (s.den Φ env) w) (cs.map (SC.den Φ env)) vs → sargCs s ks cs = some (es, b) →
    RepCs w (calleeM b (Me C.M (s.den Φ env).obj g.hd g.fp)) ks vs (es.map (E.den Φ env))
  | [], [], vs, es, b, hv, h => by simp only [sargCs, Option.some.injEq, Prod.mk.injEq] at h; obtain ⟨rfl, rfl⟩ := h; exact hv
  | [], _ :: _, _, _, _, _, h => by simp [sargCs] at h
  | _ :: _, [], _, _, _, _, h => by simp [sargCs] at h
  | k :: ks, c :: cs, vs, es, b, hv, h => by
    obtain ⟨v, vs', rfl, _, hc, hr⟩ := hv
    simp only [sargCs] at h
    split at h
    · rename_i e b1 es1 b2 h1 h2
      simp only [Option.some.injEq, Prod.mk.injEq] at h
      obtain ⟨rfl, rfl⟩ := h
      exact ⟨v, vs', rfl, RepC.mono (fun _ _ hm => (calleeM_or hm).1) (sargC_rep R hc h1), RepCs.mono (fun _ _ hm => (calleeM_or hm).2) (sargCs_rep R hr h2)⟩
    · cases h

theorem RepCs.ext {w : World} {M : Nat → Nat → Prop} : ∀ {ks : List K} {vs : List Value} {ds ds' : List D}, RepCs w M ks vs ds → (∀ j, j < ks.length → ds.getD j default = ds'.getD j default) → RepCs w M ks vs ds'
  | [], _, _, _, h, _ => h
  | k :: ks, vs, ds, ds', h, he => by
    obtain ⟨v, vs', e, hc, hr⟩ := h
    have h0 : ds.headD default = ds'.headD default := by
      have := he 0 (by simp)
      simp only [List.headD_eq_head?_getD, List.getD_eq_getElem?_getD, List.head?_eq_getElem?] at this ⊢
      exact this
    refine ⟨v, vs', e, by rw [← h0]; exact hc, hr.ext fun j hj => ?_⟩
    have := he (j + 1) (by simpa using hj)
    simp only [List.getD_eq_getElem?_getD, List.getElem?_tail] at this ⊢
    exact this

theorem sargCs_len : ∀ {ks : List K} {cs : List SC} {es : List E} {b : Bool}, sargCs s ks cs = some (es, b) → es.length = ks.length
  | [], [], es, b, h => by simp only [sargCs, Option.some.injEq, Prod.mk.injEq] at h; obtain ⟨rfl, rfl⟩ := h; rfl
  | [], _ :: _, _, _, h => by simp [sargCs] at h
  | _ :: _, [], _, _, h => by simp [sargCs] at h
  | k :: ks, c :: cs, es, b, h => by
    simp only [sargCs] at h
    split at h
    · rename_i e b1 es1 b2 h1 h2
      simp only [Option.some.injEq, Prod.mk.injEq] at h
      obtain ⟨rfl, rfl⟩ := h
      simp [sargCs_len h2]
    · cases h

theorem isFlds_get {e : E} : ∀ {es : List E} {j : Nat}, isFlds e j es = true → ∀ i, i < es.length → (es.map (E.den Φ env)).getD i default = (e.den Φ env).row.getD (j + i) default
  | [], _, _, i, hi => by simp at hi
  | x :: es, j, h, i, hi => by
    unfold isFlds at h
    split at h
    · rename_i heq; cases heq
    · rename_i j' i' e' es' heq
      simp only [List.cons.injEq] at heq
      obtain ⟨rfl, rfl⟩ := heq
      simp only [Bool.and_eq_true, beq_iff_eq] at h
      obtain ⟨rfl, h2, h3⟩ := h
      have h4 := E.eqb_eq h2
      subst h4
      cases i with
      | zero => simp [E.den, E.dens, opD]
      | succ i =>
        have := isFlds_get h3 i (by simpa using hi)
        simp only [List.map_cons, List.getD_cons_succ]
        rw [this]
        congr 1
        omega
    · cases h

theorem etaE_get (es : List E) (i : Nat) (hi : i < es.length) : (es.map (E.den Φ env)).getD i default = ((etaE es).den Φ env).row.getD i default := by
  unfold etaE
  split
  · rename_i e es'
    cases hf : isFlds e 0 (.op (.fld 0) [e] :: es') with
    | true =>
      simp only [cond_true]
      have := isFlds_get (Φ := Φ) (env := env) hf i hi
      rwa [Nat.zero_add] at this
    | false => simp [E.den, E.dens_map, opD, D.row, D.asList]
  · simp [E.den, E.dens_map, opD, D.row, D.asList]

theorem sarg_rep (R : Rel C g (s.den Φ env) a w) {ty : TypeId} {x : Operand} {sh : ASh} {e : E} {b : Bool} (h : sarg C.T s ty x sh = some (e, b)) :
    ArgRep w (calleeM b (Me C.M (s.den Φ env).obj g.hd g.fp)) sh (a.eval x) (e.den Φ env) := by
  have hr := ev_rep R ty x
  cases sh with
  | one k =>
    simp only [sarg] at h
    split at h
    · rename_i c hx
      rw [sev_is hx] at hr
      exact sargC_rep R hr.1 h
    · cases h
  | agg ks =>
    simp only [sarg] at h
    split at h
    · rename_i cs hx
      rw [sev_is hx] at hr
      obtain ⟨vs, e1, hr⟩ := hr
      split at h
      · rename_i es b1 h1
        simp only [Option.some.injEq, Prod.mk.injEq] at h
        obtain ⟨rfl, rfl⟩ := h
        refine ⟨vs, e1, ?_⟩
        have := sargCs_rep R hr h1
        exact this.ext fun j hj => etaE_get es j (by rw [sargCs_len h1]; exact hj)
      · cases h
    · cases h

theorem sargs_rep (R : Rel C g (s.den Φ env) a w) : ∀ {hs : List ASh} {ts : List TypeId} {xs : List Operand} {es : List E} {b : Bool}, sargs C.T s hs ts xs = some (es, b) →
    ArgReps w (calleeM b (Me C.M (s.den Φ env).obj g.hd g.fp)) hs (xs.map a.eval) (es.map (E.den Φ env))
  | [], [], [], es, b, h => by simp only [sargs, Option.some.injEq, Prod.mk.injEq] at h; obtain ⟨rfl, rfl⟩ := h; exact ⟨rfl, rfl⟩
  | h :: hs, t :: ts, x :: xs, es, b, hh => by
    simp only [sargs] at hh
    split at hh
    · rename_i e b1 es1 b2 h1 h2
      simp only [Option.some.injEq, Prod.mk.injEq] at hh
      obtain ⟨rfl, rfl⟩ := hh
      exact ⟨_, _, _, _, rfl, rfl, ArgRep.mono (fun _ _ hm => (calleeM_or hm).1) (sarg_rep R h1), ArgReps.mono (fun _ _ hm => (calleeM_or hm).2) (sargs_rep R h2)⟩
    · cases hh
  | [], [], _ :: _, _, _, h => by simp [sargs] at h
  | [], _ :: _, _, _, _, h => by simp [sargs] at h
  | _ :: _, [], _, _, _, h => by simp [sargs] at h
  | _ :: _, _ :: _, [], _, _, h => by simp [sargs] at h
end

end Go.Vx

/-
  Vx, part 22: the results of a call; the call.
-/
namespace Go.Vx
open Go.RowKit (Below)

def scells : Nat → List RC → List E → List SC
  | key, .im k :: cs, e :: es => .dat k e :: scells (key + 1) cs es
  | key, .own _ _ _ :: cs, _ :: es => .ref key none :: scells (key + 1) cs es
  | _, _, _ => []
/-- A new array; one that nobody else looks into. -/
def mkO (ex : Bool) (t : TypeId) (ks : List K) (dp : Bool) (e : E) : SOb := bif ex && dp then .arx t ks e else .arr t ks dp e
def mkOb (ex : Bool) (t : TypeId) (ks : List K) (dp : Bool) (xs : List (List D)) : Ob := bif ex && dp then .arx t ks xs else .arr t ks dp xs
def supds (ex : Bool) : Nat → List RC → List E → List (Nat × SOb)
  | key, .im _ :: cs, _ :: es => supds ex (key + 1) cs es
  | key, .own t ks dp :: cs, e :: es => (key, mkO ex t ks dp e) :: supds ex (key + 1) cs es
  | _, _, _ => []
def newN (ex : Bool) : Nat → List RC → List Value → List D → List (List Nat) → New
  | key, .im _ :: cs, _ :: vs, ds, Fs, x => newN ex (key + 1) cs vs ds.tail Fs x
  | key, .own t ks dp :: cs, v :: vs, ds, F :: Fs, x => if x = key then some (mkOb ex t ks dp (ds.headD default).asList, v, F) else newN ex (key + 1) cs vs ds.tail Fs x
  | _, _, _, _, _, _ => none
theorem mkO_den (ex : Bool) (t : TypeId) (ks : List K) (dp : Bool) (e : E) {Φ : Fns} {env : List D} : (mkO ex t ks dp e).den Φ env = mkOb ex t ks dp (e.den Φ env).asList := by
  unfold mkO mkOb
  cases ex && dp <;> rfl

theorem newN_spec {ex : Bool} {w : World} {M : Nat → Nat → Prop} : ∀ (cs : List RC) {key : Nat} {vs : List Value} {ds : List D} {Fs : List (List Nat)}, RetCs w M cs vs ds Fs → ∀ {x : Nat} {o : Ob} {h : Value} {f : List Nat},
    newN ex key cs vs ds Fs x = some (o, h, f) → key ≤ x ∧ (∃ t ks dp xs, o = mkOb ex t ks dp xs ∧ OwnRep w M t ks dp h xs f) ∧ f ∈ Fs ∧ ∀ b, h.ownBlock = some b → b ∈ retHeads cs vs
  | [], key, vs, ds, Fs, _, x, o, h, f, hn => by simp [newN] at hn
  | .im k :: cs, key, vs, ds, Fs, hr, x, o, h, f, hn => by
    obtain ⟨v, vs', rfl, _, hr⟩ := hr
    simp only [newN] at hn
    obtain ⟨q1, q2, q3, q4⟩ := newN_spec cs hr hn
    exact ⟨by omega, q2, q3, fun b hb => by simpa [retHeads, RC.head] using q4 b hb⟩
  | .own t ks dp :: cs, key, vs, ds, Fs, hr, x, o, h, f, hn => by
    obtain ⟨v, vs', F, Fs', rfl, rfl, ho, hr⟩ := hr
    simp only [newN] at hn
    split at hn
    · rename_i hx
      simp only [Option.some.injEq, Prod.mk.injEq] at hn
      obtain ⟨rfl, rfl, rfl⟩ := hn
      exact ⟨by omega, ⟨t, ks, dp, _, rfl, ho⟩, by simp, fun b hb => by simp [retHeads, RC.head, hb]⟩
    · obtain ⟨q1, q2, q3, q4⟩ := newN_spec cs hr hn
      exact ⟨by omega, q2, by simp [q3], fun b hb => by simp only [retHeads, List.mem_append]; exact .inr (q4 b hb)⟩

theorem newN_apart {ex : Bool} {w : World} {M : Nat → Nat → Prop} : ∀ (cs : List RC) {key : Nat} {vs : List Value} {ds : List D} {Fs : List (List Nat)}, RetCs w M cs vs ds Fs → Fs.flatten.Nodup → ∀ {x y : Nat} {o o' : Ob} {h h' : Value} {f f' : List Nat},
    x ≠ y → newN ex key cs vs ds Fs x = some (o, h, f) → newN ex key cs vs ds Fs y = some (o', h', f') → ∀ b, b ∈ f → b ∉ f'
  | [], key, vs, ds, Fs, _, _, x, y, o, o', h, h', f, f', _, hn, _ => by simp [newN] at hn
  | .im k :: cs, key, vs, ds, Fs, hr, hd, x, y, o, o', h, h', f, f', hxy, hn, hn' => by
    obtain ⟨v, vs', rfl, _, hr⟩ := hr
    simp only [newN] at hn hn'
    exact newN_apart cs hr hd hxy hn hn'
  | .own t ks dp :: cs, key, vs, ds, Fs, hr, hd, x, y, o, o', h, h', f, f', hxy, hn, hn' => by
    obtain ⟨v, vs', F, Fs', rfl, rfl, ho, hr⟩ := hr
    rw [List.flatten_cons] at hd
    obtain ⟨d1, d2, d3⟩ := List.nodup_append.1 hd
    simp only [newN] at hn hn'
    split at hn
    · rename_i hx
      simp only [Option.some.injEq, Prod.mk.injEq] at hn
      obtain ⟨rfl, rfl, rfl⟩ := hn
      rw [if_neg (by omega)] at hn'
      have := (newN_spec cs hr hn').2.2.1
      exact fun b hb hb' => d3 b hb b (List.mem_flatten.2 ⟨_, this, hb'⟩) rfl
    · split at hn'
      · simp only [Option.some.injEq, Prod.mk.injEq] at hn'
        obtain ⟨rfl, rfl, rfl⟩ := hn'
        have := (newN_spec cs hr hn).2.2.1
        exact fun b hb hb' => d3 b hb' b (List.mem_flatten.2 ⟨_, this, hb⟩) rfl
      · exact newN_apart cs hr d2 hxy hn hn'

theorem supds_keys {ex : Bool} : ∀ (cs : List RC) (key : Nat) (es : List E) (x : Nat), x < key → ((supds ex key cs es).all fun p => !(p.1 == x)) = true
  | [], _, _, _, _ => by simp [supds]
  | .im k :: cs, key, [], _, _ => by simp [supds]
  | .own t ks dp :: cs, key, [], _, _ => by simp [supds]
  | .im k :: cs, key, e :: es, x, h => by simp only [supds]; exact supds_keys cs (key + 1) es x (by omega)
  | .own t ks dp :: cs, key, e :: es, x, h => by
    simp only [supds, List.all_cons, Bool.and_eq_true, Bool.not_eq_true', beq_eq_false_iff_ne, ne_eq]
    exact ⟨by omega, supds_keys cs (key + 1) es x (by omega)⟩

theorem SSt.upds_tmps : ∀ (l : List (Nat × SOb)) (s : SSt), (s.upds l).tmps = s.tmps
  | [], _ => rfl
  | (x, o) :: l, s => by rw [show s.upds ((x, o) :: l) = (s.setO x o).upds l from rfl, SSt.upds_tmps l]; rfl

section
variable {Φ : Fns} {env : List D}

theorem supds_obj {ex : Bool} {w : World} {M : Nat → Nat → Prop} : ∀ (cs : List RC) {key : Nat} {vs : List Value} {es : List E} {Fs : List (List Nat)} (s : SSt), RetCs w M cs vs (es.map (E.den Φ env)) Fs → es.length = cs.length → ∀ x,
    ((s.upds (supds ex key cs es)).den Φ env).obj x = match newN ex key cs vs (es.map (E.den Φ env)) Fs x with | some (o, _, _) => some o | none => (s.den Φ env).obj x
  | [], key, vs, es, Fs, s, _, _, x => by simp [supds, newN, SSt.upds]
  | .im k :: cs, key, vs, [], Fs, s, _, hl, x => by simp at hl
  | .own t ks dp :: cs, key, vs, [], Fs, s, _, hl, x => by simp at hl
  | .im k :: cs, key, vs, e :: es, Fs, s, hr, hl, x => by
    obtain ⟨v, vs', rfl, _, hr⟩ := hr
    simp only [supds, newN, List.map_cons, List.tail_cons]
    exact supds_obj cs s hr (by simpa using hl) x
  | .own t ks dp :: cs, key, vs, e :: es, Fs, s, hr, hl, x => by
    obtain ⟨v, vs', F, Fs', rfl, rfl, ho, hr⟩ := hr
    simp only [supds, newN, List.map_cons, List.tail_cons, List.headD_cons]
    rw [show s.upds ((key, mkO ex t ks dp e) :: supds ex (key + 1) cs es) = (s.setO key (mkO ex t ks dp e)).upds (supds ex (key + 1) cs es) from rfl]
    by_cases hx : x = key
    · subst hx
      rw [if_pos rfl, upds_obj _ _ _ (supds_keys cs (x + 1) es x (by omega)), SSt.den_setO, St.obj_setO, if_pos rfl, mkO_den]
    · rw [if_neg hx, supds_obj cs _ hr (by simpa using hl) x, SSt.den_setO, St.obj_setO, if_neg hx]

theorem scells_rep {ex : Bool} {w : World} {M : Nat → Nat → Prop} {S : Sur} (hw : S.w = w) (hM : S.me = M) : ∀ (cs : List RC) {key : Nat} {vs : List Value} {es : List E} {Fs : List (List Nat)}, RetCs w M cs vs (es.map (E.den Φ env)) Fs → es.length = cs.length →
    (∀ x o h f, newN ex key cs vs (es.map (E.den Φ env)) Fs x = some (o, h, f) → S.obj x = some o ∧ S.hd x = h) → RepACs S ((scells key cs es).map (SC.den Φ env)) vs
  | [], key, vs, es, Fs, hr, hl, _ => by
    have : es = [] := List.eq_nil_of_length_eq_zero hl
    subst this
    simp only [scells, List.map_nil]
    exact hr.1
  | .im k :: cs, key, vs, [], Fs, _, hl, _ => by simp at hl
  | .own t ks dp :: cs, key, vs, [], Fs, _, hl, _ => by simp at hl
  | .im k :: cs, key, vs, e :: es, Fs, hr, hl, hN => by
    obtain ⟨v, vs', rfl, hc, hr⟩ := hr
    simp only [newN, List.map_cons, List.tail_cons] at hN
    refine ⟨v, vs', rfl, hc.oneCell, ?_, scells_rep hw hM cs hr (by simpa using hl) hN⟩
    show RepC S.w S.me k v _
    rw [hw, hM]
    exact hc
  | .own t ks dp :: cs, key, vs, e :: es, Fs, hr, hl, hN => by
    obtain ⟨v, vs', F, Fs', rfl, rfl, ho, hr⟩ := hr
    simp only [newN, List.map_cons, List.tail_cons, List.headD_cons] at hN
    obtain ⟨h1, h2⟩ := hN key _ _ _ (if_pos rfl)
    refine ⟨v, vs', rfl, ?_, ?_, scells_rep (ex := ex) hw hM cs hr (by simpa using hl) fun x o h f hx => ?_⟩
    · obtain ⟨vss, fps, hown, _⟩ := ho
      rcases ownsRow_cases hown with ⟨e1, _⟩ | ⟨b, c, e1, _⟩ <;> rw [e1] <;> rfl
    · show RefRep S key none v
      unfold RefRep
      rw [h1]
      unfold mkOb
      cases ex && dp with
      | true => exact h2.symm
      | false => exact ⟨trivial, h2.symm⟩
    · refine hN x o h f ?_
      have := (newN_spec cs hr hx).1
      rw [if_neg (by omega)]
      exact hx
end

def RC.solid : RC → Bool
  | .im k => k.plain
  | .own _ ks dp => dp || plainK ks

theorem RepC.plain' {w : World} {M M' : Nat → Nat → Prop} {k : K} {v : Value} {d : D} (h : RepC w M k v d) (hp : k.plain = true) : RepC w M' k v d := by
  cases k with
  | sl _ _ => simp [K.plain] at hp
  | _ => exact h

theorem OwnRep.to {w : World} {M M' : Nat → Nat → Prop} {t : TypeId} {ks : List K} {dp : Bool} {v : Value} {xs : List (List D)} {F : List Nat} (h : OwnRep w M t ks dp v xs F)
    (hm : (∀ b o, M' b o → M b o) ∨ (dp || plainK ks) = true) : OwnRep w M' t ks dp v xs F := by
  obtain ⟨vss, fps, h1, h2, h3, h4, h5, h6⟩ := h
  refine ⟨vss, fps, h1, h2, h3, h4, h5, fun i row vs f e1 e2 e3 => ?_⟩
  have := h6 i row vs f e1 e2 e3
  split at this
  · rename_i hd; rw [if_pos hd]; exact this
  · rename_i hd
    rw [if_neg hd]
    refine ⟨?_, this.2⟩
    rcases hm with hm | hm
    · exact this.1.mono hm
    · simp only [Bool.not_eq_true] at hd
      rw [hd, Bool.false_or] at hm
      exact (this.1.plain hm).toC (fun b hb => by simp at hb)

theorem RetCs.to {w : World} {M M' : Nat → Nat → Prop} : ∀ {cs : List RC} {vs : List Value} {ds : List D} {Fs : List (List Nat)}, RetCs w M cs vs ds Fs → ((∀ b o, M' b o → M b o) ∨ cs.all RC.solid = true) → RetCs w M' cs vs ds Fs
  | [], _, _, _, h, _ => h
  | .im k :: cs, _, _, _, ⟨v, vs', e, hc, hr⟩, hm => ⟨v, vs', e, by
      rcases hm with hm | hm
      · exact hc.mono hm
      · simp only [List.all_cons, Bool.and_eq_true] at hm
        exact hc.plain' hm.1, hr.to (hm.imp id fun h => by simp only [List.all_cons, Bool.and_eq_true] at h; exact h.2)⟩
  | .own t ks dp :: cs, _, _, _, ⟨v, vs', F, Fs', e1, e2, ho, hr⟩, hm => ⟨v, vs', F, Fs', e1, e2, ho.to (hm.imp id fun h => by simp only [List.all_cons, Bool.and_eq_true] at h; exact h.1),
      hr.to (hm.imp id fun h => by simp only [List.all_cons, Bool.and_eq_true] at h; exact h.2)⟩

end Go.Vx

/-
  Vx, part 23: the call.
-/
namespace Go.Vx
open Go.RowKit (Below)

structure Sig where
  args : List ASh
  rets : List RSh
  /-- nobody else is to look into what it makes -/
  ex : Bool := false
  /-- it writes what it is handed -/
  xs : Option (List XSh) := none
  deriving Inhabited

def RSh.smk : RSh → List SC → SV
  | .one _, cs => .one (cs.headD .dead)
  | .agg _, cs => .agg cs
def smkRets : List RSh → List SC → List SV
  | [], _ => []
  | r :: rs, cs => r.smk (cs.take r.cells.length) :: smkRets rs (cs.drop r.cells.length)
def smkRet (rets : List RSh) (cs : List SC) : SV := match rets with
  | [r] => r.smk cs
  | rs => .tup (smkRets rs cs)
def RSh.es (r : RSh) (e : E) : List E := match r with
  | .one _ => [e]
  | .agg cs => (List.range cs.length).map fun j => .op (.fld j) [e]
def sretE (f : Nat) (es : List E) : Nat → List RSh → List E
  | _, [] => []
  | c, r :: rs => r.es (.op (.fn f c) es) ++ sretE f es (c + 1) rs

def fCall (T : TypeId → TI) (CT : Nat → Option Sig) (key : Nat) (s : SSt) (f : Nat) (ts : List TypeId) (xs : List Operand) : Option Res :=
  match CT f with
  | some sg => match sargs T s sg.args ts xs with
    | some (es, live) => bif ((!live && !sg.ex) || (sg.rets.flatMap RSh.cells).all RC.solid) && (supds sg.ex key (sg.rets.flatMap RSh.cells) (sretE f es 0 sg.rets)).all fun p => (s.obj p.1).isNone then
        some ⟨[.op (.fn f 1000) es], smkRet sg.rets (scells key (sg.rets.flatMap RSh.cells) (sretE f es 0 sg.rets)), supds sg.ex key (sg.rets.flatMap RSh.cells) (sretE f es 0 sg.rets)⟩
      else none
    | none => none
  | none => none

theorem scells_length : ∀ (cs : List RC) (key : Nat) (es : List E), es.length = cs.length → (scells key cs es).length = cs.length
  | [], _, [], _ => rfl
  | [], _, _ :: _, h => by simp at h
  | .im _ :: cs, key, [], h => by simp at h
  | .own _ _ _ :: cs, key, [], h => by simp at h
  | .im _ :: cs, key, e :: es, h => by simp [scells, scells_length cs (key + 1) es (by simpa using h)]
  | .own _ _ _ :: cs, key, e :: es, h => by simp [scells, scells_length cs (key + 1) es (by simpa using h)]

theorem sretE_length (f : Nat) (es : List E) : ∀ (rs : List RSh) (c : Nat), (sretE f es c rs).length = (rs.flatMap RSh.cells).length
  | [], _ => rfl
  | r :: rs, c => by
    simp only [sretE, List.length_append, sretE_length f es rs (c + 1), List.flatMap_cons]
    cases r <;> simp [RSh.es, RSh.cells]

section
variable {Φ : Fns} {env : List D}

theorem sretE_den (f : Nat) (es : List E) : ∀ (rs : List RSh) (c : Nat), (sretE f es c rs).map (E.den Φ env) = retDs (fun c => Φ f c (es.map (E.den Φ env))) c rs
  | [], _ => rfl
  | r :: rs, c => by
    simp only [sretE, retDs, List.map_append, sretE_den f es rs (c + 1)]
    congr 1
    cases r <;> simp [RSh.es, RSh.ds, E.den, E.dens, E.dens_map, opD, Function.comp_def]

theorem newN_mem {ex : Bool} : ∀ (cs : List RC) {key : Nat} {vs : List Value} {es : List E} {Fs : List (List Nat)} {x : Nat} {q : Ob × Value × List Nat}, es.length = cs.length → newN ex key cs vs (es.map (E.den Φ env)) Fs x = some q → ∃ o, (x, o) ∈ supds ex key cs es
  | [], _, _, _, _, _, _, _, h => by simp [newN] at h
  | .im _ :: cs, key, vs, [], _, _, _, hl, _ => by simp at hl
  | .own _ _ _ :: cs, key, vs, [], _, _, _, hl, _ => by simp at hl
  | .im _ :: cs, key, [], e :: es, Fs, x, q, hl, h => by simp [newN] at h
  | .im _ :: cs, key, v :: vs, e :: es, Fs, x, q, hl, h => by
    simp only [newN, List.map_cons, List.tail_cons] at h
    simp only [supds]
    exact newN_mem cs (by simpa using hl) h
  | .own _ _ _ :: cs, key, [], e :: es, Fs, x, q, hl, h => by simp [newN] at h
  | .own _ _ _ :: cs, key, v :: vs, e :: es, [], x, q, hl, h => by simp [newN] at h
  | .own _ _ _ :: cs, key, v :: vs, e :: es, F :: Fs, x, q, hl, h => by
    simp only [newN, List.map_cons, List.tail_cons] at h
    simp only [supds, List.mem_cons, Prod.mk.injEq]
    split at h
    · rename_i hx; exact ⟨_, .inl ⟨hx, rfl⟩⟩
    · obtain ⟨o, ho⟩ := newN_mem cs (by simpa using hl) h
      exact ⟨o, .inr ho⟩

theorem RSh.smk_rep {S : Sur} (r : RSh) {cs : List SC} {vs : List Value} (h : RepACs S (cs.map (SC.den Φ env)) vs) (hl : cs.length = r.cells.length) : RepAV S ((r.smk cs).den Φ env) (r.mk vs) := by
  cases r with
  | one c =>
    obtain ⟨c', rfl⟩ := List.length_eq_one_iff.1 (show cs.length = 1 from hl)
    obtain ⟨v, vs', rfl, ho, hc, _⟩ := h
    exact ⟨hc, ho⟩
  | agg rc => exact ⟨vs, rfl, h⟩
theorem smkRets_rep {S : Sur} : ∀ (rs : List RSh) {cs : List SC} {vs : List Value}, RepACs S (cs.map (SC.den Φ env)) vs → cs.length = (rs.flatMap RSh.cells).length → RepAVs S ((smkRets rs cs).map (SV.den Φ env)) (mkRets rs vs)
  | [], _, _, _, _ => rfl
  | r :: rs, cs, vs, h, hl => by
    simp only [List.flatMap_cons, List.length_append] at hl
    refine ⟨_, _, rfl, RSh.smk_rep r (by rw [List.map_take]; exact RepACs.take _ h) (by rw [List.length_take]; omega), smkRets_rep rs (by rw [List.map_drop]; exact RepACs.drop _ h) (by rw [List.length_drop]; omega)⟩
theorem smkRet_rep {S : Sur} (rs : List RSh) {cs : List SC} {vs : List Value} (h : RepACs S (cs.map (SC.den Φ env)) vs) (hl : cs.length = (rs.flatMap RSh.cells).length) : RepAV S ((smkRet rs cs).den Φ env) (mkRet rs vs) := by
  rcases rs with _ | ⟨r, _ | ⟨r2, rs⟩⟩
  · exact ⟨_, rfl, by rw [SV.dens_map]; exact smkRets_rep [] h hl⟩
  · exact RSh.smk_rep r h (by simpa using hl)
  · exact ⟨_, rfl, by rw [SV.dens_map]; exact smkRets_rep (r :: r2 :: rs) h hl⟩
end

section
variable {Φ : Fns} {env : List D} {C : Cx} {g : Gh} {s : SSt} {a : Act} {w : World} {o : Oper} {key : Nat}

theorem good_call (R : Rel C g (s.den Φ env) a w) {CT : Nat → Option Sig} {f : FuncId} (hCT : ∀ sg, CT f = some sg → FunR C.P f sg.args sg.rets (Φ f) ∧ ∃ fn, C.P.funcs[f]? = some fn ∧ fn.body ≠ none ∧ fn.name ≠ "runtime.NumGoroutine")
    {c : Call} (ho : o.op = .call c) (hc : c.callee = .value (.func f)) {r : Res} (h : fCall C.T CT key s f c.argTypes.toList c.args.toList = some r) (hr : holds Φ env r.cs) :
    Does C a w o (r.v.den Φ env) ((s.upds r.upd).den Φ env) := by
  unfold fCall at h
  split at h
  · rename_i sg hsg
    split at h
    · rename_i es live hes
      obtain ⟨h1, h2⟩ := bif_some h
      clear h
      simp only [Option.some.injEq] at h2
      subst h2
      simp only [Bool.and_eq_true, Bool.or_eq_true, Bool.not_eq_true'] at h1
      obtain ⟨hlive, hfree⟩ := h1

      obtain ⟨hF, fn, hfn, hb, hname⟩ := hCT sg hsg
      generalize hcells : sg.rets.flatMap RSh.cells = cells at *
      have hel : (sretE f es 0 sg.rets).length = cells.length := by rw [sretE_length, hcells]
      have hden := sretE_den (Φ := Φ) (env := env) f es sg.rets 0
      generalize sretE f es 0 sg.rets = rE at *
      have hpre := hr (.op (.fn f 1000) es) (by simp)
      simp only [E.den, E.dens_map, opD] at hpre
      have hMe : ∀ b o, Me C.M (s.den Φ env).obj g.hd g.fp b o → b < w.heap.size := by
        rintro b o (hM | ⟨x, hl, hx⟩ | ⟨x, hl, hx⟩)
        · exact Nat.lt_of_lt_of_le (C.mold b o hM).1 R.fr.size
        · exact (R.alw x b (R.liveBlk hl hx)).2
        · exact (R.alw x b hx).2
      have hcall := hF w (calleeM live (Me C.M (s.den Φ env).obj g.hd g.fp)) _ _ (fun b o hm => hMe b o hm.2) (C.gl w R.fr) (sargs_rep R hes) hpre
      refine does_call R hfn hb hname ho hc ?_
      have harr : (c.args.toList.map a.eval).toArray = c.args.map a.eval := by apply Array.ext'; simp
      rw [harr] at hcall
      refine hcall.mono fun e w' ⟨us, Fs, he, hbel, hret, hnd, hfresh⟩ => ?_
      rw [hcells, ← hden] at hret
      have hNfree : ∀ x q, newN sg.ex key cells us (rE.map (E.den Φ env)) Fs x = some q → (s.den Φ env).obj x = none := fun x q hq => by
        obtain ⟨ob, hm⟩ := newN_mem cells hel hq
        have := List.all_eq_true.1 hfree (x, ob) hm
        exact none_den (by simpa using this)
      have hσ := supds_obj (ex := sg.ex) (Φ := Φ) (env := env) cells (key := key) s hret hel
      have hown : ∀ x ob h f, newN sg.ex key cells us (rE.map (E.den Φ env)) Fs x = some (ob, h, f) → blkOf h = h.ownBlock ∧ ∀ b, h.ownBlock = some b → b ∈ f := fun x ob h f hq => by
        obtain ⟨_, ⟨t, ks, dp, xs, _, ho⟩, _, _⟩ := newN_spec cells hret hq
        obtain ⟨vss, fps, h1, _, _, _, h5, _⟩ := ho
        exact ⟨blk_own h1, fun b hb => by rw [h5, hb]; simp⟩
      -- what may be written afterwards
      have hsub : sg.ex = false → ∀ b o, Me C.M ((s.upds (supds sg.ex key cells rE)).den Φ env).obj (g.many (newN sg.ex key cells us (rE.map (E.den Φ env)) Fs)).hd (g.many (newN sg.ex key cells us (rE.map (E.den Φ env)) Fs)).fp b o → MeH (Me C.M (s.den Φ env).obj g.hd g.fp) (retHeads cells us) b o := by
        rintro hex b o (hM | ⟨x, hl, hx⟩ | ⟨x, hl, hx⟩)
        · exact .inl (.inl hM)
        · cases hq : newN sg.ex key cells us (rE.map (E.den Φ env)) Fs x with
          | none =>
            rw [hσ, hq] at hl
            simp only [Gh.many, hq] at hx
            exact .inl (.inr (.inl ⟨x, hl, hx⟩))
          | some q =>
            obtain ⟨ob, h, f⟩ := q
            simp only [Gh.many, hq] at hx
            rw [(hown x ob h f hq).1] at hx
            exact .inr ((newN_spec cells hret hq).2.2.2 b hx)
        · cases hq : newN sg.ex key cells us (rE.map (E.den Φ env)) Fs x with
          | none =>
            rw [hσ, hq] at hl
            simp only [Gh.many, hq] at hx
            exact .inl (.inr (.inr ⟨x, hl, hx⟩))
          | some q =>
            obtain ⟨ob, h, f⟩ := q
            rw [hσ, hq] at hl
            obtain ⟨_, ⟨t, ks, dp, xs, rfl, _⟩, _, _⟩ := newN_spec cells hret hq
            simp only [mkOb, hex, Bool.false_and, cond_false] at hl
            simp [Ob.isX] at hl
      have hret' : RetCs w' (Me C.M ((s.upds (supds sg.ex key cells rE)).den Φ env).obj (g.many (newN sg.ex key cells us (rE.map (E.den Φ env)) Fs)).hd (g.many (newN sg.ex key cells us (rE.map (E.den Φ env)) Fs)).fp) cells us (rE.map (E.den Φ env)) Fs := by
        refine hret.to ?_
        rcases hlive with hl | hl
        · left
          intro b o hm
          rcases hsub hl.2 b o hm with q | q
          · exact .inl ⟨hl.1, q⟩
          · exact .inr q
        · exact .inr hl
      have hN : Rel C (g.many (newN sg.ex key cells us (rE.map (E.den Φ env)) Fs)) ((s.upds (supds sg.ex key cells rE)).den Φ env) a w' := by
        refine R.many hbel (by simp [SSt.den, SSt.upds_tmps]) hNfree hσ (fun x ob h f hq b hb => ?_) (fun x ob h f hq => ?_) (fun x y ob h f ob' h' f' hxy hq hq' => newN_apart cells hret hnd hxy hq hq') (fun x q hq => ?_)
        · obtain ⟨e1, e2⟩ := hown x ob h f hq
          rw [e1] at hb
          exact (hfresh b (List.mem_flatten.2 ⟨f, (newN_spec cells hret hq).2.2.1, e2 b hb⟩)).1
        · have hm := (newN_spec cells hret hq).2.2.1
          exact ⟨(List.pairwise_flatten.1 hnd).1 _ hm, fun b hb => hfresh b (List.mem_flatten.2 ⟨f, hm, hb⟩)⟩
        · obtain ⟨ob, h, f⟩ := q
          obtain ⟨_, ⟨t, ks, dp, xs, rfl, hO⟩, _, _⟩ := newN_spec cells hret' hq
          unfold RepOb
          simp only [sur, hσ, hq]
          obtain ⟨vss, fps, h1, h2, h3, h4, h5, h6⟩ := hO
          unfold mkOb
          cases hed : sg.ex && dp with
          | true =>
            have hdp : dp = true := by simp only [Bool.and_eq_true] at hed; exact hed.2
            subst hdp
            refine ⟨vss, fps, ?_, h2, h3, h4, ?_, fun i row vs f e1 e2 e3 => by have := h6 i row vs f e1 e2 e3; rwa [if_pos rfl] at this⟩
            · simp only [Gh.many, hq]; exact h1
            · simp only [Gh.many, hq]; exact h5
          | false =>
            refine ⟨vss, fps, ?_, h2, h3, h4, ?_, h6⟩
            · simp only [Gh.many, hq]; exact h1
            · simp only [Gh.many, hq]; exact h5
      refine ⟨_, _, he, ?_, hN⟩
      refine smkRet_rep sg.rets (scells_rep (ex := sg.ex) rfl rfl cells hret' hel fun x ob h f hq => ⟨?_, ?_⟩) (by rw [scells_length _ _ _ hel, hcells])
      · show ((s.upds (supds sg.ex key cells rE)).den Φ env).obj x = _
        rw [hσ, hq]
      · show (g.many _).hd x = h
        simp only [Gh.many, hq]
    · cases h
  · cases h
end

/-! Calls of functions that write what they are handed. -/
section
variable {C : Cx} {g : Gh} {σ : St} {a : Act} {w : World}

theorem Fr.trans {w0 w w' : World} {X F : List Nat} (h : Fr w0 X w) (h' : Fr w F w') (hF : ∀ b, b ∈ F → w0.heap.size ≤ b ∨ b ∈ X) : Fr w0 X w' :=
  ⟨h'.os.trans h.os, h'.tape.trans h.tape, h'.output.trans h.output, Nat.le_trans h.size h'.size, fun k hk hx => by
    have : k ∉ F := fun hf => by
      rcases hF k hf with q | q
      · omega
      · exact hx q
    rw [h'.block k (Nat.lt_of_lt_of_le hk h.size) this]
    exact h.block k hk hx⟩

/-- Some arrays that nobody else looks into are turned. -/
theorem Rel.poke (R : Rel C g σ a w) {σ' : St} {g' : Gh} {w' : World} {F : List Nat} (hfr : Fr w F w') (ht : σ'.tmps = σ.tmps) (hhd : ∀ x, g'.hd x = g.hd x)
    (hF : ∀ b, b ∈ F → ∃ x, Ob.isX (σ.obj x) = true ∧ b ∈ g.fp x)
    (hob : ∀ x, (σ'.obj x = σ.obj x ∧ g'.fp x = g.fp x ∧ ∀ b, b ∈ g.fp x → b ∉ F) ∨
      ∃ t ks xs xs', σ.obj x = some (.arx t ks xs) ∧ σ'.obj x = some (.arx t ks xs') ∧ RepD w' (.sl t ks) (g.hd x) (.sl xs') (g'.fp x) ∧ (g'.fp x).Nodup ∧
        (∀ b, b ∈ g'.fp x → (b ∈ g.fp x ∨ b ∈ F ∨ w.heap.size ≤ b) ∧ b < w'.heap.size) ∧ ∀ i j u, LodAt w ks (g.hd x) i j u → LodAt w' ks (g.hd x) i j u)
    (hap : ∀ x y, x ≠ y → ∀ b, b ∈ g'.fp x → b ∉ g'.fp y) : Rel C g' σ' a w' := by
  have hcell : ∀ b o, b < w.heap.size → b ∉ F → w'.cell? ⟨b, o, none⟩ = w.cell? ⟨b, o, none⟩ := fun b o hb hn => World.cell?_of_block (w := w) (a := ⟨b, o, none⟩) (hfr.block b hb hn)
  have hlive : ∀ x, Ob.live (σ'.obj x) = true → Ob.live (σ.obj x) = true ∧ σ'.obj x = σ.obj x := fun x hl => by
    rcases hob x with ⟨h, _, _⟩ | ⟨t, ks, xs, xs', h1, h2, _⟩
    · rw [h] at hl; exact ⟨hl, h⟩
    · rw [h2] at hl; simp [Ob.live] at hl
  have hkeep : Keeps w (Me C.M σ.obj g.hd g.fp) w' (Me C.M σ'.obj g'.hd g'.fp) := fun b o v hc hn => by
    have hlt := cell_lt hc
    have hnF : b ∉ F := fun hf => by
      obtain ⟨x, h1, h2⟩ := hF b hf
      exact hn (.inr (.inr ⟨x, h1, h2⟩))
    refine ⟨by rw [hcell b o hlt hnF]; exact hc, ?_⟩
    rintro (hM | ⟨x, hl, hx⟩ | ⟨x, hl, hx⟩)
    · exact hn (.inl hM)
    · rw [hhd] at hx
      exact hn (.inr (.inl ⟨x, (hlive x hl).1, hx⟩))
    · rcases hob x with ⟨h, hf, _⟩ | ⟨t, ks, xs, xs', h1, h2, _, _, h3, _⟩
      · rw [h] at hl; rw [hf] at hx
        exact hn (.inr (.inr ⟨x, hl, hx⟩))
      · rcases (h3 b hx).1 with q | q | q
        · exact hn (.inr (.inr ⟨x, by rw [h1]; rfl, q⟩))
        · exact hnF q
        · omega
  have hs : Shift (sur C g σ w) (sur C g' σ' w') := by
    refine ⟨hkeep, fun x p v h => ?_, fun x i j v h => ?_, fun x i j v h => ?_, fun x o h => ?_⟩
    · unfold RefRep at h ⊢
      simp only [sur, hhd] at h ⊢
      rcases hob x with ⟨e, _, _⟩ | ⟨t, ks, xs, xs', h1, h2, _⟩
      · rw [e]
        cases he : σ.obj x with
        | none => rw [he] at h; exact h
        | some q =>
          rw [he] at h
          cases q with
          | «sealed» _ _ _ => exact ⟨h.1, h.2.keeps hkeep⟩
          | _ => exact h
      · rw [h2]; rw [h1] at h; exact h
    · unfold PtrRep at h ⊢
      simp only [sur, hhd] at h ⊢
      rcases hob x with ⟨e, _, _⟩ | ⟨t, ks, xs, xs', h1, h2, _⟩
      · rw [e]; exact h
      · rw [h2]; rw [h1] at h; exact h
    · rcases hob x with ⟨e, _, hd⟩ | ⟨t, ks, xs, xs', h1, h2, _, _, _, hL⟩
      · unfold LodRep at h ⊢
        simp only [sur, hhd] at h ⊢
        rw [e]
        cases he : σ.obj x with
        | none => rw [he] at h; exact h
        | some q =>
          rw [he] at h
          cases q with
          | arx t ks xs =>
            refine LodAt.keep h fun b o u hu hb => ?_
            have hm : b ∈ g.fp x := R.xBlk (by rw [he]; rfl) hb
            rw [hcell b o (cell_lt hu) (hd b hm)]
            exact hu
          | _ => trivial
      · unfold LodRep at h ⊢
        simp only [sur, hhd] at h ⊢
        rw [h2]; rw [h1] at h
        exact hL i j v h
    · simp only [sur] at h
      rcases hob x with ⟨e, _, _⟩ | ⟨t, ks, xs, xs', h1, h2, _⟩
      · exact ⟨o, by simp only [sur]; rw [e]; exact h, fun e' ks' ys' e1 => ⟨⟨ys', e1⟩, hhd x⟩⟩
      · refine ⟨_, by simp only [sur]; exact h2, fun e' ks' ys' e1 => ⟨⟨xs, ?_⟩, hhd x⟩⟩
        rw [h1] at h
        simp only [Option.some.injEq] at h
        subst h
        simp only [Ob.arx.injEq] at e1
        obtain ⟨rfl, rfl, rfl⟩ := e1
        rfl
  have hFold : ∀ b, b ∈ F → C.w0.heap.size ≤ b ∨ b ∈ C.X := fun b hb => by
    obtain ⟨x, _, h2⟩ := hF b hb
    exact (R.alw x b h2).1
  refine R.move ht hs (fun x => ?_) (fun x => ?_) hap (fun x b hb => ?_) (R.fr.trans hfr hFold)
  · rcases hob x with ⟨e, hf, hd⟩ | ⟨t, ks, xs, xs', h1, h2, h3, _⟩
    · exact (R.objs x).shift hs e (hhd x) hf fun b hb => hfr.block b (R.alw x b hb).2 (hd b hb)
    · unfold RepOb
      simp only [sur, h2, hhd]
      obtain ⟨vss, fps, q1, q2, q3, q4, q5, q6⟩ := h3
      exact ⟨vss, fps, q1, q2, q3, q4, q5, q6⟩
  · rcases hob x with ⟨e, hf, hd⟩ | ⟨t, ks, xs, xs', h1, h2, h3, h4, _⟩
    · rw [hf]; exact R.own x
    · exact h4
  · rcases hob x with ⟨e, hf, hd⟩ | ⟨t, ks, xs, xs', h1, h2, h3, _, h4, _⟩
    · rw [hf] at hb
      exact ⟨(R.alw x b hb).1, Nat.lt_of_lt_of_le (R.alw x b hb).2 hfr.size⟩
    · obtain ⟨h5, h6⟩ := h4 b hb
      refine ⟨?_, h6⟩
      rcases h5 with h5 | h5 | h5
      · exact (R.alw x b h5).1
      · exact hFold b h5
      · exact .inl (Nat.le_trans R.fr.size h5)
end

abbrev Tgts := List (Nat × TypeId × List K)

def xcell (s : SSt) : RC → SC → Option (E × Tgts)
  | .im k, c => match sargC s k c with
    | some (e, false) => some (e, [])
    | _ => none
  | .own t ks dp, .ref z none => match s.obj z with
    | some (.arx t' ks' xs) => bif dp && (t' == t && K.eqbs ks' ks) then some (.op .asl [xs], [(z, t, ks)]) else none
    | _ => none
  | _, _ => none
def xcells (s : SSt) : List RC → List SC → Option (List E × Tgts)
  | [], [] => some ([], [])
  | c :: cs, x :: xs => match xcell s c x, xcells s cs xs with
    | some (e, z), some (es, zs) => some (e :: es, z ++ zs)
    | _, _ => none
  | _, _ => none
def xarg (T : TypeId → TI) (s : SSt) (ty : TypeId) (x : Operand) : XSh → Option (E × Tgts)
  | .im sh => match sarg T s ty x sh with
    | some (e, false) => some (e, [])
    | _ => none
  | .one c => match sev T ty s x with
    | .one d => xcell s c d
    | _ => none
  | .agg cs => match sev T ty s x with
    | .agg ds => match xcells s cs ds with
      | some (es, zs) => some (etaE es, zs)
      | none => none
    | _ => none
def xargs (T : TypeId → TI) (s : SSt) : List XSh → List TypeId → List Operand → Option (List E × Tgts)
  | [], [], [] => some ([], [])
  | h :: hs, t :: ts, x :: xs => match xarg T s t x h, xargs T s hs ts xs with
    | some (e, z), some (es, zs) => some (e :: es, z ++ zs)
    | _, _ => none
  | _, _, _ => none

def xupds (f : Nat) (es : List E) : Nat → Tgts → List (Nat × SOb)
  | _, [] => []
  | n, (z, t, ks) :: zs => (z, .arx t ks (.op (.fn f (2000 + n)) es)) :: xupds f es (n + 1) zs

def RC.flatIm : RC → Bool
  | .im k => k.plain
  | _ => false

section
variable {Φ : Fns} {env : List D} {C : Cx} {g : Gh} {s : SSt} {a : Act} {w : World} {o : Oper}

theorem XReps.mono {w : World} {M M' : Nat → Nat → Prop} (h : ∀ b o, M' b o → M b o) : ∀ {ss : List XSh} {vs : List Value} {ds : List D} {Fs : List (List Nat)}, XReps w M ss vs ds Fs → XReps w M' ss vs ds Fs
  | [], _, _, _, hr => hr
  | .im sh :: _, _, _, _, ⟨v, vs', d, ds', e1, e2, h1, h2⟩ => ⟨v, vs', d, ds', e1, e2, h1.mono h, XReps.mono h h2⟩
  | .one c :: _, _, _, _, ⟨v, vs', d, ds', F, Fs', e1, e2, e3, h1, h2⟩ => ⟨v, vs', d, ds', F, Fs', e1, e2, e3, h1.to (.inl h), XReps.mono h h2⟩
  | .agg cs :: _, _, _, _, ⟨us, vs', d, ds', F, Fs', e1, e2, e3, h1, h2⟩ => ⟨us, vs', d, ds', F, Fs', e1, e2, e3, h1.to (.inl h), XReps.mono h h2⟩

theorem RetCs.ext {w : World} {M : Nat → Nat → Prop} : ∀ {cs : List RC} {vs : List Value} {ds ds' : List D} {Fs : List (List Nat)}, RetCs w M cs vs ds Fs → (∀ j, j < cs.length → ds.getD j default = ds'.getD j default) → RetCs w M cs vs ds' Fs
  | [], _, _, _, _, h, _ => h
  | c :: cs, vs, ds, ds', Fs, h, he => by
    have h0 : ds.headD default = ds'.headD default := by
      have := he 0 (by simp)
      simp only [List.headD_eq_head?_getD, List.getD_eq_getElem?_getD, List.head?_eq_getElem?] at this ⊢
      exact this
    have h1 : ∀ j, j < cs.length → ds.tail.getD j default = ds'.tail.getD j default := fun j hj => by
      have := he (j + 1) (by simpa using hj)
      simp only [List.getD_eq_getElem?_getD, List.getElem?_tail] at this ⊢
      exact this
    cases c with
    | im k =>
      obtain ⟨v, vs', e, hc, hr⟩ := h
      exact ⟨v, vs', e, by rw [← h0]; exact hc, hr.ext h1⟩
    | own t ks dp =>
      obtain ⟨v, vs', F, Fs', e1, e2, hc, hr⟩ := h
      exact ⟨v, vs', F, Fs', e1, e2, by rw [← h0]; exact hc, hr.ext h1⟩

abbrev tgF (g : Gh) (zs : Tgts) : List (List Nat) := zs.map fun q => g.fp q.1
abbrev tgV (g : Gh) (zs : Tgts) : List (TypeId × List K × Value) := zs.map fun q => (q.2.1, q.2.2, g.hd q.1)
/-- These are arrays that nobody else looks into. -/
def Tg (σ : St) (zs : Tgts) : Prop := ∀ q ∈ zs, ∃ xs, σ.obj q.1 = some (.arx q.2.1 q.2.2 xs)

theorem calleeM_false {me : Nat → Nat → Prop} {b o : Nat} (h : me b o) : calleeM false me b o := ⟨rfl, h⟩

theorem xcells_rep (R : Rel C g (s.den Φ env) a w) : ∀ {cs : List RC} {xs : List SC} {vs : List Value} {es : List E} {zs : Tgts}, RepACs (sur C g (s.den Φ env) w) (xs.map (SC.den Φ env)) vs → xcells s cs xs = some (es, zs) →
    RetCs w (Me C.M (s.den Φ env).obj g.hd g.fp) cs vs (es.map (E.den Φ env)) (tgF g zs) ∧ ioCs cs vs = tgV g zs ∧ Tg (s.den Φ env) zs ∧ es.length = cs.length
  | [], [], vs, es, zs, hv, h => by
    simp only [xcells, Option.some.injEq, Prod.mk.injEq] at h
    obtain ⟨rfl, rfl⟩ := h
    have hv : vs = [] := hv
    subst hv
    exact ⟨⟨rfl, rfl⟩, rfl, fun q hq => by simp at hq, rfl⟩
  | [], _ :: _, _, _, _, _, h => by simp [xcells] at h
  | _ :: _, [], _, _, _, _, h => by simp [xcells] at h
  | c :: cs, x :: xs, vs, es, zs, hv, h => by
    obtain ⟨v, vs', rfl, _, hc, hr⟩ := hv
    simp only [xcells] at h
    split at h
    · rename_i e z es1 zs1 h1 h2
      simp only [Option.some.injEq, Prod.mk.injEq] at h
      obtain ⟨rfl, rfl⟩ := h
      obtain ⟨i1, i2, i3, i4⟩ := xcells_rep R hr h2
      cases c with
      | im k =>
        simp only [xcell] at h1
        split at h1
        · rename_i e' hs
          simp only [Option.some.injEq, Prod.mk.injEq] at h1
          obtain ⟨rfl, rfl⟩ := h1
          exact ⟨⟨v, vs', rfl, RepC.mono (fun _ _ => calleeM_false) (sargC_rep R hc hs), i1⟩, i2, i3, by simp [i4]⟩
        · cases h1
      | own t ks dp =>
        cases x with
        | ref z p =>
          cases p with
          | some p => simp [xcell] at h1
          | none =>
            simp only [xcell] at h1
            split at h1
            · rename_i t' ks' ys hz
              obtain ⟨h3, h4⟩ := bif_some h1
              simp only [Bool.and_eq_true, beq_iff_eq] at h3
              obtain ⟨rfl, rfl, h5⟩ := h3
              have h6 := K.eqbs_eq h5
              subst h6
              simp only [Option.some.injEq, Prod.mk.injEq] at h4
              obtain ⟨rfl, rfl⟩ := h4
              have hz' := obj_is (Φ := Φ) (env := env) hz
              have hr' : RefRep (sur C g (s.den Φ env) w) z none v := hc
              unfold RefRep at hr'
              simp only [sur, hz', SOb.den] at hr'
              subst hr'
              obtain ⟨vss, fps, q1, q2, q3, q4, q5, q6⟩ := R.arxRep hz'
              refine ⟨⟨_, vs', _, _, rfl, rfl, ⟨vss, fps, q1, q2, q3, q4, q5, fun i row us f e1 e2 e3 => by rw [if_pos rfl]; exact q6 i row us f e1 e2 e3⟩, i1⟩, ?_, ?_, by simp [i4]⟩
              · simp only [ioCs, i2, tgV, List.cons_append, List.nil_append, List.map_cons]
              · intro q hq
                rcases List.mem_append.1 hq with hq | hq
                · simp only [List.mem_singleton] at hq
                  subst hq
                  exact ⟨_, hz'⟩
                · exact i3 q hq
            · cases h1
        | _ => simp [xcell] at h1
    · cases h

theorem xargs_rep (R : Rel C g (s.den Φ env) a w) : ∀ {hs : List XSh} {ts : List TypeId} {xs : List Operand} {es : List E} {zs : Tgts}, xargs C.T s hs ts xs = some (es, zs) →
    XReps w (Me C.M (s.den Φ env).obj g.hd g.fp) hs (xs.map a.eval) (es.map (E.den Φ env)) (tgF g zs) ∧ ioOf hs (xs.map a.eval) = tgV g zs ∧ Tg (s.den Φ env) zs
  | [], [], [], es, zs, h => by
    simp only [xargs, Option.some.injEq, Prod.mk.injEq] at h
    obtain ⟨rfl, rfl⟩ := h
    exact ⟨⟨rfl, rfl, rfl⟩, rfl, fun q hq => by simp at hq⟩
  | h :: hs, t :: ts, x :: xs, es, zs, hh => by
    simp only [xargs] at hh
    split at hh
    · rename_i e z es1 zs1 h1 h2
      simp only [Option.some.injEq, Prod.mk.injEq] at hh
      obtain ⟨rfl, rfl⟩ := hh
      obtain ⟨i1, i2, i3⟩ := xargs_rep R h2
      have hr := ev_rep R t x
      have hT : ∀ {z : Tgts}, Tg (s.den Φ env) z → Tg (s.den Φ env) (z ++ zs1) := fun hz q hq => by
        rcases List.mem_append.1 hq with hq | hq
        · exact hz q hq
        · exact i3 q hq
      cases h with
      | im sh =>
        simp only [xarg] at h1
        split at h1
        · rename_i e' hs'
          simp only [Option.some.injEq, Prod.mk.injEq] at h1
          obtain ⟨rfl, rfl⟩ := h1
          exact ⟨⟨_, _, _, _, rfl, rfl, ArgRep.mono (fun _ _ => calleeM_false) (sarg_rep R hs'), i1⟩, i2, i3⟩
        · cases h1
      | one c =>
        simp only [xarg] at h1
        split at h1
        · rename_i d hx
          rw [sev_is hx] at hr
          have h1' : xcells s [c] [d] = some ([e], z) := by simp [xcells, h1]
          obtain ⟨j1, j2, j3, _⟩ := xcells_rep (xs := [d]) (vs := [a.eval x]) R ⟨_, _, rfl, hr.2, hr.1, rfl⟩ h1'
          refine ⟨⟨_, _, _, _, _, _, rfl, rfl, ?_, j1, i1⟩, ?_, hT j3⟩
          · simp [tgF]
          · simp only [List.map_cons, ioOf, j2, i2, tgV, List.map_append]
        · cases h1
      | agg cs =>
        simp only [xarg] at h1
        split at h1
        · rename_i ds hx
          rw [sev_is hx] at hr
          obtain ⟨us, e1, hr⟩ := hr
          split at h1
          · rename_i es2 zs2 h3
            simp only [Option.some.injEq, Prod.mk.injEq] at h1
            obtain ⟨rfl, rfl⟩ := h1
            obtain ⟨j1, j2, j3, j4⟩ := xcells_rep R hr h3
            refine ⟨⟨us, _, _, _, _, _, by rw [List.map_cons, e1], rfl, ?_, j1.ext fun j hj => etaE_get es2 j (by omega), i1⟩, ?_, hT j3⟩
            · simp [tgF]
            · simp only [List.map_cons, e1, ioOf, j2, i2, tgV, List.map_append]
          · cases h1
        · cases h1
    · cases hh
  | [], [], _ :: _, _, _, h => by simp [xargs] at h
  | [], _ :: _, _, _, _, h => by simp [xargs] at h
  | _ :: _, [], _, _, _, h => by simp [xargs] at h
  | _ :: _, _ :: _, [], _, _, h => by simp [xargs] at h

def putF : Tgts → List (List Nat) → (Nat → List Nat) → Nat → List Nat
  | (z, _, _) :: zs, G :: Gs, f, x => if x = z then G else putF zs Gs f x
  | _, _, f, x => f x

theorem outs_len {w w' : World} {φ : Nat → D} : ∀ {l : List (TypeId × List K × Value)} {n : Nat} {Gs : List (List Nat)}, OwnOuts w w' n l φ Gs → Gs.length = l.length
  | [], _, _, h => by rw [show _ = [] from h]; rfl
  | (t, ks, v) :: l, n, _, h => by
    obtain ⟨G, Gs', rfl, _, _, h'⟩ := h
    simp [outs_len h']

theorem outs_obj {w' : World} {f : Nat} {es : List E} : ∀ {zs : Tgts} {n : Nat} {Gs : List (List Nat)} (s : SSt), OwnOuts w w' n (tgV g zs) (fun n => Φ f (2000 + n) (es.map (E.den Φ env))) Gs → (zs.map (·.1)).Nodup → ∀ x,
    (x ∉ zs.map (·.1) ∧ ((s.upds (xupds f es n zs)).den Φ env).obj x = (s.den Φ env).obj x ∧ putF zs Gs g.fp x = g.fp x) ∨
    ∃ t ks d, (x, t, ks) ∈ zs ∧ ((s.upds (xupds f es n zs)).den Φ env).obj x = some (.arx t ks d) ∧ RepD w' (.sl t ks) (g.hd x) (.sl d) (putF zs Gs g.fp x) ∧ (∀ i j u, LodAt w ks (g.hd x) i j u → LodAt w' ks (g.hd x) i j u) ∧ putF zs Gs g.fp x ∈ Gs
  | [], n, Gs, s, h, _, x => .inl ⟨by simp, rfl, rfl⟩
  | (z, t, ks) :: zs, n, _, s, h, hnd, x => by
    obtain ⟨G, Gs', rfl, h1, h2, h3⟩ := h
    simp only [List.map_cons] at hnd
    obtain ⟨n1, n2⟩ := List.nodup_cons.1 hnd
    have ih := outs_obj (s.setO z (.arx t ks (.op (.fn f (2000 + n)) es))) h3 n2 x
    have e0 : s.upds (xupds f es n ((z, t, ks) :: zs)) = (s.setO z (.arx t ks (.op (.fn f (2000 + n)) es))).upds (xupds f es (n + 1) zs) := rfl
    rw [e0]
    by_cases hx : x = z
    · subst hx
      right
      rcases ih with ⟨_, e1, _⟩ | ⟨t', ks', d, hm, _⟩
      · refine ⟨t, ks, (Φ f (2000 + n) (es.map (E.den Φ env))).asList, by simp, ?_, ?_, h2, by simp [putF]⟩
        · rw [e1, SSt.den_setO, St.obj_setO, if_pos rfl]
          simp only [SOb.den, E.den, E.dens_map, opD]
        · simp only [putF, if_pos]
          exact h1
      · exact absurd (List.mem_map.2 ⟨_, hm, rfl⟩) n1
    · rcases ih with ⟨e0, e1, e2⟩ | ⟨t', ks', d, hm, e1, e2, e3, e4⟩
      · left
        refine ⟨by simp only [List.map_cons, List.mem_cons, not_or]; exact ⟨hx, e0⟩, ?_, ?_⟩
        · rw [e1, SSt.den_setO, St.obj_setO, if_neg hx]
        · simp only [putF, if_neg hx]; exact e2
      · right
        refine ⟨t', ks', d, by simp [hm], e1, ?_, e3, ?_⟩
        · simp only [putF, if_neg hx]; exact e2
        · simp only [putF, if_neg hx]; exact List.mem_cons_of_mem _ e4

theorem putF_apart {fp : Nat → List Nat} : ∀ {zs : Tgts} {Gs : List (List Nat)}, Gs.length = zs.length → Gs.flatten.Nodup → ∀ {x y : Nat}, x ≠ y → x ∈ zs.map (·.1) → y ∈ zs.map (·.1) → ∀ b, b ∈ putF zs Gs fp x → b ∉ putF zs Gs fp y
  | [], _, _, _, x, y, _, hx, _ => by simp at hx
  | (z, t, ks) :: zs, [], hl, _, _, _, _, _, _ => by simp at hl
  | (z, t, ks) :: zs, G :: Gs, hl, hnd, x, y, hxy, hx, hy => by
    rw [List.flatten_cons] at hnd
    obtain ⟨d1, d2, d3⟩ := List.nodup_append.1 hnd
    have hl' : Gs.length = zs.length := by simpa using hl
    have hin : ∀ {zs : Tgts} {Gs : List (List Nat)} {x : Nat}, Gs.length = zs.length → x ∈ zs.map (·.1) → putF zs Gs fp x ∈ Gs := by
      intro zs
      induction zs with
      | nil => intro Gs x _ hx; simp at hx
      | cons q zs ih =>
        intro Gs x hl hx
        cases Gs with
        | nil => simp at hl
        | cons G Gs =>
          simp only [putF]
          split
          · simp
          · rename_i hn
            simp only [List.map_cons, List.mem_cons] at hx
            exact List.mem_cons_of_mem _ (ih (by simpa using hl) (hx.resolve_left hn))
    simp only [List.map_cons, List.mem_cons] at hx hy
    simp only [putF]
    intro b hb hb'
    split at hb
    · rename_i e
      rw [if_neg (by omega)] at hb'
      exact d3 b hb b (List.mem_flatten.2 ⟨_, hin hl' (hy.resolve_left (by omega)), hb'⟩) rfl
    · rename_i e
      split at hb'
      · exact d3 b hb' b (List.mem_flatten.2 ⟨_, hin hl' (hx.resolve_left e), hb⟩) rfl
      · rename_i e'
        exact putF_apart hl' d2 hxy (hx.resolve_left e) (hy.resolve_left e') b hb hb'

end

def nodupB : List Nat → Bool
  | [] => true
  | x :: l => (l.all fun y => !(y == x)) && nodupB l
theorem nodupB_iff : ∀ {l : List Nat}, nodupB l = true → l.Nodup
  | [], _ => List.nodup_nil
  | x :: l, h => by
    simp only [nodupB, Bool.and_eq_true, List.all_eq_true, Bool.not_eq_true', beq_eq_false_iff_ne] at h
    exact List.nodup_cons.2 ⟨fun hm => h.1 x hm rfl, nodupB_iff h.2⟩

def fCallX (T : TypeId → TI) (args : List XSh) (rets : List RSh) (s : SSt) (f : Nat) (ts : List TypeId) (xs : List Operand) : Option Res :=
  bif (rets.flatMap RSh.cells).all RC.flatIm then match xargs T s args ts xs with
    | some (es, zs) => bif nodupB (zs.map (·.1)) then some ⟨[.op (.fn f 1000) es], smkRet rets (scells 0 (rets.flatMap RSh.cells) (sretE f es 0 rets)), xupds f es 0 zs⟩ else none
    | none => match args, ts, xs with
      | .one (.own t ks dp) :: ss, ty :: ts, x :: xs => match sev T ty s x with
        | .lod y i j => match s.obj y with
          | some (.arx t0 ks0 e0) => match ks0[j]?, xargs T s ss ts xs with
            | some k, some (es, []) => bif dp && (K.eqb k (.sl t ks) && okR ks0.length 64 (arxR e0 i).2) then
                some ⟨[.op .ltlen [i, (arxR e0 i).1], .op (.rowlen ks0.length) [baseR 64 (arxR e0 i).2], .op (.fn f 1000) (.op .asl [fldR j 64 (arxR e0 i).2] :: es)],
                  smkRet rets (scells 0 (rets.flatMap RSh.cells) (sretE f (.op .asl [fldR j 64 (arxR e0 i).2] :: es) 0 rets)),
                  [(y, .arx t0 ks0 (.op .lset [(arxR e0 i).1, i, .op (.rput j) [(arxR e0 i).2, .op (.fn f 2000) (.op .asl [fldR j 64 (arxR e0 i).2] :: es)]]))]⟩ else none
            | _, _ => none
          | _ => none
        | _ => none
      | _, _, _ => none
    else none

section
variable {Φ : Fns} {env : List D} {C : Cx} {g : Gh} {s : SSt} {a : Act} {w : World} {o : Oper}

theorem tgF_nodup (R : Rel C g (s.den Φ env) a w) : ∀ {zs : Tgts}, (zs.map (·.1)).Nodup → (tgF g zs).flatten.Nodup
  | [], _ => List.nodup_nil
  | q :: zs, h => by
    simp only [List.map_cons] at h
    obtain ⟨h1, h2⟩ := List.nodup_cons.1 h
    simp only [tgF, List.map_cons, List.flatten_cons]
    refine List.nodup_append.2 ⟨R.own q.1, tgF_nodup R h2, fun b hb c hc e => ?_⟩
    subst e
    obtain ⟨F, hF, hb'⟩ := List.mem_flatten.1 hc
    obtain ⟨y, hy, rfl⟩ := List.mem_map.1 hF
    exact R.apart q.1 y.1 (fun e => h1 (e ▸ List.mem_map.2 ⟨y, hy, rfl⟩)) b hb hb'

theorem newN_nil {ex : Bool} : ∀ (cs : List RC) {key : Nat} {vs : List Value} {ds : List D} {x : Nat}, newN ex key cs vs ds [] x = none
  | [], _, _, _, _ => rfl
  | .im _ :: cs, _, [], _, _ => rfl
  | .im _ :: cs, key, v :: vs, ds, x => newN_nil cs
  | .own _ _ _ :: cs, _, [], _, _ => rfl
  | .own _ _ _ :: cs, _, _ :: _, _, _ => rfl

theorem flatIm_solid {cs : List RC} (h : cs.all RC.flatIm = true) : cs.all RC.solid = true := by
  rw [List.all_eq_true] at h ⊢
  intro c hc
  have := h c hc
  cases c with
  | im k => exact this
  | own _ _ _ => simp [RC.flatIm] at this

/-- What a function that writes its arguments returns. -/
theorem xret_rep {S : Sur} {w' : World} (hw : S.w = w') {rets : List RSh} (hfl : (rets.flatMap RSh.cells).all RC.flatIm = true) {f : Nat} {es : List E} {us : List Value}
    (h : RetCs w' (fun _ _ => False) (rets.flatMap RSh.cells) us (retDs (fun c => Φ f c (es.map (E.den Φ env))) 0 rets) []) :
    RepAV S ((smkRet rets (scells 0 (rets.flatMap RSh.cells) (sretE f es 0 rets))).den Φ env) (mkRet rets us) := by
  have hel : (sretE f es 0 rets).length = (rets.flatMap RSh.cells).length := sretE_length f es rets 0
  rw [← sretE_den] at h
  have h2 := h.to (M' := S.me) (.inr (flatIm_solid hfl))
  exact smkRet_rep rets (scells_rep (ex := false) hw rfl _ h2 hel fun x ob h f hx => by rw [newN_nil] at hx; cases hx) (scells_length _ _ _ hel)

theorem good_callX_objs (R : Rel C g (s.den Φ env) a w) {f : FuncId} {args : List XSh} {rets : List RSh} (hF : FunX C.P f args rets (Φ f)) (hfn : ∃ fn, C.P.funcs[f]? = some fn ∧ fn.body ≠ none ∧ fn.name ≠ "runtime.NumGoroutine")
    {c : Call} (ho : o.op = .call c) (hc : c.callee = .value (.func f)) {es : List E} {zs : Tgts} (hx : xargs C.T s args c.argTypes.toList c.args.toList = some (es, zs)) (hnd : nodupB (zs.map (·.1)) = true)
    (hfl : (rets.flatMap RSh.cells).all RC.flatIm = true) (hpre : (E.den Φ env (.op (.fn f 1000) es)).asBool = true) :
    Does C a w o ((smkRet rets (scells 0 (rets.flatMap RSh.cells) (sretE f es 0 rets))).den Φ env) ((s.upds (xupds f es 0 zs)).den Φ env) := by
  obtain ⟨fn, hfn, hb, hname⟩ := hfn
  obtain ⟨x1, x2, x3⟩ := xargs_rep R hx
  have hnd' := nodupB_iff hnd
  have hFn := tgF_nodup R hnd'
  have hFx : ∀ b, b ∈ (tgF g zs).flatten → ∃ x, x ∈ zs.map (·.1) ∧ Ob.isX ((s.den Φ env).obj x) = true ∧ b ∈ g.fp x := fun b hbm => by
    obtain ⟨F, hF, hb'⟩ := List.mem_flatten.1 hbm
    obtain ⟨q, hq, rfl⟩ := List.mem_map.1 hF
    obtain ⟨xs, hxs⟩ := x3 q hq
    exact ⟨q.1, List.mem_map.2 ⟨q, hq, rfl⟩, by rw [hxs]; rfl, hb'⟩
  have hMe : ∀ b o, Me C.M (s.den Φ env).obj g.hd g.fp b o → b < w.heap.size := by
    rintro b o (hM | ⟨x, hl, hx⟩ | ⟨x, hl, hx⟩)
    · exact Nat.lt_of_lt_of_le (C.mold b o hM).1 R.fr.size
    · exact (R.alw x b (R.liveBlk hl hx)).2
    · exact (R.alw x b hx).2
  simp only [E.den, E.dens_map, opD] at hpre
  have hcall := hF w (fun b o => Me C.M (s.den Φ env).obj g.hd g.fp b o ∧ b ∉ (tgF g zs).flatten) _ _ _ (fun b o hm => ⟨hMe b o hm.1, hm.2⟩) (fun w' hfr => C.gl w' (R.fr.trans hfr fun b hb => by
      obtain ⟨x, _, _, h2⟩ := hFx b hb
      exact (R.alw x b h2).1)) (x1.mono fun b o hm => by
    rcases hm with hm | hm
    · exact hm.1
    · obtain ⟨x, _, h1, h2⟩ := hFx b hm
      exact .inr (.inr ⟨x, h1, h2⟩)) hFn (fun b hb => by
      obtain ⟨x, _, _, h2⟩ := hFx b hb
      exact (R.alw x b h2).2) hpre
  refine does_call R hfn hb hname ho hc ?_
  have harr : (c.args.toList.map a.eval).toArray = c.args.map a.eval := by apply Array.ext'; simp
  rw [harr] at hcall
  refine hcall.mono fun e w' ⟨us, Gs, he, hfr, hret, hout, hGn, hGb⟩ => ?_
  rw [x2] at hout
  have hob := outs_obj (Φ := Φ) (env := env) (f := f) (es := es) s hout hnd'
  have hGl : Gs.length = zs.length := by rw [outs_len hout]; simp
  refine ⟨_, ⟨g.hd, putF zs Gs g.fp⟩, he, xret_rep rfl hfl hret, ?_⟩
  refine R.poke hfr (by simp [SSt.den, SSt.upds_tmps]) (fun _ => rfl) (fun b hb => by obtain ⟨x, _, h1, h2⟩ := hFx b hb; exact ⟨x, h1, h2⟩) (fun x => ?_) (fun x y hxy b hb hb' => ?_)
  · rcases hob x with ⟨h0, h1, h2⟩ | ⟨t, ks, d, hm, h1, h2, h3, h4⟩
    · refine .inl ⟨h1, h2, fun b hb hbF => ?_⟩
      obtain ⟨y, hy, _, hb'⟩ := hFx b hbF
      exact R.apart x y (fun e => h0 (e ▸ hy)) b hb hb'
    · obtain ⟨xs, hxs⟩ := x3 _ hm
      refine .inr ⟨t, ks, xs, d, hxs, h1, h2, (List.pairwise_flatten.1 hGn).1 _ h4, fun b hb => ?_, h3⟩
      obtain ⟨q1, q2⟩ := hGb b (List.mem_flatten.2 ⟨_, h4, hb⟩)
      refine ⟨?_, q2⟩
      rcases q1 with q1 | q1
      · exact .inr (.inr q1)
      · exact .inr (.inl q1)
  · -- apart
    have one : ∀ {x y : Nat}, x ≠ y → (∃ G, G ∈ Gs ∧ putF zs Gs g.fp x = G) → x ∈ zs.map (·.1) → y ∉ zs.map (·.1) → ∀ b, b ∈ putF zs Gs g.fp x → b ∉ g.fp y := fun {x y} hxy ⟨G, hG, e⟩ hx hy b hb hb' => by
      rw [e] at hb
      rcases (hGb b (List.mem_flatten.2 ⟨G, hG, hb⟩)).1 with q | q
      · have := (R.alw y b hb').2
        omega
      · obtain ⟨z, hz, _, hbz⟩ := hFx b q
        exact R.apart z y (fun e => hy (e ▸ hz)) b hbz hb'
    rcases hob x with ⟨h0, h1, h2⟩ | ⟨t, ks, d, hm, h1, h2, h3, h4⟩
    · rcases hob y with ⟨k0, k1, k2⟩ | ⟨t', ks', d', km, k1, k2, k3, k4⟩
      · simp only [h2] at hb
        simp only [k2] at hb'
        exact R.apart x y hxy b hb hb'
      · simp only [h2] at hb
        exact one (Ne.symm hxy) ⟨_, k4, rfl⟩ (List.mem_map.2 ⟨_, km, rfl⟩) h0 b hb' hb
    · rcases hob y with ⟨k0, k1, k2⟩ | ⟨t', ks', d', km, k1, k2, k3, k4⟩
      · simp only [k2] at hb'
        exact one hxy ⟨_, h4, rfl⟩ (List.mem_map.2 ⟨_, hm, rfl⟩) k0 b hb hb'
      · exact putF_apart hGl hGn hxy (List.mem_map.2 ⟨_, hm, rfl⟩) (List.mem_map.2 ⟨_, km, rfl⟩) b hb hb'

theorem good_callX_cell (R : Rel C g (s.den Φ env) a w) {f : FuncId} {args : List XSh} {rets : List RSh} (hF : FunX C.P f args rets (Φ f)) (hfn : ∃ fn, C.P.funcs[f]? = some fn ∧ fn.body ≠ none ∧ fn.name ≠ "runtime.NumGoroutine")
    {c : Call} (ho : o.op = .call c) (hc : c.callee = .value (.func f)) {t : TypeId} {ks : List K} {ss : List XSh} (hsg : args = .one (.own t ks true) :: ss) {ty : TypeId} {ts : List TypeId} {x : Operand} {xs : List Operand}
    (hts : c.argTypes.toList = ty :: ts) (hxs : c.args.toList = x :: xs) {y : Nat} {i : E} {j : Nat} (hsx : sev C.T ty s x = .lod y i j) {t0 : TypeId} {ks0 : List K} {e0 : E} (hy : s.obj y = some (.arx t0 ks0 e0))
    (hk : ks0[j]? = some (.sl t ks)) {es : List E} (hes : xargs C.T s ss ts xs = some (es, [])) (hfl : (rets.flatMap RSh.cells).all RC.flatIm = true)
    {dE nE : E} (hdE : dE.den Φ env = ((e0.den Φ env).asList.getD (i.den Φ env).n []).getD j default) (hnE : (nE.den Φ env).asList = (e0.den Φ env).asList.set (i.den Φ env).n (((e0.den Φ env).asList.getD (i.den Φ env).n []).take j ++ [Φ f 2000 ((E.op .asl [dE] :: es).map (E.den Φ env))] ++ ((e0.den Φ env).asList.getD (i.den Φ env).n []).drop (j + 1)))
    (hi : (i.den Φ env).n < (e0.den Φ env).asList.length) (hrow : ((e0.den Φ env).asList.getD (i.den Φ env).n []).length = ks0.length)
    (hpre : (E.den Φ env (.op (.fn f 1000) (.op .asl [dE] :: es))).asBool = true) :
    Does C a w o ((smkRet rets (scells 0 (rets.flatMap RSh.cells) (sretE f (.op .asl [dE] :: es) 0 rets))).den Φ env)
      ((s.upds [(y, .arx t0 ks0 nE)]).den Φ env) := by
  obtain ⟨fn, hfn, hb, hname⟩ := hfn
  generalize hI : (i.den Φ env).n = I at hi hrow hdE hnE
  generalize hL : (e0.den Φ env).asList = L at hi hrow hdE hnE
  have hy' := obj_is (Φ := Φ) (env := env) hy
  simp only [SOb.den, hL] at hy'
  have hr := ev_rep R ty x
  rw [sev_is hsx] at hr
  simp only [SV.den, hI] at hr
  have hr : LodRep (sur C g (s.den Φ env) w) y I j (a.eval x) := hr
  unfold LodRep at hr
  simp only [sur, hy'] at hr
  obtain ⟨bb, nn, cap, hhd, _, hcell⟩ := hr
  obtain ⟨vss, fps, h1, h2, h3, h4, h5, hlen, h6⟩ := R.arxAll hy'
  have hvi : vss[I]? = some vss[I] := List.getElem?_eq_getElem (by omega)
  have hfi : fps[I]? = some fps[I] := List.getElem?_eq_getElem (by omega)
  have hxi : L[I]? = some (L.getD I []) := by simp [List.getD, hi]
  have c2 := h6 I _ _ _ hxi hvi hfi
  have hlvi : vss[I].length = ks0.length := c2.length
  have hjl := (List.getElem?_eq_some_iff.1 hk).1
  obtain ⟨F1, F2, hF12, r1, r2⟩ := RepDs.split j c2
  have hkd : ks0.drop j = .sl t ks :: ks0.drop (j + 1) := by
    rw [List.drop_eq_getElem_cons hjl]
    rw [List.getElem?_eq_getElem hjl] at hk
    simp only [Option.some.injEq] at hk
    rw [hk]
  rw [hkd] at r2
  obtain ⟨v, vs', f1, f2, ev1, ef, rc, rc'⟩ := r2
  have hvj : v = vss[I][j]'(by omega) := by
    rw [List.drop_eq_getElem_cons (by omega : j < vss[I].length)] at ev1
    simp only [List.cons.injEq] at ev1
    exact ev1.1.symm
  have hrowm : Row w bb (I * ks0.length) vss[I] := ownsRow_row h1 hlen (by rw [hhd]; rfl) hvi
  have hav : a.eval x = v := by
    have := hrowm.get j _ (List.getElem?_eq_getElem (by omega))
    rw [hcell] at this
    simp only [Option.some.injEq] at this
    rw [this, hvj]
  have hd0 : ((L.getD I []).drop j).headD default = (L.getD I []).getD j default := by simp [List.getD_eq_getElem?_getD, List.headD_eq_head?_getD]
  rw [hd0] at rc
  have hfsub : ∀ b, b ∈ f1 → b ∈ fps[I] := fun b hb => by rw [hF12, ef]; simp [hb]
  have hfflat : ∀ b, b ∈ f1 → b ∈ fps.flatten := fun b hb => List.mem_flatten.2 ⟨_, List.mem_of_getElem? hfi, hfsub b hb⟩
  have hffp : ∀ b, b ∈ f1 → b ∈ g.fp y := fun b hb => by rw [h5]; exact List.mem_append.2 (.inr (hfflat b hb))
  have hown := R.own y
  rw [h5] at hown
  obtain ⟨o1, o2, o3⟩ := List.nodup_append.1 hown
  have hni := (List.pairwise_flatten.1 o2).1 _ (List.mem_of_getElem? hfi)
  rw [hF12, ef] at hni
  obtain ⟨m1, m2, m3⟩ := List.nodup_append.1 hni
  obtain ⟨m4, m5, m6⟩ := List.nodup_append.1 m2
  have hMe : ∀ b o, Me C.M (s.den Φ env).obj g.hd g.fp b o → b < w.heap.size := by
    rintro b o (hM | ⟨x, hl, hx⟩ | ⟨x, hl, hx⟩)
    · exact Nat.lt_of_lt_of_le (C.mold b o hM).1 R.fr.size
    · exact (R.alw x b (R.liveBlk hl hx)).2
    · exact (R.alw x b hx).2
  have hyX : Ob.isX ((s.den Φ env).obj y) = true := by rw [hy']; rfl
  obtain ⟨x1, x2, x3⟩ := xargs_rep R hes
  simp only [tgF, List.map_nil] at x1
  have hrcS := rc
  obtain ⟨vssI, fpsI, k1, k2, k3, k4, k5, k6⟩ := hrcS
  have hfld : E.den Φ env (.op .asl [dE]) = .sl ((L.getD I []).getD j default).asList := by
    simp only [E.den, E.dens, opD, List.getD_cons_zero, hdE]
  have hX : XReps w (fun b o => (Me C.M (s.den Φ env).obj g.hd g.fp b o ∧ b ∉ [f1].flatten) ∨ b ∈ [f1].flatten) args (c.args.toList.map a.eval) ((.op .asl [dE] :: es).map (E.den Φ env)) [f1] := by
    rw [hsg, hxs]
    refine ⟨a.eval x, _, _, _, [f1], [], rfl, rfl, rfl, ⟨_, _, _, _, rfl, rfl, ?_, rfl, rfl⟩, x1.mono fun b o hm => ?_⟩
    · rw [hfld, hav]
      exact ⟨vssI, fpsI, k1, k2, k3, k4, k5, fun q row us f' e1 e2 e3 => by rw [if_pos rfl]; exact k6 q row us f' e1 e2 e3⟩
    · rcases hm with hm | hm
      · exact hm.1
      · simp only [List.flatten_cons, List.flatten_nil, List.append_nil] at hm
        exact .inr (.inr ⟨y, hyX, hffp b hm⟩)
  simp only [E.den, E.dens_map, opD] at hpre
  have hcall := hF w (fun b o => Me C.M (s.den Φ env).obj g.hd g.fp b o ∧ b ∉ [f1].flatten) _ _ _ (fun b o hm => ⟨hMe b o hm.1, hm.2⟩) (fun w' hfr => C.gl w' (R.fr.trans hfr fun b hb => (R.alw y b (hffp b (by simpa using hb))).1)) hX (by simpa using m4) (fun b hb => (R.alw y b (hffp b (by simpa using hb))).2) (by simpa [E.den, E.dens, E.dens_map, opD] using hpre)
  refine does_call R hfn hb hname ho hc ?_
  have harr : (c.args.toList.map a.eval).toArray = c.args.map a.eval := by apply Array.ext'; simp
  rw [harr] at hcall
  refine hcall.mono fun e w' ⟨us, Gs, he, hfr, hret, hout, hGn, hGb⟩ => ?_
  rw [hsg, hxs, show ioOf (.one (.own t ks true) :: ss) ((x :: xs).map a.eval) = (t, ks, a.eval x) :: ioOf ss (xs.map a.eval) from rfl, x2] at hout
  simp only [tgV, List.map_nil] at hout
  obtain ⟨G, Gs', rfl, hG1, hG2, hG3⟩ := hout
  have hG3 : Gs' = [] := hG3
  subst hG3
  simp only [List.flatten_cons, List.flatten_nil, List.append_nil] at hfr hGn hGb
  rw [hav] at hG1
  have hfx : ∀ b, b ∈ f1 → ∃ x, Ob.isX ((s.den Φ env).obj x) = true ∧ b ∈ g.fp x := fun b hb => ⟨y, hyX, hffp b hb⟩
  have hblk : ∀ b, b ∈ g.fp y → b ∉ f1 → w'.heap[b]? = w.heap[b]? := fun b hb hn => hfr.block b (R.alw y b hb).2 hn
  have hbb : bb ∈ g.fp y := by rw [h5, hhd]; simp [Value.ownBlock]
  have hbn : bb ∉ f1 := fun hm => o3 bb (by rw [hhd]; simp [Value.ownBlock]) bb (hfflat bb hm) rfl
  -- the new datum
  have hden : ((SOb.arx t0 ks0 (nE)).den Φ env) =
      .arx t0 ks0 (L.set I ((L.getD I []).take j ++ [Φ f 2000 ((.op .asl [dE] :: es).map (E.den Φ env))] ++ (L.getD I []).drop (j + 1))) := by
    simp only [SOb.den, hnE]
  have hσ : ∀ z, ((s.upds [(y, .arx t0 ks0 nE)]).den Φ env).obj z =
      if z = y then some (.arx t0 ks0 (L.set I ((L.getD I []).take j ++ [Φ f 2000 ((.op .asl [dE] :: es).map (E.den Φ env))] ++ (L.getD I []).drop (j + 1)))) else (s.den Φ env).obj z := fun z => by
    rw [show ∀ ob, s.upds [(y, ob)] = s.setO y ob from fun _ => rfl, SSt.den_setO, St.obj_setO, hden]
  have hG1' : RepD w' (.sl t ks) v (Φ f 2000 ((.op .asl [dE] :: es).map (E.den Φ env))) G := by
    obtain ⟨p1, p2, p3⟩ := hG1
    exact ⟨p1, p2, p3⟩
  generalize Φ f 2000 ((.op .asl [dE] :: es).map (E.den Φ env)) = d' at hσ hG1'
  have hGflat : ∀ b, b ∈ G → b ∈ f1 ∨ w.heap.size ≤ b := fun b hb => (hGb b hb).1.symm
  have hnew : ∀ b, b ∈ F1 ++ (G ++ f2) → b ∈ fps[I] ∨ b ∉ fps.flatten := fun b hb => by
    rcases List.mem_append.1 hb with hb | hb
    · left; rw [hF12]; simp [hb]
    · rcases List.mem_append.1 hb with hb | hb
      · rcases hGflat b hb with q | q
        · exact .inl (hfsub b q)
        · right
          intro hm
          have := (R.alw y b (by rw [h5]; exact List.mem_append.2 (.inr hm))).2
          omega
      · left; rw [hF12, ef]; simp [hb]
  have hold : ∀ b, b ∈ fps.flatten → b < w.heap.size := fun b hm => (R.alw y b (by rw [h5]; exact List.mem_append.2 (.inr hm))).2
  have hnd' : (F1 ++ (G ++ f2)).Nodup := by
    refine List.nodup_append.2 ⟨m1, List.nodup_append.2 ⟨hGn, m5, fun b hb c hc e => ?_⟩, fun b hb c hc e => ?_⟩
    · subst e
      rcases hGflat b hb with q | q
      · exact m6 b q b hc rfl
      · have := hold b (List.mem_flatten.2 ⟨_, List.mem_of_getElem? hfi, by rw [hF12, ef]; simp [hc]⟩)
        omega
    · subst e
      rcases List.mem_append.1 hc with hc | hc
      · rcases hGflat b hc with q | q
        · exact m3 b hb b (by simp [ef, q]) rfl
        · have := hold b (List.mem_flatten.2 ⟨_, List.mem_of_getElem? hfi, by rw [hF12]; simp [hb]⟩)
          omega
      · exact m3 b hb b (by simp [ef, hc]) rfl
  have hset := nodup_set fps I fps[I] (F1 ++ (G ++ f2)) o2 hfi hnew hnd'
  refine ⟨_, g.upd y (g.hd y) ((g.hd y).ownBlock.toList ++ (fps.set I (F1 ++ (G ++ f2))).flatten), he, xret_rep rfl hfl hret, ?_⟩
  have hfpy : (g.upd y (g.hd y) ((g.hd y).ownBlock.toList ++ (fps.set I (F1 ++ (G ++ f2))).flatten)).fp y = (g.hd y).ownBlock.toList ++ (fps.set I (F1 ++ (G ++ f2))).flatten := upd_eq _ _ _
  have hfpz : ∀ z, z ≠ y → (g.upd y (g.hd y) ((g.hd y).ownBlock.toList ++ (fps.set I (F1 ++ (G ++ f2))).flatten)).fp z = g.fp z := fun z hz => upd_ne _ _ hz
  have hmemy : ∀ b, b ∈ (g.hd y).ownBlock.toList ++ (fps.set I (F1 ++ (G ++ f2))).flatten → b ∈ g.fp y ∨ b ∈ f1 ∨ w.heap.size ≤ b := fun b hb => by
    rcases List.mem_append.1 hb with hb | hb
    · left; rw [h5]; exact List.mem_append.2 (.inl hb)
    · rcases mem_flatten_set hb with hb | hb
      · left; rw [h5]; exact List.mem_append.2 (.inr hb)
      · rcases List.mem_append.1 hb with hb | hb
        · left; rw [h5]; exact List.mem_append.2 (.inr (List.mem_flatten.2 ⟨_, List.mem_of_getElem? hfi, by rw [hF12]; simp [hb]⟩))
        · rcases List.mem_append.1 hb with hb | hb
          · exact .inr (hGflat b hb)
          · left; rw [h5]; exact List.mem_append.2 (.inr (List.mem_flatten.2 ⟨_, List.mem_of_getElem? hfi, by rw [hF12, ef]; simp [hb]⟩))
  refine R.poke hfr rfl (fun z => ?_) hfx (fun z => ?_) (fun z z' hzz b hb hb' => ?_)
  · show upd g.hd y (g.hd y) z = g.hd z
    unfold upd; split
    · rename_i e; rw [e]
    · rfl
  · by_cases hz : z = y
    · subst hz
      right
      refine ⟨t0, ks0, L, _, hy', by rw [hσ, if_pos rfl], ?_, ?_, fun b hb => ?_, fun p q u hu => ?_⟩
      · rw [hfpy]
        refine ⟨vss, fps.set I (F1 ++ (G ++ f2)), ?_, ?_, ?_, ?_, rfl, fun q row vs ff e1 e2 e3 => ?_⟩
        · rw [show (D.sl (L.set I ((L.getD I []).take j ++ [d'] ++ (L.getD I []).drop (j + 1)))).asList.length = L.length by simp [D.asList]]
          refine ⟨h1.1, h1.2.imp id ?_⟩
          rintro ⟨gb, cap', cur, e1, e2, e3, e4⟩
          rw [hhd] at e1
          simp only [Value.slice.injEq, Option.some.injEq, Addr.mk.injEq, and_true, true_and] at e1
          obtain ⟨rfl, _, rfl⟩ := e1
          exact ⟨bb, cap, cur, by rw [hhd]; simp_all, e2, by rw [hblk bb hbb hbn]; exact e3, e4⟩
        · simpa [D.asList] using h2
        · simpa [D.asList] using h3
        · simpa [D.asList] using h4
        · simp only [D.asList] at e1
          by_cases hq : q = I
          · subst hq
            rw [List.getElem?_set_self (by omega)] at e1 e3
            rw [hvi] at e2
            simp only [Option.some.injEq] at e1 e2 e3
            subst e1 e2 e3
            have keep1 : ∀ b, b ∈ F1 → w'.heap[b]? = w.heap[b]? := fun b hb => hblk b (by rw [h5]; exact List.mem_append.2 (.inr (List.mem_flatten.2 ⟨_, List.mem_of_getElem? hfi, by rw [hF12]; simp [hb]⟩))) fun hm => m3 b hb b (by simp [ef, hm]) rfl
            have keep2 : ∀ b, b ∈ f2 → w'.heap[b]? = w.heap[b]? := fun b hb => hblk b (by rw [h5]; exact List.mem_append.2 (.inr (List.mem_flatten.2 ⟨_, List.mem_of_getElem? hfi, by rw [hF12, ef]; simp [hb]⟩))) fun hm => m6 b hm b hb rfl
            have q1 := r1.keeps keep1
            have q2 := rc'.keeps keep2
            rw [show ((L.getD q []).drop j).tail = (L.getD q []).drop (j + 1) by rw [List.tail_drop]] at q2
            have qd : RepDs w' (.sl t ks :: ks0.drop (j + 1)) (v :: vs') (d' :: (L.getD q []).drop (j + 1)) (G ++ f2) := ⟨v, vs', G, f2, rfl, rfl, hG1', q2⟩
            have := RepDs.append (by rw [List.length_take, List.length_take, hrow]) q1 qd
            rw [← hkd, List.take_append_drop, ← ev1, List.take_append_drop] at this
            simpa using this
          · rw [List.getElem?_set_ne (fun h => hq h.symm)] at e1 e3
            refine (h6 q row vs ff e1 e2 e3).keeps fun b hb => hblk b (by rw [h5]; exact List.mem_append.2 (.inr (List.mem_flatten.2 ⟨_, List.mem_of_getElem? e3, hb⟩))) fun hm => ?_
            have hq2 := (List.getElem?_eq_some_iff.1 e3).1
            have hq3 := (List.getElem?_eq_some_iff.1 e3).2
            have hIl := (List.getElem?_eq_some_iff.1 hfi).1
            have hp := (List.pairwise_flatten.1 o2).2
            rcases Nat.lt_or_gt_of_ne hq with hlt | hlt
            · exact List.pairwise_iff_getElem.1 hp q I hq2 hIl hlt b (by rw [hq3]; exact hb) b (hfsub b hm) rfl
            · exact List.pairwise_iff_getElem.1 hp I q hIl hq2 hlt b (hfsub b hm) b (by rw [hq3]; exact hb) rfl
      · rw [hfpy]
        refine List.nodup_append.2 ⟨o1, hset, fun b hb c hc e => ?_⟩
        subst e
        have hbb' : b = bb := by rw [hhd] at hb; simpa [Value.ownBlock] using hb
        subst hbb'
        rcases mem_flatten_set hc with hc | hc
        · exact o3 b hb b hc rfl
        · rcases List.mem_append.1 hc with hc | hc
          · exact o3 b hb b (List.mem_flatten.2 ⟨_, List.mem_of_getElem? hfi, by rw [hF12]; simp [hc]⟩) rfl
          · rcases List.mem_append.1 hc with hc | hc
            · rcases hGflat b hc with q | q
              · exact hbn q
              · have := (R.alw _ b hbb).2
                omega
            · exact o3 b hb b (List.mem_flatten.2 ⟨_, List.mem_of_getElem? hfi, by rw [hF12, ef]; simp [hc]⟩) rfl
      · rw [hfpy] at hb
        refine ⟨hmemy b hb, ?_⟩
        rcases List.mem_append.1 hb with hb | hb
        · exact Nat.lt_of_lt_of_le (R.alw _ b (by rw [h5]; exact List.mem_append.2 (.inl hb))).2 hfr.size
        · rcases mem_flatten_set hb with hb | hb
          · exact Nat.lt_of_lt_of_le (hold b hb) hfr.size
          · rcases List.mem_append.1 hb with hb | hb
            · exact Nat.lt_of_lt_of_le (hold b (List.mem_flatten.2 ⟨_, List.mem_of_getElem? hfi, by rw [hF12]; simp [hb]⟩)) hfr.size
            · rcases List.mem_append.1 hb with hb | hb
              · exact (hGb b hb).2
              · exact Nat.lt_of_lt_of_le (hold b (List.mem_flatten.2 ⟨_, List.mem_of_getElem? hfi, by rw [hF12, ef]; simp [hb]⟩)) hfr.size
      · refine hu.keep fun b o u' hu' hbk => ?_
        have : b = bb := by rw [hhd] at hbk; simpa [blkOf] using hbk.symm
        subst this
        rw [World.cell?_of_block (w := w) (a := ⟨b, o, none⟩) (hblk b hbb hbn)]
        exact hu'
    · left
      refine ⟨by rw [hσ, if_neg hz], hfpz z hz, fun b hb hm => R.apart z y hz b hb (hffp b hm)⟩
  · have side : ∀ z, z ≠ y → ∀ b, b ∈ (g.hd y).ownBlock.toList ++ (fps.set I (F1 ++ (G ++ f2))).flatten → b ∉ g.fp z := fun z hz b hb hb' => by
      rcases hmemy b hb with q | q | q
      · exact R.apart y z (Ne.symm hz) b q hb'
      · exact R.apart y z (Ne.symm hz) b (hffp b q) hb'
      · have := (R.alw z b hb').2
        omega
    by_cases hz : z = y
    · subst hz
      rw [hfpy] at hb
      rw [hfpz z' (Ne.symm hzz)] at hb'
      exact side z' (Ne.symm hzz) b hb hb'
    · rw [hfpz z hz] at hb
      by_cases hz' : z' = y
      · subst hz'
        rw [hfpy] at hb'
        exact side z hz b hb' hb
      · rw [hfpz z' hz'] at hb'
        exact R.apart z z' hzz b hb hb'

theorem good_callX (R : Rel C g (s.den Φ env) a w) {f : FuncId} {args : List XSh} {rets : List RSh} (hF : FunX C.P f args rets (Φ f)) (hfn : ∃ fn, C.P.funcs[f]? = some fn ∧ fn.body ≠ none ∧ fn.name ≠ "runtime.NumGoroutine")
    {c : Call} (ho : o.op = .call c) (hc : c.callee = .value (.func f)) {r : Res} (h : fCallX C.T args rets s f c.argTypes.toList c.args.toList = some r) (hr : holds Φ env r.cs) :
    Does C a w o (r.v.den Φ env) ((s.upds r.upd).den Φ env) := by
  unfold fCallX at h
  have hfl := (bif_some h).1
  replace h := (bif_some h).2
  split at h
  · rename_i es zs hx
    obtain ⟨hnd, h⟩ := bif_some h
    simp only [Option.some.injEq] at h
    subst h
    exact good_callX_objs R hF hfn ho hc hx hnd hfl (hr _ (by simp))
  · split at h
    · rename_i t ks dp ss ty ts x xs hts hxs hnone
      split at h
      · rename_i y i j hsx
        split at h
        · rename_i t0 ks0 e0 hy
          split at h
          · rename_i k es hk hes
            obtain ⟨h1, hh⟩ := bif_some h
            clear h
            simp only [Bool.and_eq_true] at h1
            obtain ⟨rfl, h1, hok⟩ := h1
            have h2 := K.eqb_eq h1
            subst h2
            simp only [Option.some.injEq] at hh
            subst hh
            have c0 := hr (.op .ltlen [i, (arxR e0 i).1]) (by simp)
            have c1 := hr (.op (.rowlen ks0.length) [baseR 64 (arxR e0 i).2]) (by simp)
            simp only [E.den, E.dens, opD, D.asBool, decide_eq_true_eq, List.getD_cons_zero, List.getD_cons_succ] at c0 c1
            obtain ⟨x1, x2, x3⟩ := arxR_ok (Φ := Φ) (env := env) e0 i c0
            have x4 := okR_len (Φ := Φ) (env := env) 64 (arxR e0 i).2 hok c1
            have x5 := fldR_ok (Φ := Φ) (env := env) (j := j) 64 (arxR e0 i).2 hok c1
            rw [x2] at x4 x5
            refine good_callX_cell R hF hfn ho hc rfl hts hxs hsx hy hk hes hfl x5 ?_ (by rw [← x1]; exact c0) x4 (hr _ (by simp))
            rw [← x3, ← x2]
            simp only [E.den, E.dens, E.dens_map, opD, List.getD_cons_zero, List.getD_cons_succ, D.asList_sl, D.row, List.headD_cons, List.map_cons, List.length_singleton]
          · cases h
        · cases h
      · cases h
    · cases h

/-- A call of either sort. -/
def fCallA (T : TypeId → TI) (CT : Nat → Option Sig) (key : Nat) (s : SSt) (f : Nat) (ts : List TypeId) (xs : List Operand) : Option Res :=
  match CT f with
  | some sg => match sg.xs with
    | none => fCall T CT key s f ts xs
    | some l => fCallX T l sg.rets s f ts xs
  | none => none
end

end Go.Vx

/-
  Vx, part 24: objects under other names; names that are given up.
-/
namespace Go.Vx
open Go.RowKit (Below)

def AC.mapK (m : Nat → Option Nat) : AC → AC
  | .ref z p => match m z with
    | some z' => .ref z' p
    | none => .dead
  | c => c
mutual
def AV.mapK (m : Nat → Option Nat) : AV → AV
  | .one c => .one (c.mapK m)
  | .agg cs => .agg (cs.map (AC.mapK m))
  | .ptr z i j => match m z with
    | some z' => .ptr z' i j
    | none => .dead
  | .pim ks row => .pim ks row
  | .tup vs => .tup (AV.mapKs m vs)
  | .whn b v => .whn b (v.mapK m)
  | .lod z i j => match m z with
    | some z' => .lod z' i j
    | none => .dead
  | .dead => .dead
def AV.mapKs (m : Nat → Option Nat) : List AV → List AV
  | [] => []
  | v :: vs => v.mapK m :: AV.mapKs m vs
end
def Ob.mapK (m : Nat → Option Nat) : Ob → Ob
  | .box T cs => .box T (cs.map (AC.mapK m))
  | o => o

def Gh.ren (g : Gh) (n : Nat → Option Nat) : Gh :=
  ⟨fun y => match n y with | some x => g.hd x | none => undef, fun y => match n y with | some x => g.fp x | none => []⟩

section
variable {C : Cx} {g : Gh} {σ σ' : St} {a : Act} {w : World} {m n : Nat → Option Nat}

structure Ren (m n : Nat → Option Nat) (σ σ' : St) : Prop where
  mn : ∀ x y, m x = some y → n y = some x
  nm : ∀ x y, n y = some x → m x = some y
  obj : ∀ y, σ'.obj y = match n y with | some x => (σ.obj x).map (Ob.mapK m) | none => none

theorem Ob.live_mapK (o : Option Ob) : Ob.live (o.map (Ob.mapK m)) = Ob.live o := by
  cases o with
  | none => rfl
  | some o => cases o <;> rfl

theorem Ob.isX_mapK (o : Option Ob) : Ob.isX (o.map (Ob.mapK m)) = Ob.isX o := by
  cases o with
  | none => rfl
  | some o => cases o <;> rfl

theorem Ren.me (r : Ren m n σ σ') {b o : Nat} (h : Me C.M σ'.obj (g.ren n).hd (g.ren n).fp b o) : Me C.M σ.obj g.hd g.fp b o := by
  rcases h with hM | ⟨y, hl, hb⟩ | ⟨y, hl, hb⟩
  · exact .inl hM
  · rw [r.obj] at hl
    cases hn : n y with
    | none => rw [hn] at hl; simp [Ob.live] at hl
    | some x =>
      rw [hn] at hl
      simp only [Gh.ren, hn] at hb
      exact .inr (.inl ⟨x, by rw [Ob.live_mapK] at hl; exact hl, hb⟩)
  · rw [r.obj] at hl
    cases hn : n y with
    | none => rw [hn] at hl; simp [Ob.isX] at hl
    | some x =>
      rw [hn] at hl
      simp only [Gh.ren, hn] at hb
      exact .inr (.inr ⟨x, by rw [Ob.isX_mapK] at hl; exact hl, hb⟩)

theorem Ren.keeps (r : Ren m n σ σ') : Keeps w (Me C.M σ.obj g.hd g.fp) w (Me C.M σ'.obj (g.ren n).hd (g.ren n).fp) := fun _ _ _ hc hn => ⟨hc, fun h => hn (r.me h)⟩

theorem Ren.ref (r : Ren m n σ σ') {x y : Nat} (hxy : m x = some y) {p : Option (Nat × Nat)} {v : Value} (h : RefRep (sur C g σ w) x p v) : RefRep (sur C (g.ren n) σ' w) y p v := by
  have hn := r.mn x y hxy
  unfold RefRep at h ⊢
  simp only [sur, r.obj, hn] at h ⊢
  have hh : (g.ren n).hd y = g.hd x := by simp only [Gh.ren, hn]
  cases he : σ.obj x with
  | none => rw [he] at h; exact h
  | some o =>
    rw [he] at h
    cases o with
    | box T cs => exact h
    | arr e ks dp xs => simp only [Option.map_some, Ob.mapK, hh]; exact h
    | «sealed» e ks xs => exact ⟨h.1, h.2.keeps r.keeps⟩
    | gone => trivial
    | arx e ks xs => simp only [Option.map_some, Ob.mapK, hh]; exact h

theorem Ren.ptr (r : Ren m n σ σ') {x y : Nat} (hxy : m x = some y) {i j : Nat} {v : Value} (h : PtrRep (sur C g σ w) x i j v) : PtrRep (sur C (g.ren n) σ' w) y i j v := by
  have hn := r.mn x y hxy
  unfold PtrRep at h ⊢
  simp only [sur, r.obj, hn] at h ⊢
  have hh : (g.ren n).hd y = g.hd x := by simp only [Gh.ren, hn]
  cases he : σ.obj x with
  | none => rw [he] at h; exact h
  | some o =>
    rw [he] at h
    cases o with
    | box T cs => simp only [Option.map_some, Ob.mapK, hh]; exact h
    | arr e ks dp xs => simp only [Option.map_some, Ob.mapK, hh]; exact h
    | «sealed» e ks xs => trivial
    | gone => trivial
    | arx e ks xs => simp only [Option.map_some, Ob.mapK, hh]; exact h

theorem Ren.lod (r : Ren m n σ σ') {x y : Nat} (hxy : m x = some y) {i j : Nat} {v : Value} (h : LodRep (sur C g σ w) x i j v) : LodRep (sur C (g.ren n) σ' w) y i j v := by
  have hn := r.mn x y hxy
  unfold LodRep at h ⊢
  simp only [sur, r.obj, hn] at h ⊢
  have hh : (g.ren n).hd y = g.hd x := by simp only [Gh.ren, hn]
  cases he : σ.obj x with
  | none => rw [he] at h; exact h
  | some o =>
    rw [he] at h
    cases o with
    | arx e ks xs => simp only [Option.map_some, Ob.mapK, hh]; exact h
    | _ => trivial

theorem Ren.ac (r : Ren m n σ σ') : ∀ {c : AC} {v : Value}, RepAC (sur C g σ w) c v → RepAC (sur C (g.ren n) σ' w) (c.mapK m) v
  | .dat k d, v, h => RepC.keeps r.keeps h
  | .nil _ _, v, h => h
  | .ref x p, v, h => by
    simp only [AC.mapK]
    cases hm : m x with
    | none => trivial
    | some y => exact r.ref hm h
  | .dead, v, h => trivial
theorem Ren.acs (r : Ren m n σ σ') : ∀ {cs : List AC} {vs : List Value}, RepACs (sur C g σ w) cs vs → RepACs (sur C (g.ren n) σ' w) (cs.map (AC.mapK m)) vs
  | [], _, h => h
  | _ :: _, _, ⟨v, vs', e, o, h1, h2⟩ => ⟨v, vs', e, o, r.ac h1, r.acs h2⟩
mutual
theorem Ren.av (r : Ren m n σ σ') : ∀ {u : AV} {v : Value}, RepAV (sur C g σ w) u v → RepAV (sur C (g.ren n) σ' w) (u.mapK m) v
  | .one _, _, h => ⟨r.ac h.1, h.2⟩
  | .agg _, _, h => let ⟨vs, e, h⟩ := h; ⟨vs, e, r.acs h⟩
  | .ptr x i j, _, h => by
    simp only [AV.mapK]
    cases hm : m x with
    | none => trivial
    | some y => exact r.ptr hm h
  | .pim ks row, _, h => by
    obtain ⟨b, o, vs, rfl, hr, hn, hc⟩ := h
    exact ⟨b, o, vs, rfl, hr, fun j hj hme => hn j hj (r.me hme), hc.keeps r.keeps⟩
  | .tup _, _, h => let ⟨vs, e, h⟩ := h; ⟨vs, e, r.avs h⟩
  | .whn _ _, _, h => ⟨fun e => r.av (h.1 e), h.2⟩
  | .lod x i j, _, h => by
    simp only [AV.mapK]
    cases hm : m x with
    | none => trivial
    | some y => exact r.lod hm h
  | .dead, _, _ => trivial
theorem Ren.avs (r : Ren m n σ σ') : ∀ {us : List AV} {vs : List Value}, RepAVs (sur C g σ w) us vs → RepAVs (sur C (g.ren n) σ' w) (AV.mapKs m us) vs
  | [], _, h => h
  | _ :: _, _, ⟨v, vs', e, h1, h2⟩ => ⟨v, vs', e, r.av h1, r.avs h2⟩
end

/-- Objects under other names. -/
theorem Rel.ren (R : Rel C g σ a w) (r : Ren m n σ σ') (hpin : ∀ p ∈ C.pin, n p.1 = some p.1) (ht : σ'.tmps = σ.tmps.map (AV.mapK m)) : Rel C (g.ren n) σ' a w := by
  refine ⟨R.defers, R.size, by rw [ht, List.length_map]; exact R.len, fun t => ?_, fun y => ?_, fun y => ?_, fun y z hyz b hy hz => ?_, fun y b hy => ?_, R.fr, fun p hp => ?_⟩
  rotate_right
  · obtain ⟨o, ho, hx⟩ := R.pin p hp
    have hn := hpin p hp
    have hh : (g.ren n).hd p.1 = g.hd p.1 := by simp only [Gh.ren, hn]
    refine ⟨o.mapK m, by simp only [sur] at ho ⊢; rw [r.obj, hn]; simp only [ho, Option.map_some], fun e ks xs he => ?_⟩
    have ho' : o = .arx e ks xs := by cases o <;> simp only [Ob.mapK, reduceCtorEq] at he <;> exact he
    have := hx e ks xs ho'
    simp only [sur] at this ⊢
    rw [hh]
    exact this
  · have : σ'.tmp t = (σ.tmp t).mapK m := by
      unfold St.tmp
      rw [ht, List.getD_eq_getElem?_getD, List.getD_eq_getElem?_getD, List.getElem?_map]
      cases σ.tmps[t]? <;> rfl
    rw [this]
    exact r.av (R.tmps t)
  · unfold RepOb
    simp only [sur]
    cases hn : n y with
    | none =>
      have e0 : σ'.obj y = none := by rw [r.obj, hn]
      rw [e0]
      simp only [Gh.ren, hn]
    | some x =>
      have e0 : σ'.obj y = (σ.obj x).map (Ob.mapK m) := by rw [r.obj, hn]
      rw [e0]
      have hh : (g.ren n).hd y = g.hd x := by simp only [Gh.ren, hn]
      have hf : (g.ren n).fp y = g.fp x := by simp only [Gh.ren, hn]
      have h := R.objs x
      unfold RepOb at h
      simp only [sur] at h
      rw [hh, hf]
      cases he : σ.obj x with
      | none => rw [he] at h; exact h
      | some o =>
        rw [he] at h
        cases o with
        | box T cs =>
          obtain ⟨b, vs, h1, h2, h3, h4⟩ := h
          exact ⟨b, vs, h1, h2, h3, r.acs h4⟩
        | arr e ks dp xs =>
          obtain ⟨vss, fps, h1, h2, h3, h4, h5, h6⟩ := h
          refine ⟨vss, fps, h1, h2, h3, h4, h5, fun i row vs f q1 q2 q3 => ?_⟩
          have := h6 i row vs f q1 q2 q3
          split at this
          · rename_i hd; rw [if_pos hd]; exact this
          · rename_i hd; rw [if_neg hd]; exact ⟨this.1.keeps r.keeps, this.2⟩
        | «sealed» e ks xs => exact h
        | gone => exact h
        | arx e ks xs => exact h
  · cases hn : n y with
    | none => simp only [Gh.ren, hn]; exact List.nodup_nil
    | some x => simp only [Gh.ren, hn]; exact R.own x
  · cases hn : n y with
    | none => simp [Gh.ren, hn] at hy
    | some x =>
      cases hn' : n z with
      | none => simp [Gh.ren, hn'] at hz
      | some x' =>
        simp only [Gh.ren, hn] at hy
        simp only [Gh.ren, hn'] at hz
        refine R.apart x x' (fun e => ?_) b hy hz
        subst e
        have h1 := r.nm x y hn
        have h2 := r.nm x z hn'
        rw [h1] at h2
        exact hyz (Option.some.inj h2)
  · cases hn : n y with
    | none => simp [Gh.ren, hn] at hy
    | some x => simp only [Gh.ren, hn] at hy; exact R.alw x b hy
end

end Go.Vx

/-
  Vx, part 25: names are freed on closed states.
-/
namespace Go.Vx
open Go.RowKit (Below)

def SC.mapK (m : Nat → Option Nat) : SC → SC
  | .ref z p => match m z with
    | some z' => .ref z' p
    | none => .dead
  | c => c
mutual
def SV.mapK (m : Nat → Option Nat) : SV → SV
  | .one c => .one (c.mapK m)
  | .agg cs => .agg (cs.map (SC.mapK m))
  | .ptr z i j => match m z with
    | some z' => .ptr z' i j
    | none => .dead
  | .pim ks e off => .pim ks e off
  | .tup vs => .tup (SV.mapKs m vs)
  | .whn b v => .whn b (v.mapK m)
  | .lod z i j => match m z with
    | some z' => .lod z' i j
    | none => .dead
  | .dead => .dead
def SV.mapKs (m : Nat → Option Nat) : List SV → List SV
  | [] => []
  | v :: vs => v.mapK m :: SV.mapKs m vs
end
def SOb.mapK (m : Nat → Option Nat) : SOb → SOb
  | .box T cs => .box T (cs.map (SC.mapK m))
  | o => o

/-- All names d * 64 .. d * 64 + 63 are given up. -/
def killM (d : Nat) (z : Nat) : Option Nat := bif z / 64 == d then none else some z
def skill (d : Nat) : List (Nat × SOb) → List (Nat × SOb)
  | [] => []
  | (y, o) :: l => bif y / 64 == d then skill d l else (y, o.mapK (killM d)) :: skill d l
def SSt.kill (d : Nat) (s : SSt) : SSt := ⟨s.tmps.map (SV.mapK (killM d)), skill d s.objs⟩
def SSt.free (d : Nat) (s : SSt) : SSt := bif Nat.blt d 1000000 && s.objs.any fun p => p.1 / 64 == d then s.kill d else s

section
variable {Φ : Fns} {env : List D}

theorem SC.den_mapK (m : Nat → Option Nat) (c : SC) : (c.mapK m).den Φ env = (c.den Φ env).mapK m := by
  cases c with
  | ref z p => simp only [SC.mapK, SC.den, AC.mapK]; cases m z <;> rfl
  | _ => rfl
theorem SC.dens_mapK (m : Nat → Option Nat) (cs : List SC) : (cs.map (SC.mapK m)).map (SC.den Φ env) = (cs.map (SC.den Φ env)).map (AC.mapK m) := by
  simp [Function.comp_def, SC.den_mapK]
mutual
theorem SV.den_mapK (m : Nat → Option Nat) : ∀ v : SV, (v.mapK m).den Φ env = (v.den Φ env).mapK m
  | .one c => by simp only [SV.mapK, SV.den, AV.mapK, SC.den_mapK]
  | .agg cs => by simp only [SV.mapK, SV.den, AV.mapK, SC.dens_mapK]
  | .ptr z i j => by simp only [SV.mapK, SV.den, AV.mapK]; cases m z <;> rfl
  | .pim _ _ _ => rfl
  | .tup vs => by simp only [SV.mapK, SV.den, AV.mapK, SV.dens_mapK m vs]
  | .whn c v => by simp only [SV.mapK, SV.den, AV.mapK, SV.den_mapK m v]
  | .lod z i j => by simp only [SV.mapK, SV.den, AV.mapK]; cases m z <;> rfl
  | .dead => rfl
theorem SV.dens_mapK (m : Nat → Option Nat) : ∀ vs : List SV, SV.dens Φ env (SV.mapKs m vs) = AV.mapKs m (SV.dens Φ env vs)
  | [] => rfl
  | v :: vs => by simp only [SV.mapKs, SV.dens, AV.mapKs, SV.den_mapK m v, SV.dens_mapK m vs]
end
theorem SOb.den_mapK (m : Nat → Option Nat) (o : SOb) : (o.mapK m).den Φ env = (o.den Φ env).mapK m := by
  cases o with
  | box T cs => simp only [SOb.mapK, SOb.den, Ob.mapK, SC.dens_mapK]
  | _ => rfl

theorem slook_skill (d y : Nat) : ∀ l, slook y (skill d l) = match killM d y with | some _ => (slook y l).map (SOb.mapK (killM d)) | none => none
  | [] => by simp only [skill, slook]; split <;> rfl
  | (z, o) :: l => by
    have ih := slook_skill d y l
    by_cases hz : z / 64 = d
    · have h1 : (z / 64 == d) = true := by simpa using hz
      simp only [skill, h1, cond_true, ih, slook]
      by_cases hy : y = z
      · subst hy; simp [killM, h1]
      · have h2 : (y == z) = false := by simpa using hy
        simp [h2]
    · have h1 : (z / 64 == d) = false := by simpa using hz
      simp only [skill, h1, cond_false, slook]
      by_cases hy : y = z
      · subst hy; simp [killM, h1]
      · have h2 : (y == z) = false := by simpa using hy
        simp only [h2, cond_false, ih]

theorem kill_free (d : Nat) (s : SSt) {y : Nat} (h : y / 64 = d) : (s.kill d).obj y = none := by
  have := slook_skill d y s.objs
  have hk : killM d y = none := by simp [killM, h]
  rw [hk] at this
  exact this

theorem ren_kill (d : Nat) (s : SSt) : Ren (killM d) (killM d) (s.den Φ env) ((s.kill d).den Φ env) := by
  have key : ∀ x y, killM d x = some y → killM d y = some x := fun x y h => by
    unfold killM at h
    cases hx : (x / 64 == d) with
    | true => simp [hx] at h
    | false => simp [hx] at h; subst h; simp [killM, hx]
  refine ⟨key, fun x y h => key y x h, fun y => ?_⟩
  rw [SSt.den_obj, show (s.kill d).obj y = slook y (skill d s.objs) from rfl, slook_skill]
  cases hk : killM d y with
  | none => rfl
  | some x =>
    have hx : x = y := by
      unfold killM at hk
      cases hy : (y / 64 == d) with
      | true => simp [hy] at hk
      | false => simp [hy] at hk; exact hk.symm
    subst hx
    show Option.map (SOb.den Φ env) (Option.map (SOb.mapK (killM d)) (slook x s.objs)) = Option.map (Ob.mapK (killM d)) ((SSt.den Φ env s).obj x)
    rw [SSt.den_obj, show s.obj x = slook x s.objs from rfl]
    cases slook x s.objs with
    | none => rfl
    | some o => simp [SOb.den_mapK]

variable {C : Cx} {g : Gh} {s : SSt} {a : Act} {w : World}

theorem Rel.kill (R : Rel C g (s.den Φ env) a w) (d : Nat) (hd : d < 1000000) : ∃ g', Rel C g' ((s.kill d).den Φ env) a w :=
  ⟨_, R.ren (ren_kill d s) (fun p hp => by
    have := C.pinBig p hp
    have : (p.1 / 64 == d) = false := by
      simp only [beq_eq_false_iff_ne, ne_eq]
      omega
    simp [killM, this]) (by simp [SSt.den, SSt.kill, Function.comp_def, SV.den_mapK])⟩

theorem Rel.free (R : Rel C g (s.den Φ env) a w) (d : Nat) : ∃ g', Rel C g' ((s.free d).den Φ env) a w := by
  unfold SSt.free
  cases hc : Nat.blt d 1000000 && s.objs.any fun p => p.1 / 64 == d with
  | true =>
    simp only [Bool.and_eq_true] at hc
    exact R.kill d (Nat.le_of_ble_eq_true hc.1)
  | false => exact ⟨g, R⟩

theorem slook_none (x : Nat) : ∀ l : List (Nat × SOb), (l.any fun p => p.1 / 64 == x / 64) = false → slook x l = none
  | [], _ => rfl
  | (y, o) :: l, h => by
    simp only [List.any_cons, Bool.or_eq_false_iff, beq_eq_false_iff_ne, ne_eq] at h
    have : (x == y) = false := by
      simp only [beq_eq_false_iff_ne, ne_eq]
      intro e; subst e; exact h.1 rfl
    simp only [slook, this, cond_false]
    exact slook_none x l h.2

theorem free_free (d : Nat) (s : SSt) (hd : d < 1000000) {y : Nat} (h : y / 64 = d) : (s.free d).obj y = none := by
  unfold SSt.free
  have hb : Nat.blt d 1000000 = true := Nat.ble_eq_true_of_le hd
  rw [hb, Bool.true_and]
  cases hc : s.objs.any fun p => p.1 / 64 == d with
  | true => exact kill_free d s h
  | false => subst h; exact slook_none y s.objs hc
end

end Go.Vx

/-
  Vx, part 26: one operation of a region, with its guard.
-/
namespace Go.Vx
open Go.RowKit (Below)

def strip (cs : List E) (v : SV) : SV := bif v.conds.all fun c => cs.any (E.eqb c) then v.core else v
def SSt.strip (cs : List E) (s : SSt) : SSt := ⟨s.tmps.map (Vx.strip cs), s.objs⟩
def wrap : List E → SV → SV
  | [], v => v
  | c :: cs, v => .whn c (wrap cs v)
def gimp : List E → E → E
  | [], e => e
  | c :: cs, e => .op .ite [c, gimp cs e, .bool true]

def guardCs (s : SSt) (ops : Array Oper) (o : Oper) : Option (List E) := match o.guard with
  | none => some []
  | some (j, want) => match (ops[j]?).bind (·.dst) with
    | some t => match (s.tmp t).core with
      | .one (.dat .bool c) => some ((s.tmp t).conds ++ [bif want then c else .op .not [c]])
      | _ => none
    | none => none

/-- Any operation. -/
def fOp (T : TypeId → TI) (CT : Nat → Option Sig) (key : Nat) (s : SSt) (o : Oper) : Option Res := match o.op with
  | .call c => match c.callee with
    | .value (.func f) => fCallA T CT key s f c.argTypes.toList c.args.toList
    | _ => opF T key s o
  | _ => opF T key s o

section
variable {Φ : Fns} {env : List D} {C : Cx} {g : Gh} {s : SSt} {a : Act} {w : World} {o : Oper} {key : Nat}

/-- What is told of the functions that are called. -/
def Told (P : Program) (Φ : Fns) (CT : Nat → Option Sig) : Prop :=
  ∀ f sg, CT f = some sg → (sg.xs = none → FunR P f sg.args sg.rets (Φ f)) ∧ (∀ l, sg.xs = some l → FunX P f l sg.rets (Φ f)) ∧ ∃ fn, P.funcs[f]? = some fn ∧ fn.body ≠ none ∧ fn.name ≠ "runtime.NumGoroutine"

theorem good_fOp (R : Rel C g (s.den Φ env) a w) {CT : Nat → Option Sig} (hCT : Told C.P Φ CT) (hkey : s.obj key = none) {r : Res} (h : fOp C.T CT key s o = some r) (hr : holds Φ env r.cs) :
    Does C a w o (r.v.den Φ env) ((s.upds r.upd).den Φ env) := by
  unfold fOp at h
  split at h
  · rename_i c ho
    split at h
    · rename_i f hc
      unfold fCallA at h
      split at h
      · rename_i sg hsg
        split at h
        · rename_i hx
          exact good_call R (fun sg' hsg' => by
            have q := hCT f sg' hsg'
            rw [hsg] at hsg'
            simp only [Option.some.injEq] at hsg'
            subst hsg'
            exact ⟨q.1 hx, q.2.2⟩) ho hc h hr
        · rename_i l hx
          obtain ⟨_, q2, q3⟩ := hCT f sg hsg
          exact good_callX R (q2 l hx) q3 ho hc h hr
      · cases h
    · exact (good_op R hkey h hr).does
  · exact (good_op R hkey h hr).does

theorem Rel.retmps {σ σ' : St} (R : Rel C g σ a w) (ho : σ'.objs = σ.objs) (hl : σ'.tmps.length = σ.tmps.length) (ht : ∀ t v, RepAV (sur C g σ w) (σ.tmp t) v → RepAV (sur C g σ w) (σ'.tmp t) v) : Rel C g σ' a w := by
  have hob : ∀ x, σ'.obj x = σ.obj x := fun x => by unfold St.obj; rw [ho]
  have hs := sur_eq (C := C) (g := g) (w := w) hob
  exact ⟨R.defers, R.size, by rw [hl]; exact R.len, fun t => by rw [hs]; exact ht t _ (R.tmps t), fun x => by rw [hs]; exact R.objs x, R.own, R.apart, R.alw, R.fr, by rw [hs]; exact R.pin⟩

theorem strip_den {cs : List E} (hcs : holds Φ env cs) (v : SV) {S : Sur} {x : Value} : RepAV S (v.den Φ env) x ↔ RepAV S ((strip cs v).den Φ env) x := by
  unfold strip
  cases hc : v.conds.all fun c => cs.any (E.eqb c) with
  | false => rfl
  | true =>
    have hall : ∀ b ∈ (v.den Φ env).conds, b = true := fun b hb => by
      rw [SV.den_conds, List.mem_map] at hb
      obtain ⟨c, hm, rfl⟩ := hb
      have := List.all_eq_true.1 hc c hm
      obtain ⟨c', hm', he⟩ := List.any_eq_true.1 this
      rw [E.eqb_eq he]
      exact hcs c' hm'
    show _ ↔ RepAV S (v.core.den Φ env) x
    rw [SV.den_core]
    exact ⟨fun h => h.core hall, fun h => RepAV.uncore h hall⟩

theorem strip_tmp (cs : List E) (s : SSt) (t : Nat) : (s.strip cs).tmp t = strip cs (s.tmp t) := by
  unfold SSt.tmp SSt.strip
  simp only [List.getD_eq_getElem?_getD, List.getElem?_map]
  cases s.tmps[t]? <;> rfl

theorem Rel.strip (R : Rel C g (s.den Φ env) a w) {cs : List E} (hcs : holds Φ env cs) : Rel C g ((s.strip cs).den Φ env) a w :=
  R.retmps rfl (by simp [SSt.den, SSt.strip]) fun t v h => by
    rw [SSt.den_tmp] at h ⊢
    rw [strip_tmp]
    exact (strip_den hcs _).1 h
theorem Rel.unstrip {cs : List E} (R : Rel C g ((s.strip cs).den Φ env) a w) (hcs : holds Φ env cs) : Rel C g (s.den Φ env) a w :=
  R.retmps rfl (by simp [SSt.den, SSt.strip]) fun t v h => by
    rw [SSt.den_tmp] at h ⊢
    rw [strip_tmp] at h
    exact (strip_den hcs _).2 h

theorem gimp_den (cs : List E) (e : E) (h : ((gimp cs e).den Φ env).asBool = true) (hcs : holds Φ env cs) : (e.den Φ env).asBool = true := by
  induction cs with
  | nil => exact h
  | cons c cs ih =>
    have hc := hcs c (by simp)
    refine ih ?_ fun x hx => hcs x (by simp [hx])
    simpa [gimp, E.den, E.dens, opD, hc] using h

theorem wrap_rep {S : Sur} {v : SV} {x : Value} : ∀ {cs : List E}, (holds Φ env cs → RepAV S (v.den Φ env) x) → (¬ holds Φ env cs → x = undef) → RepAV S ((wrap cs v).den Φ env) x
  | [], h, _ => h fun _ hc => by simp at hc
  | c :: cs, h, h' => by
    refine ⟨fun hc => wrap_rep (cs := cs) (fun hs => h fun e he => ?_) (fun hs => h' fun ha => hs fun e he => ha e (by simp [he])), fun hc => h' fun ha => ?_⟩
    · rcases List.mem_cons.1 he with rfl | he
      · exact hc
      · exact hs e he
    · have := ha c (by simp)
      rw [hc] at this
      cases this

theorem wrap_undef {S : Sur} {v : SV} {cs : List E} (h : ¬ holds Φ env cs) : RepAV S ((wrap cs v).den Φ env) undef := wrap_rep (fun hs => absurd hs h) fun _ => rfl

/-- What guards an operation is what its conditions say. -/
theorem whn_false {S : Sur} : ∀ {v : SV} {x : Value}, RepAV S (v.den Φ env) x → ¬ holds Φ env v.conds → x = undef
  | .whn c v, x, h, hn => by
    by_cases hc : (c.den Φ env).asBool = true
    · exact whn_false (v := v) (h.1 hc) fun hs => hn fun e he => by
        simp only [SV.conds, List.mem_cons] at he
        rcases he with rfl | he
        · exact hc
        · exact hs e he
    · exact h.2 (by simpa using hc)
  | .one _, _, _, hn => absurd (fun _ hc => by simp [SV.conds] at hc) hn
  | .agg _, _, _, hn => absurd (fun _ hc => by simp [SV.conds] at hc) hn
  | .ptr _ _ _, _, _, hn => absurd (fun _ hc => by simp [SV.conds] at hc) hn
  | .pim _ _ _, _, _, hn => absurd (fun _ hc => by simp [SV.conds] at hc) hn
  | .tup _, _, _, hn => absurd (fun _ hc => by simp [SV.conds] at hc) hn
  | .lod _ _ _, _, _, hn => absurd (fun _ hc => by simp [SV.conds] at hc) hn
  | .dead, _, _, hn => absurd (fun _ hc => by simp [SV.conds] at hc) hn

theorem guard_wanted (R : Rel C g (s.den Φ env) a w) {ops : Array Oper} {cs : List E} (h : guardCs s ops o = some cs) : Region.wanted o (yielded ops a.tmps) = true ↔ holds Φ env cs := by
  unfold guardCs at h
  unfold Region.wanted
  split at h
  · rename_i hg
    simp only [Option.some.injEq] at h
    subst h
    rw [hg]
    exact ⟨fun _ _ hc => by simp at hc, fun _ => rfl⟩
  · rename_i j want hg
    rw [hg]
    split at h
    · rename_i t ht
      split at h
      · rename_i c hcore
        simp only [Option.some.injEq] at h
        subst h
        have hr := R.tmps t
        rw [SSt.den_tmp] at hr
        have hget : ∀ b : Bool, a.tmps.getD t undef = .bool b → a.tmps[t]? = some (.bool b) := fun b hb => by
          rw [Array.getD_eq_getD_getElem?] at hb
          cases ha : a.tmps[t]? with
          | none => rw [ha] at hb; simp [undef] at hb
          | some x => rw [ha] at hb; exact congrArg some hb
        simp only [yielded, ht, Option.bind_some, beq_iff_eq]
        by_cases hall : holds Φ env (s.tmp t).conds
        · have hv : a.tmps.getD t undef = .bool (c.den Φ env).asBool := by
            have := hr.core (fun b hb => by
              rw [SV.den_conds, List.mem_map] at hb
              obtain ⟨e, he, rfl⟩ := hb
              exact hall e he)
            rw [← SV.den_core, hcore] at this
            exact this.1
          rw [hget _ hv]
          simp only [Option.some.injEq]
          constructor
          · intro hb e he
            rcases List.mem_append.1 he with he | he
            · exact hall e he
            · simp only [List.mem_singleton] at he
              subst he
              cases want with
              | true => exact hb
              | false => simp only [cond_false, E.den, E.dens, opD, D.asBool, List.getD_cons_zero]; simp only [D.asBool] at hb; rw [hb]; rfl
          · intro hh
            have := hh _ (List.mem_append.2 (.inr (List.mem_singleton.2 rfl)))
            cases want with
            | true => exact this
            | false => simpa [E.den, E.dens, opD, D.asBool] using this
        · have hu := whn_false hr hall
          constructor
          · intro hb
            exfalso
            rw [Array.getD_eq_getD_getElem?] at hu
            cases ha : a.tmps[t]? with
            | none => rw [ha] at hb; simp at hb
            | some x =>
              rw [ha] at hu hb
              simp only [Option.getD_some] at hu
              rw [hu] at hb
              simp [undef] at hb
          · intro hh
            exact absurd (fun e he => hh e (List.mem_append.2 (.inl he))) hall
      · cases h
    · cases h
end

end Go.Vx

/-
  Vx, part 27: the operations of a region, one after the other.
-/
namespace Go.Vx
open Go.RowKit (Below)

def sstep (T : TypeId → TI) (CT : Nat → Option Sig) (ops : Array Oper) (s : SSt) (o : Oper) : Option (List E × SSt) :=
  match o.dst with
  | some d => bif Nat.blt d s.tmps.length && Nat.blt d 1000000 then match guardCs (s.free d) ops o with
    | some [] => match fOp T CT (d * 64) (s.free d) o with
      | some r => some (r.cs, ((s.free d).upds r.upd).setT d r.v)
      | none => none
    | some (c :: cs) => match fOp T CT (d * 64) ((s.free d).strip (c :: cs)) o with
      | some r => bif r.upd.isEmpty then some (r.cs.map (gimp (c :: cs)), (s.free d).setT d (wrap (c :: cs) r.v)) else none
      | none => none
    | none => none
    else none
  | none => match o.guard with
    | none => match fOp T CT 6400000 (s.free 100000) o with
      | some r => some (r.cs, (s.free 100000).upds r.upd)
      | none => none
    | some _ => none

def srun (T : TypeId → TI) (CT : Nat → Option Sig) (ops : Array Oper) : List Nat → SSt → Option (List E × SSt)
  | [], s => some ([], s)
  | i :: l, s => match ops[i]? with
    | some o => match sstep T CT ops s o with
      | some (cs, s1) => match srun T CT ops l s1 with
        | some (cs', s2) => some (cs ++ cs', s2)
        | none => none
      | none => none
    | none => none

section
variable {Φ : Fns} {env : List D} {C : Cx} {g : Gh} {s : SSt} {a : Act} {w : World} {o : Oper}

theorem free_len (d : Nat) (s : SSt) : (s.free d).tmps.length = s.tmps.length := by
  unfold SSt.free
  cases Nat.blt d 1000000 && s.objs.any fun p => p.1 / 64 == d <;> simp [SSt.kill]

theorem Rel.slen (R : Rel C g (s.den Φ env) a w) : s.tmps.length = C.n := by
  have := R.len
  simpa [SSt.den] using this

theorem sstep_sound (R : Rel C g (s.den Φ env) a w) {CT : Nat → Option Sig} (hCT : Told C.P Φ CT) {ops : Array Oper} {cs : List E} {s' : SSt} (h : sstep C.T CT ops s o = some (cs, s')) (hc : holds Φ env cs)
    (next : Act → World → Prop) (Q : Exit → Act → World → Prop) (hn : ∀ a' w' g', Rel C g' (s'.den Φ env) a' w' → next a' w') :
    if Region.wanted o (yielded ops a.tmps) = true then o.wp C.P a w next Q else next (a.put o.dst undef) w := by
  unfold sstep at h
  split at h
  · rename_i d hd
    obtain ⟨h1, h2⟩ := bif_some h
    clear h
    simp only [Bool.and_eq_true] at h1
    have hdn : d < C.n := by rw [← R.slen]; exact Nat.le_of_ble_eq_true h1.1
    obtain ⟨g1, R1⟩ := R.free d
    have hkey : (s.free d).obj (d * 64) = none := free_free d s (Nat.le_of_ble_eq_true h1.2) (by omega)
    split at h2
    · rename_i hg
      have hw := (guard_wanted R1 hg).2 (fun _ hc => by simp at hc)
      rw [if_pos hw]
      split at h2
      · rename_i r hr
        simp only [Option.some.injEq, Prod.mk.injEq] at h2
        obtain ⟨rfl, rfl⟩ := h2
        refine good_fOp R1 hCT hkey hr hc next Q fun v w' g' hv R' => hn _ _ g' ?_
        rw [SSt.den_setT, hd]
        exact R'.put hdn hv
      · cases h2
    · rename_i c cs0 hg
      split at h2
      · rename_i r hr
        obtain ⟨h3, h4⟩ := bif_some h2
        clear h2
        simp only [Option.some.injEq, Prod.mk.injEq] at h4
        obtain ⟨rfl, rfl⟩ := h4
        have hupd : r.upd = [] := by simpa using h3
        have hwi := guard_wanted R1 hg
        by_cases hall : holds Φ env (c :: cs0)
        · rw [if_pos (hwi.2 hall)]
          have hkey' : ((s.free d).strip (c :: cs0)).obj (d * 64) = none := hkey
          refine good_fOp (R1.strip hall) hCT hkey' hr (fun e he => gimp_den _ _ (hc _ (List.mem_map.2 ⟨e, he, rfl⟩)) hall) next Q fun v w' g' hv R' => hn _ _ g' ?_
          rw [hupd] at hv R'
          have R2 := Rel.unstrip (s := s.free d) (cs := c :: cs0) R' hall
          rw [SSt.den_setT, hd]
          exact R2.put hdn (wrap_rep (fun _ => hv) fun hno => absurd hall hno)
        · rw [if_neg fun hq => hall (hwi.1 hq)]
          refine hn _ _ g1 ?_
          rw [SSt.den_setT, hd]
          exact R1.put hdn (wrap_undef hall)
      · cases h2
    · cases h2
  · rename_i hd
    split at h
    · rename_i hg
      have hw : Region.wanted o (yielded ops a.tmps) = true := by unfold Region.wanted; rw [hg]
      rw [if_pos hw]
      obtain ⟨g1, R1⟩ := R.free 100000
      have hkey : (s.free 100000).obj 6400000 = none := free_free 100000 s (by decide) (by decide)
      split at h
      · rename_i r hr
        simp only [Option.some.injEq, Prod.mk.injEq] at h
        obtain ⟨rfl, rfl⟩ := h
        refine good_fOp R1 hCT hkey hr hc next Q fun v w' g' hv R' => hn _ _ g' ?_
        rw [hd]
        exact R'
      · cases h
    · cases h

theorem srun_sound {CT : Nat → Option Sig} (hCT : Told C.P Φ CT) {ops : Array Oper} {Q : Exit → Act → World → Prop} : ∀ (l : List Nat) {g : Gh} {s : SSt} {a : Act} {w : World} {cs : List E} {s' : SSt}, Rel C g (s.den Φ env) a w →
    srun C.T CT ops l s = some (cs, s') → holds Φ env cs → (∀ a' w' g', Rel C g' (s'.den Φ env) a' w' → Q .normal a' w') → wpOps C.P ops Q l a w
  | [], g, s, a, w, cs, s', R, h, hc, hQ => by
    simp only [srun, Option.some.injEq, Prod.mk.injEq] at h
    obtain ⟨rfl, rfl⟩ := h
    exact hQ _ _ g R
  | i :: l, g, s, a, w, cs, s', R, h, hc, hQ => by
    simp only [srun] at h
    split at h
    · rename_i o ho
      split at h
      · rename_i cs1 s1 h1
        split at h
        · rename_i cs2 s2 h2
          simp only [Option.some.injEq, Prod.mk.injEq] at h
          obtain ⟨rfl, rfl⟩ := h
          have := sstep_sound R hCT h1 (fun e he => hc e (List.mem_append.2 (.inl he))) (wpOps C.P ops Q l) Q (fun a' w' g' R' => srun_sound hCT l R' h2 (fun e he => hc e (List.mem_append.2 (.inr he))) hQ)
          simp only [wpOps, ho]
          split at this
          · rename_i hw; rw [if_pos hw]; exact .inl this
          · rename_i hw; rw [if_neg hw]; exact this
        · cases h
      · cases h
    · cases h

/-- A region that is run as it is written. -/
theorem region_sound {CT : Nat → Option Sig} (hCT : Told C.P Φ CT) {ops : Array Oper} {id : Nat} {Q : Exit → Act → World → Prop} {cs : List E} {s' : SSt} (R : Rel C g (s.den Φ env) a w)
    (h : srun C.T CT ops (List.range ops.size) s = some (cs, s')) (hc : holds Φ env cs) (hQ : ∀ a' w' g', Rel C g' (s'.den Φ env) a' w' → Q .normal a' w') : (Code.region id ops false).wp C.P Q a w :=
  wp_region (srun_sound hCT _ R h hc hQ)
end

end Go.Vx

/-
  Vx, part 28: an operation hangs on its operands and on the objects alone.
-/
namespace Go.Vx
open Go.RowKit (Below)

/-- Two states that an operand, and all objects, do not tell apart. -/
def Alike (τ s : SSt) (x : Operand) : Prop := ∀ t, x = .tmp t → τ.tmp t = s.tmp t

section
variable {T : TypeId → TI} {CT : Nat → Option Sig} {τ s : SSt} {key : Nat}

theorem Alike.sev {x : Operand} (h : Alike τ s x) (ty : TypeId) : sev T ty τ x = sev T ty s x := by
  cases x with
  | tmp t => exact h t rfl
  | _ => rfl

theorem fLoad_loc (ho : ∀ y, τ.obj y = s.obj y) {t : TypeId} {x : Operand} (h : Alike τ s x) : fLoad T τ t x = fLoad T s t x := by
  unfold fLoad; simp only [h.sev, ho]
theorem fFieldAddr_loc (ho : ∀ y, τ.obj y = s.obj y) {t : TypeId} {x : Operand} {f : Nat} (h : Alike τ s x) : fFieldAddr T τ t x f = fFieldAddr T s t x f := by
  unfold fFieldAddr; simp only [h.sev, ho]
theorem fIndexAddr_loc (ho : ∀ y, τ.obj y = s.obj y) {t : TypeId} {x y : Operand} (h : Alike τ s x) (h' : Alike τ s y) : fIndexAddr T τ t x y = fIndexAddr T s t x y := by
  unfold fIndexAddr; simp only [h.sev, h'.sev, ho]
theorem fBin_loc {op : BinOp} {t u : TypeId} {x y : Operand} (h : Alike τ s x) (h' : Alike τ s y) : fBin T τ op t x y u = fBin T s op t x y u := by
  unfold fBin; simp only [h.sev, h'.sev]
theorem fEq_loc {op : BinOp} {t u : TypeId} {x y : Operand} (h : Alike τ s x) (h' : Alike τ s y) : fEq T τ op t x y u = fEq T s op t x y u := by
  unfold fEq; simp only [h.sev, h'.sev]
theorem fUn_loc {op : UnOp} {t : TypeId} {x : Operand} (h : Alike τ s x) : fUn T τ op t x = fUn T s op t x := by
  unfold fUn; simp only [h.sev]
theorem fConv_loc {st t : TypeId} {x : Operand} (h : Alike τ s x) : fConv T τ st t x = fConv T s st t x := by
  unfold fConv; simp only [h.sev]
theorem ssrc_loc (ho : ∀ y, τ.obj y = s.obj y) {t : TypeId} {ks : List K} {x : Operand} (h : Alike τ s x) : ssrc T τ t ks x = ssrc T s t ks x := by
  unfold ssrc; simp only [h.sev, ho]
theorem fBytes_loc (ho : ∀ y, τ.obj y = s.obj y) {st t : TypeId} {x : Operand} (h : Alike τ s x) : fBytes T τ st t x = fBytes T s st t x := by
  unfold fBytes; simp only [ssrc_loc ho h]
theorem fIndex_loc {t : TypeId} {x y : Operand} (h : Alike τ s x) (h' : Alike τ s y) : fIndex T τ t x y = fIndex T s t x y := by
  unfold fIndex; simp only [h.sev, h'.sev]
theorem fPick_loc {ty : TypeId} {c x y : Operand} (h0 : Alike τ s c) (h : Alike τ s x) (h' : Alike τ s y) : fPick T τ ty c x y = fPick T s ty c x y := by
  unfold fPick; simp only [h0.sev, h.sev, h'.sev]
theorem fLen_loc (ho : ∀ y, τ.obj y = s.obj y) {t : TypeId} {x : Operand} (h : Alike τ s x) : fLen T τ t x = fLen T s t x := by
  unfold fLen; simp only [h.sev, ho]
theorem sbnd_loc {d : E} {x : Option Operand} (h : ∀ y, x = some y → Alike τ s y) : sbnd T τ d x = sbnd T s d x := by
  cases x with
  | none => rfl
  | some y => simp only [sbnd, (h y rfl).sev]
theorem fSlice_loc (ho : ∀ y, τ.obj y = s.obj y) {t : TypeId} {x : Operand} {lo hi : Option Operand} (h : Alike τ s x) (hl : ∀ y, lo = some y → Alike τ s y) (hh : ∀ y, hi = some y → Alike τ s y) : fSlice T τ t x lo hi = fSlice T s t x lo hi := by
  unfold fSlice; simp only [h.sev, ho, sbnd_loc hl, sbnd_loc hh]
theorem fExtract_loc {x : Operand} {i : Nat} (h : Alike τ s x) : fExtract T τ x i = fExtract T s x i := by
  unfold fExtract; simp only [h.sev]
theorem fField_loc {t : TypeId} {x : Operand} {f : Nat} (h : Alike τ s x) : fField T τ t x f = fField T s t x f := by
  unfold fField; simp only [h.sev]
theorem fNilCheck_loc (ho : ∀ y, τ.obj y = s.obj y) {x : Operand} (h : Alike τ s x) : fNilCheck T τ x = fNilCheck T s x := by
  unfold fNilCheck; simp only [h.sev, ho]

theorem sargC_loc (ho : ∀ y, τ.obj y = s.obj y) (k : K) (c : SC) : sargC τ k c = sargC s k c := by
  cases c <;> simp only [sargC, ho]
theorem sargCs_loc (ho : ∀ y, τ.obj y = s.obj y) : ∀ (ks : List K) (cs : List SC), sargCs τ ks cs = sargCs s ks cs
  | [], [] => rfl
  | [], _ :: _ => rfl
  | _ :: _, [] => rfl
  | k :: ks, c :: cs => by simp only [sargCs, sargC_loc ho, sargCs_loc ho ks cs]
theorem sarg_loc (ho : ∀ y, τ.obj y = s.obj y) {ty : TypeId} {x : Operand} (h : Alike τ s x) (sh : ASh) : sarg T τ ty x sh = sarg T s ty x sh := by
  cases sh <;> simp only [sarg, h.sev, sargC_loc ho, sargCs_loc ho]
theorem sargs_loc (ho : ∀ y, τ.obj y = s.obj y) : ∀ (hs : List ASh) (ts : List TypeId) (xs : List Operand), (∀ x ∈ xs, Alike τ s x) → sargs T τ hs ts xs = sargs T s hs ts xs
  | [], [], [], _ => rfl
  | h :: hs, t :: ts, x :: xs, hx => by
    simp only [sargs, sarg_loc ho (hx x (by simp)), sargs_loc ho hs ts xs fun y hy => hx y (by simp [hy])]
  | [], [], _ :: _, _ => rfl
  | [], _ :: _, _, _ => rfl
  | _ :: _, [], _, _ => rfl
  | _ :: _, _ :: _, [], _ => rfl
theorem fCall_loc (ho : ∀ y, τ.obj y = s.obj y) {f : Nat} {ts : List TypeId} {xs : List Operand} (h : ∀ x ∈ xs, Alike τ s x) : fCall T CT key τ f ts xs = fCall T CT key s f ts xs := by
  unfold fCall
  simp only [sargs_loc ho _ _ _ h, ho]

theorem xcell_loc (ho : ∀ y, τ.obj y = s.obj y) (c : RC) (x : SC) : xcell τ c x = xcell s c x := by
  cases c with
  | im k => simp only [xcell, sargC_loc ho]
  | own t ks dp =>
    cases x with
    | ref z p => cases p <;> simp only [xcell, ho]
    | _ => rfl
theorem xcells_loc (ho : ∀ y, τ.obj y = s.obj y) : ∀ (cs : List RC) (xs : List SC), xcells τ cs xs = xcells s cs xs
  | [], [] => rfl
  | [], _ :: _ => rfl
  | _ :: _, [] => rfl
  | c :: cs, x :: xs => by simp only [xcells, xcell_loc ho, xcells_loc ho cs xs]
theorem xarg_loc (ho : ∀ y, τ.obj y = s.obj y) {ty : TypeId} {x : Operand} (h : Alike τ s x) (sh : XSh) : xarg T τ ty x sh = xarg T s ty x sh := by
  cases sh <;> simp only [xarg, h.sev, sarg_loc ho h, xcell_loc ho, xcells_loc ho]
theorem xargs_loc (ho : ∀ y, τ.obj y = s.obj y) : ∀ (hs : List XSh) (ts : List TypeId) (xs : List Operand), (∀ x ∈ xs, Alike τ s x) → xargs T τ hs ts xs = xargs T s hs ts xs
  | [], [], [], _ => rfl
  | h :: hs, t :: ts, x :: xs, hx => by
    simp only [xargs, xarg_loc ho (hx x (by simp)), xargs_loc ho hs ts xs fun y hy => hx y (by simp [hy])]
  | [], [], _ :: _, _ => rfl
  | [], _ :: _, _, _ => rfl
  | _ :: _, [], _, _ => rfl
  | _ :: _, _ :: _, [], _ => rfl
theorem fCallX_loc (ho : ∀ y, τ.obj y = s.obj y) {args : List XSh} {rets : List RSh} {f : Nat} {ts : List TypeId} {xs : List Operand} (h : ∀ x ∈ xs, Alike τ s x) : fCallX T args rets τ f ts xs = fCallX T args rets s f ts xs := by
  unfold fCallX
  rw [xargs_loc ho _ _ _ h]
  cases xargs T s args ts xs with
  | some q => rfl
  | none =>
    rcases args with _ | ⟨a, args⟩
    · rfl
    · rcases ts with _ | ⟨ty, ts⟩
      · cases a with
        | one c => cases c <;> rfl
        | _ => rfl
      · rcases xs with _ | ⟨x, xs⟩
        · cases a with
          | one c => cases c <;> rfl
          | _ => rfl
        · have h1 := xargs_loc (T := T) ho args ts xs fun y hy => h y (by simp [hy])
          have h2 := (h x (by simp)).sev (T := T) ty
          cases a with
          | one c =>
            cases c with
            | own t ks dp => simp only [h1, h2, ho]
            | _ => rfl
          | _ => rfl
theorem fCallA_loc (ho : ∀ y, τ.obj y = s.obj y) {f : Nat} {ts : List TypeId} {xs : List Operand} (h : ∀ x ∈ xs, Alike τ s x) : fCallA T CT key τ f ts xs = fCallA T CT key s f ts xs := by
  unfold fCallA
  cases CT f with
  | none => rfl
  | some sg =>
    simp only
    rw [fCall_loc ho h]
    cases sg.xs with
    | none => rfl
    | some l => exact fCallX_loc ho h

/-- Operations that change no object. -/
def quietOp (o : Oper) : Bool := match o.op with
  | .move _ | .assign _ | .load .. | .fieldAddr .. | .indexAddr .. | .binOp .. | .unOp .. | .convert .. | .index .. | .pick .. | .extract .. | .field .. | .nilCheck _ => true
  | .slice _ _ _ _ none => true
  | .call c => match c.callee with
    | .value (.func _) => true
    | .builtin .len => true
    | _ => false
  | _ => false

theorem fOp_loc (ho : ∀ y, τ.obj y = s.obj y) {o : Oper} (hq : quietOp o = true) (h : ∀ x ∈ o.op.operands.toList, Alike τ s x) : fOp T CT key τ o = fOp T CT key s o := by
  obtain ⟨dst, op, type, pos, after, guard⟩ := o
  cases op with
  | move x => simp only [fOp, opF, (h x (by simp [Op.operands])).sev]
  | assign x => simp only [fOp, opF, (h x (by simp [Op.operands])).sev]
  | load t x => exact fLoad_loc ho (h x (by simp [Op.operands]))
  | fieldAddr t x f => exact fFieldAddr_loc ho (h x (by simp [Op.operands]))
  | indexAddr t x y => exact fIndexAddr_loc ho (h x (by simp [Op.operands])) (h y (by simp [Op.operands]))
  | binOp op t x y u => simp only [fOp, opF, fBin_loc (op := op) (t := t) (u := u) (h x (by simp [Op.operands])) (h y (by simp [Op.operands])), fEq_loc (op := op) (t := t) (u := u) (h x (by simp [Op.operands])) (h y (by simp [Op.operands]))]
  | unOp op t x => exact fUn_loc (h x (by simp [Op.operands]))
  | convert st t x => simp only [fOp, opF, fConv_loc (st := st) (t := t) (h x (by simp [Op.operands])), fBytes_loc (st := st) (t := t) ho (h x (by simp [Op.operands]))]
  | index t x y => exact fIndex_loc (h x (by simp [Op.operands])) (h y (by simp [Op.operands]))
  | pick c x y => exact fPick_loc (h c (by simp [Op.operands])) (h x (by simp [Op.operands])) (h y (by simp [Op.operands]))
  | extract x i => exact fExtract_loc (h x (by simp [Op.operands]))
  | field t x f => exact fField_loc (h x (by simp [Op.operands]))
  | nilCheck x => exact fNilCheck_loc ho (h x (by simp [Op.operands]))
  | slice t x lo hi m =>
    cases m with
    | none => exact fSlice_loc ho (h x (by simp [Op.operands])) (fun y hy => h y (by simp [Op.operands, hy])) (fun y hy => h y (by simp [Op.operands, hy]))
    | some m => simp [quietOp] at hq
  | call c =>
    obtain ⟨callee, args, argTypes⟩ := c
    cases callee with
    | value f =>
      cases f with
      | func f => exact fCallA_loc ho fun x hx => h x (by simp [Op.operands, Call.operands, Array.mem_toList_iff.1 hx])
      | _ => simp [quietOp] at hq
    | builtin b =>
      cases b with
      | len =>
        simp only [fOp, opF]
        split
        · rename_i x t _ hx _
          exact fLen_loc ho (h x (by simp [Op.operands, Call.operands, ← Array.mem_toList_iff, hx]))
        · rename_i hb _ _; cases hb
        · rfl
      | _ => simp [quietOp] at hq
    | invoke _ _ => simp [quietOp] at hq
  | _ => simp [quietOp] at hq
end

end Go.Vx

/-
  Vx, part 29: one quiet operation, in whatever order.
-/
namespace Go.Vx
open Go.RowKit (Below)

def qstep (T : TypeId → TI) (CT : Nat → Option Sig) (ops : Array Oper) (s : SSt) (o : Oper) : Option (Nat × List E × SV) :=
  match o.dst, guardCs s ops o with
  | some d, some cs => bif quietOp o && Nat.blt d s.tmps.length then match fOp T CT (d * 64) (s.strip cs) o with
    | some r => bif r.upd.isEmpty then some (d, r.cs.map (gimp cs), wrap cs r.v) else none
    | none => none
    else none
  | _, _ => none

section
variable {Φ : Fns} {env : List D} {C : Cx} {g : Gh} {s τ : SSt} {a : Act} {w : World} {o : Oper}

theorem qstep_sound (R : Rel C g (s.den Φ env) a w) {CT : Nat → Option Sig} (hCT : Told C.P Φ CT) {ops : Array Oper} {d : Nat} {cs : List E} {v : SV} (h : qstep C.T CT ops s o = some (d, cs, v)) (hkey : s.obj (d * 64) = none)
    (hc : holds Φ env cs) (next : Act → World → Prop) (Q : Exit → Act → World → Prop) (hn : ∀ a' w' g', Rel C g' ((s.setT d v).den Φ env) a' w' → next a' w') :
    if Region.wanted o (yielded ops a.tmps) = true then o.wp C.P a w next Q else next (a.put o.dst undef) w := by
  unfold qstep at h
  split at h
  · rename_i d' cs0 hd hg
    obtain ⟨h1, h2⟩ := bif_some h
    clear h
    simp only [Bool.and_eq_true] at h1
    split at h2
    · rename_i r hr
      obtain ⟨h3, h4⟩ := bif_some h2
      clear h2
      simp only [Option.some.injEq, Prod.mk.injEq] at h4
      obtain ⟨rfl, rfl, rfl⟩ := h4
      have hdn : d' < C.n := by rw [← R.slen]; exact Nat.le_of_ble_eq_true h1.2
      have hupd : r.upd = [] := by simpa using h3
      have hwi := guard_wanted R hg
      by_cases hall : holds Φ env cs0
      · rw [if_pos (hwi.2 hall)]
        have hkey' : (s.strip cs0).obj (d' * 64) = none := hkey
        refine good_fOp (R.strip hall) hCT hkey' hr (fun e he => gimp_den _ _ (hc _ (List.mem_map.2 ⟨e, he, rfl⟩)) hall) next Q fun x w' g' hv R' => hn _ _ g' ?_
        rw [hupd] at hv R'
        have R2 := Rel.unstrip (s := s) (cs := cs0) R' hall
        rw [SSt.den_setT, hd]
        exact R2.put hdn (wrap_rep (fun _ => hv) fun hno => absurd hall hno)
      · rw [if_neg fun hq => hall (hwi.1 hq)]
        refine hn _ _ g ?_
        rw [SSt.den_setT, hd]
        exact R.put hdn (wrap_undef hall)
    · cases h2
  · cases h

theorem qstep_loc {T : TypeId → TI} {CT : Nat → Option Sig} {ops : Array Oper} (ho : ∀ y, τ.obj y = s.obj y) (hl : τ.tmps.length = s.tmps.length) (h : ∀ t ∈ o.looksAt ops, τ.tmp t = s.tmp t) : qstep T CT ops τ o = qstep T CT ops s o := by
  have hg : guardCs τ ops o = guardCs s ops o := by
    unfold guardCs
    cases hgu : o.guard with
    | none => rfl
    | some q =>
      obtain ⟨j, want⟩ := q
      simp only
      cases hj : (ops[j]?).bind (·.dst) with
      | none => rfl
      | some t =>
        have := h t (by simp [Oper.looksAt, hgu, hj])
        simp only [this]
  have hx : ∀ cs, ∀ x ∈ o.op.operands.toList, Alike (τ.strip cs) (s.strip cs) x := fun cs x hx t ht => by
    subst ht
    rw [strip_tmp, strip_tmp, h t]
    unfold Oper.looksAt
    refine List.mem_append.2 (.inl (List.mem_filterMap.2 ⟨.tmp t, hx, rfl⟩))
  unfold qstep
  rw [hg, hl]
  cases o.dst with
  | none => rfl
  | some d =>
    cases guardCs s ops o with
    | none => rfl
    | some cs =>
      simp only
      cases hq : quietOp o with
      | false => rfl
      | true =>
        rw [fOp_loc (τ := τ.strip cs) (s := s.strip cs) (fun y => ho y) hq (hx cs)]
end

end Go.Vx

/-
  Vx, part 30: regions that draw an order, where all operations are quiet.
-/
namespace Go.Vx
open Go.RowKit (Below)

abbrev Plan := List (Nat × List E × SV)

def qrun (T : TypeId → TI) (CT : Nat → Option Sig) (ops : Array Oper) : List Nat → SSt → Option (Plan × SSt)
  | [], s => some ([], s)
  | i :: l, s => match ops[i]? with
    | some o => match qstep T CT ops s o with
      | some (d, cs, v) => match qrun T CT ops l (s.setT d v) with
        | some (p, s') => some ((d, cs, v) :: p, s')
        | none => none
      | none => none
    | none => none

def freeAll : List Nat → SSt → SSt
  | [], s => s
  | d :: ds, s => freeAll ds (s.free d)

def binding (ops : Array Oper) (i j : Nat) : Bool := match ops[i]? with
  | some o => o.after.toList.any fun e => Region.binds .any e && e.on == j
  | none => false

def looksB (ops : Array Oper) (i t : Nat) : Bool := match ops[i]? with
  | some o => (o.looksAt ops).any fun u => u == t
  | none => false

/-- No two write one temporary; who reads what another writes is in order with him. -/
def orderOk (ops : Array Oper) (p : Plan) (n : Nat) : Bool :=
  (List.range n).all fun i =>
    (match ops[i]? with
      | some o => o.after.toList.all fun e => !Region.binds .any e || Nat.blt e.on i
      | none => false) &&
    (List.range n).all fun j => match p[i]?, p[j]? with
      | some pi, some pj => (i == j || !(pi.1 == pj.1)) && (!looksB ops i pj.1 || bif Nat.blt j i then binding ops i j else i == j || binding ops j i)
      | _, _ => false

def dsts (ops : Array Oper) : List Nat := ops.toList.filterMap (·.dst)

def drun (T : TypeId → TI) (CT : Nat → Option Sig) (ops : Array Oper) (s : SSt) : Option (List E × SSt) :=
  match qrun T CT ops (List.range ops.size) (freeAll (dsts ops) s) with
  | some (p, s') => bif orderOk ops p ops.size && p.all fun q => Nat.blt q.1 s.tmps.length && match (freeAll (dsts ops) s).obj (q.1 * 64) with | none => true | some _ => false then some (p.flatMap fun q => q.2.1, s') else none
  | none => none

section
variable {Φ : Fns} {env : List D} {C : Cx} {g : Gh} {s τ : SSt} {a : Act} {w : World} {p : Plan}

structure Has (s : SSt) (p : Plan) (L : Nat → Prop) (τ : SSt) : Prop where
  objs : τ.objs = s.objs
  len : τ.tmps.length = s.tmps.length
  new : ∀ j q, p[j]? = some q → L j → τ.tmp q.1 = q.2.2
  old : ∀ t, (∀ j q, p[j]? = some q → L j → q.1 ≠ t) → τ.tmp t = s.tmp t

theorem tmp_setT {s : SSt} {t u : Nat} {v : SV} (h : t < s.tmps.length) : (s.setT t v).tmp u = if u = t then v else s.tmp u := by
  unfold SSt.tmp SSt.setT
  simp only [List.getD_eq_getElem?_getD, List.getElem?_set]
  by_cases e : t = u
  · subst e; simp [h]
  · simp [e, show ¬ u = t from fun h => e h.symm]

def Apart (p : Plan) : Prop := ∀ (i j : Nat) (q r : Nat × List E × SV), p[i]? = some q → p[j]? = some r → q.1 = r.1 → i = j

theorem Has.step {L L' : Nat → Prop} (h : Has s p L τ) (hp : Apart p) {i : Nat} {q : Nat × List E × SV} (hi : p[i]? = some q) (hd : q.1 < s.tmps.length) (hL : ∀ j, L' j ↔ L j ∨ j = i) : Has s p L' (τ.setT q.1 q.2.2) := by
  have hl : q.1 < τ.tmps.length := by rw [h.len]; exact hd
  refine ⟨h.objs, by rw [show (τ.setT q.1 q.2.2).tmps = τ.tmps.set q.1 q.2.2 from rfl, List.length_set]; exact h.len, fun j r hj hLj => ?_, fun t ht => ?_⟩
  · rw [tmp_setT hl]
    by_cases e : r.1 = q.1
    · have := hp j i r q hj hi e
      subst this
      rw [hi] at hj
      simp only [Option.some.injEq] at hj
      subst hj
      rw [if_pos rfl]
    · rw [if_neg e]
      rcases (hL j).1 hLj with h1 | h1
      · exact h.new j r hj h1
      · subst h1
        rw [hi] at hj
        simp only [Option.some.injEq] at hj
        subst hj
        exact absurd rfl e
  · rw [tmp_setT hl, if_neg fun e => ht i q hi ((hL i).2 (.inr rfl)) e.symm]
    exact h.old t fun j r hj hLj => ht j r hj ((hL j).2 (.inl hLj))

theorem qrun_has {T : TypeId → TI} {CT : Nat → Option Sig} {ops : Array Oper} {s : SSt} {p : Plan} (hp : Apart p) (hd : ∀ q ∈ p, q.1 < s.tmps.length) : ∀ (m k : Nat) {pre suf : Plan} {τ τ' : SSt}, p = pre ++ suf → pre.length = k → Has s p (· < k) τ → qrun T CT ops (List.range' k m) τ = some (suf, τ') →
    Has s p (· < k + m) τ' ∧ ∀ i q, k ≤ i → i < k + m → p[i]? = some q → ∃ o τi, ops[i]? = some o ∧ Has s p (· < i) τi ∧ qstep T CT ops τi o = some q
  | 0, k, pre, suf, τ, τ', he, hk, h, hq => by
    simp only [List.range'_zero, qrun, Option.some.injEq, Prod.mk.injEq] at hq
    obtain ⟨rfl, rfl⟩ := hq
    exact ⟨h, fun i q h1 h2 => by omega⟩
  | m + 1, k, pre, suf, τ, τ', he, hk, h, hq => by
    simp only [List.range'_succ, qrun] at hq
    split at hq
    · rename_i o ho
      split at hq
      · rename_i d cs v h1
        split at hq
        · rename_i suf' τ1 h2
          simp only [Option.some.injEq, Prod.mk.injEq] at hq
          obtain ⟨rfl, rfl⟩ := hq
          have hi : p[k]? = some (d, cs, v) := by rw [he, List.getElem?_append_right (by omega), hk]; simp
          have hs := h.step hp hi (hd _ (List.mem_of_getElem? hi)) (L' := (· < k + 1)) (fun j => by omega)
          obtain ⟨a1, a2⟩ := qrun_has hp hd m (k + 1) (pre := pre ++ [(d, cs, v)]) (by rw [he]; simp) (by simp [hk]) hs h2
          refine ⟨by rw [show k + (m + 1) = k + 1 + m by omega]; exact a1, fun i q q1 q2 q3 => ?_⟩
          by_cases e : i = k
          · subst e
            rw [hi] at q3
            simp only [Option.some.injEq] at q3
            subst q3
            exact ⟨o, τ, ho, h, h1⟩
          · exact a2 i q (by omega) (by omega) q3
        · cases hq
      · cases hq
    · cases hq

theorem qrun_length {T : TypeId → TI} {CT : Nat → Option Sig} {ops : Array Oper} : ∀ (l : List Nat) {s s' : SSt} {p : Plan}, qrun T CT ops l s = some (p, s') → p.length = l.length
  | [], s, s', p, h => by simp only [qrun, Option.some.injEq, Prod.mk.injEq] at h; obtain ⟨rfl, rfl⟩ := h; rfl
  | i :: l, s, s', p, h => by
    simp only [qrun] at h
    split at h
    · split at h
      · split at h
        · rename_i h2
          simp only [Option.some.injEq, Prod.mk.injEq] at h
          obtain ⟨rfl, rfl⟩ := h
          simp [qrun_length l h2]
        · cases h
      · cases h
    · cases h

theorem Rel.freeAll : ∀ (ds : List Nat) {g : Gh} {s : SSt}, Rel C g (s.den Φ env) a w → ∃ g', Rel C g' ((freeAll ds s).den Φ env) a w
  | [], g, s, R => ⟨g, R⟩
  | d :: ds, g, s, R => by
    obtain ⟨g1, R1⟩ := R.free d
    exact Rel.freeAll ds R1

theorem freeAll_len : ∀ (ds : List Nat) (s : SSt), (Vx.freeAll ds s).tmps.length = s.tmps.length
  | [], s => rfl
  | d :: ds, s => by rw [Vx.freeAll, freeAll_len ds, free_len]

structure Inv (Φ : Fns) (env : List D) (C : Cx) (s : SSt) (ops : Array Oper) (p : Plan) (fuel : Nat) (listed : Array Bool) (a : Act) (w : World) : Prop where
  size : listed.size = ops.size
  fuel : listed.toList.count false ≤ fuel
  closed : ∀ i j, listed.getD i false = true → binding ops i j = true → listed.getD j false = true
  rel : ∃ g τ, Rel C g (τ.den Φ env) a w ∧ Has s p (fun i => listed.getD i false = true) τ

theorem binding_ready {ops : Array Oper} {listed : Array Bool} {i j : Nat} (hr : i ∈ Region.ready .any ops listed) (hb : binding ops i j = true) : listed.getD j false = true := by
  obtain ⟨_, o, ho, hall⟩ := mem_ready.1 hr
  unfold binding at hb
  rw [ho] at hb
  simp only [List.any_eq_true, Bool.and_eq_true, beq_iff_eq] at hb
  obtain ⟨e, he, h1, rfl⟩ := hb
  exact hall e (Array.mem_toList_iff.1 he) h1

theorem any_sound {CT : Nat → Option Sig} (hCT : Told C.P Φ CT) {ops : Array Oper} {Q : Exit → Act → World → Prop} {s s' : SSt} {p : Plan} (hq : qrun C.T CT ops (List.range ops.size) s = some (p, s')) (hok : orderOk ops p ops.size = true)
    (hd : ∀ q ∈ p, q.1 < s.tmps.length) (hkey : ∀ q ∈ p, s.obj (q.1 * 64) = none) (hc : ∀ q ∈ p, holds Φ env q.2.1) (hQ : ∀ a' w' g', Rel C g' (s'.den Φ env) a' w' → Q .normal a' w') :
    ∀ (fuel : Nat) (listed : Array Bool) (a : Act) (w : World), Inv Φ env C s ops p fuel listed a w → wpAny C.P .any ops Q fuel listed a w := by
  have hlen := qrun_length _ hq
  rw [List.length_range] at hlen
  simp only [orderOk, List.all_eq_true, List.mem_range, Bool.and_eq_true] at hok
  have hget : ∀ i, i < ops.size → ∃ q, p[i]? = some q := fun i hi => ⟨p[i], List.getElem?_eq_getElem (by omega)⟩
  have hlt : ∀ i q, p[i]? = some q → i < ops.size := fun i q h => by rw [← hlen]; exact (List.getElem?_eq_some_iff.1 h).1
  have pair : ∀ i j q r, p[i]? = some q → p[j]? = some r → ((i == j || !(q.1 == r.1)) && (!looksB ops i r.1 || bif Nat.blt j i then binding ops i j else i == j || binding ops j i)) = true := fun i j q r h1 h2 => by
    have := (hok i (hlt i q h1)).2 j (hlt j r h2)
    rw [h1, h2] at this
    exact this
  have hap : Apart p := fun i j q r h1 h2 he => by
    have := pair i j q r h1 h2
    simp only [Bool.and_eq_true, Bool.or_eq_true, beq_iff_eq, Bool.not_eq_true', beq_eq_false_iff_ne] at this
    exact this.1.resolve_right fun h => h he
  have h0 : Has s p (fun i => i < 0) s := ⟨rfl, rfl, fun j q _ h => by omega, fun _ _ => rfl⟩
  rw [List.range_eq_range'] at hq
  obtain ⟨hfin, hsteps⟩ := qrun_has hap hd ops.size 0 (pre := []) (by simp) rfl h0 hq
  simp only [Nat.zero_add] at hfin hsteps
  -- all listed: the end
  have fin : ∀ listed a w g τ, (∀ i, i < ops.size → listed.getD i false = true) → Rel C g (SSt.den Φ env τ) a w → Has s p (fun i => (listed : Array Bool).getD i false = true) τ → Q .normal a w := fun listed a w g τ hall R H => by
    have hts : ∀ t, τ.tmp t = s'.tmp t := fun t => by
      by_cases h : ∃ (j : Nat) (q : Nat × List E × SV), p[j]? = some q ∧ q.1 = t
      · obtain ⟨j, q, hj, rfl⟩ := h
        rw [H.new j q hj (hall j (hlt j q hj)), hfin.new j q hj (hlt j q hj)]
      · rw [H.old t fun j q hj _ he => h ⟨j, q, hj, he⟩, hfin.old t fun j q hj _ he => h ⟨j, q, hj, he⟩]
    refine hQ a w g (R.retmps ?_ ?_ fun t v hv => ?_)
    · simp only [SSt.den, H.objs, hfin.objs]
    · simp only [SSt.den, List.length_map, H.len, hfin.len]
    · rw [SSt.den_tmp] at hv ⊢
      rw [← hts]
      exact hv
  have notin : ∀ (listed : Array Bool), listed.size = ops.size → (∀ i, i < ops.size → listed.getD i true ≠ false) → ∀ i, i < ops.size → listed.getD i false = true := fun listed hs h i hi => by
    have := h i hi
    rw [← hs] at hi
    simp [hi] at this ⊢
    exact this
  intro fuel
  induction fuel with
  | zero =>
    intro listed a w I
    have hno : ∀ i, i < ops.size → listed.getD i true ≠ false := fun i hi he => by
      have h1 := I.fuel
      have h2 : List.count false listed.toList = 0 := by omega
      rw [← I.size] at hi
      simp [hi] at he
      exact (List.count_eq_zero.1 h2) (by rw [← he]; exact Array.mem_toList_iff.2 (Array.getElem_mem hi))
    refine ⟨?_, ?_⟩
    · refine List.eq_nil_iff_forall_not_mem.2 fun i hi => ?_
      obtain ⟨h1, o, ho, _⟩ := mem_ready.1 hi
      exact hno i (Array.getElem?_eq_some_iff.1 ho).1 h1
    · obtain ⟨g, τ, R, H⟩ := I.rel
      exact fin listed a w g τ (notin listed I.size hno) R H
  | succ fuel ih =>
    intro listed a w I
    obtain ⟨g, τ, R, H⟩ := I.rel
    refine ⟨fun hnil => ?_, fun i hi => ?_⟩
    · -- nothing is ready: all is listed
      have key : ∀ i, i < ops.size → listed.getD i true ≠ false := fun i => by
        induction i using Nat.strongRecOn with
        | _ i ihi =>
          intro hi he
          have hm : i ∈ Region.ready .any ops listed := by
            refine mem_ready.2 ⟨he, ops[i], by simp [hi], fun e hem hb => ?_⟩
            have h1 := (hok i hi).1
            have : ops[i]? = some ops[i] := by simp [hi]
            rw [this] at h1
            simp only [List.all_eq_true] at h1
            have h2 := h1 e (Array.mem_toList_iff.2 hem)
            rw [hb] at h2
            have h3 : e.on < i := by simpa using h2
            have h4 := ihi e.on h3 (by omega)
            have h5 : e.on < listed.size := by rw [I.size]; omega
            simp [h5] at h4 ⊢
            exact h4
          rw [hnil] at hm
          cases hm
      exact fin listed a w g τ (notin listed I.size key) R H
    · obtain ⟨hun, o, ho, hall⟩ := mem_ready.1 hi
      have hilt : i < ops.size := (Array.getElem?_eq_some_iff.1 ho).1
      obtain ⟨q, hpi⟩ := hget i hilt
      obtain ⟨o', τi, ho', Hi, hstep⟩ := hsteps i q (by omega) hilt hpi
      rw [ho] at ho'
      simp only [Option.some.injEq] at ho'
      subst ho'
      have hls : i < listed.size := by rw [I.size]; exact hilt
      have hif : ¬ listed.getD i false = true := by simp [hls] at hun ⊢; exact hun
      have hsame : ∀ t ∈ o.looksAt ops, τ.tmp t = τi.tmp t := fun t ht => by
        by_cases hex : ∃ (j : Nat) (r : Nat × List E × SV), p[j]? = some r ∧ r.1 = t
        · obtain ⟨j, r, hj, rfl⟩ := hex
          have hlk : looksB ops i r.1 = true := by
            unfold looksB
            rw [ho]
            exact List.any_eq_true.2 ⟨r.1, ht, by simp⟩
          have hp2 := pair i j q r hpi hj
          simp only [hlk, Bool.not_true, Bool.false_or, Bool.and_eq_true] at hp2
          have hp2 := hp2.2
          have none' : ¬ listed.getD j false = true → ¬ j < i → τ.tmp r.1 = τi.tmp r.1 := fun n1 n2 => by
            rw [H.old r.1 fun k q' hk hL he => n1 (by rw [← hap k j q' r hk hj he]; exact hL), Hi.old r.1 fun k q' hk hL he => n2 (by rw [← hap k j q' r hk hj he]; exact hL)]
          cases hji : Nat.blt j i with
          | true =>
            rw [hji] at hp2
            have h1 := binding_ready hi hp2
            rw [H.new j r hj h1, Hi.new j r hj (Nat.le_of_ble_eq_true hji)]
          | false =>
            rw [hji] at hp2
            have hnlt : ¬ j < i := fun h => by
              have : Nat.blt j i = true := Nat.ble_eq_true_of_le h
              rw [this] at hji; cases hji
            simp only [cond_false, Bool.or_eq_true, beq_iff_eq] at hp2
            rcases hp2 with h1 | h1
            · subst h1; exact none' hif hnlt
            · exact none' (fun hl => hif (I.closed j i hl h1)) hnlt
        · rw [H.old t fun k q' hk _ he => hex ⟨k, q', hk, he⟩, Hi.old t fun k q' hk _ he => hex ⟨k, q', hk, he⟩]
      have hloc : qstep C.T CT ops τ o = some q := by
        rw [qstep_loc (fun y => by unfold SSt.obj; rw [H.objs, Hi.objs]) (by rw [H.len, Hi.len]) hsame, hstep]
      have hmq : q ∈ p := List.mem_of_getElem? hpi
      obtain ⟨d, cs, v⟩ := q
      have hk : s.obj (d * 64) = none := by have := hkey _ hmq; simpa only using this
      have hobj : τ.obj (d * 64) = s.obj (d * 64) := by unfold SSt.obj; rw [H.objs]
      have := qstep_sound R hCT hloc (hobj.trans hk) (hc (d, cs, v) hmq) (wpAny C.P .any ops Q fuel (listed.setIfInBounds i true)) Q fun a' w' g' R' => ih _ a' w' ?_
      · unfold wpOp
        simp only [ho]
        split at this
        · rename_i hw; rw [if_pos hw]; exact .inl this
        · rename_i hw; rw [if_neg hw]; exact this
      · have hset : ∀ j, (listed.setIfInBounds i true).getD j false = true ↔ listed.getD j false = true ∨ j = i := fun j => by
          by_cases e : i = j
          · subst e; simp [hls]
          · rw [getD_set_ne false e]
            exact ⟨.inl, fun h => h.resolve_right fun h => e h.symm⟩
        refine ⟨by simp [I.size], ?_, fun j k hj hb => ?_, g', _, R', H.step hap hpi (hd _ hmq) hset⟩
        · refine Nat.lt_succ_iff.1 (Nat.lt_of_lt_of_le ?_ I.fuel)
          have hb : listed.toList[i]'(by simpa using hls) = false := by simpa [hls] using hun
          have hpos : 0 < listed.toList.count false := List.count_pos_iff.2 (by rw [← hb]; exact List.getElem_mem _)
          rw [Array.toList_setIfInBounds, List.count_set (by simpa using hls), hb]
          show _ - 1 + 0 < _
          omega
        · rcases (hset j).1 hj with h1 | h1
          · exact (hset k).2 (.inl (I.closed j k h1 hb))
          · subst h1
            exact (hset k).2 (.inl (binding_ready hi hb))

/-- A region that draws. -/
theorem draw_sound {CT : Nat → Option Sig} (hCT : Told C.P Φ CT) (hm : C.P.follows .mixedOrders = true) {ops : Array Oper} {id : Nat} {Q : Exit → Act → World → Prop} {cs : List E} {s' : SSt} (R : Rel C g (s.den Φ env) a w)
    (h : drun C.T CT ops s = some (cs, s')) (hc : holds Φ env cs) (hQ : ∀ a' w' g', Rel C g' (s'.den Φ env) a' w' → Q .normal a' w') : (Code.region id ops true).wp C.P Q a w := by
  unfold drun at h
  split at h
  · rename_i p s1 hq
    obtain ⟨h1, h2⟩ := bif_some h
    clear h
    simp only [Option.some.injEq, Prod.mk.injEq] at h2
    obtain ⟨rfl, rfl⟩ := h2
    simp only [Bool.and_eq_true, List.all_eq_true] at h1
    obtain ⟨g1, R1⟩ := R.freeAll (dsts ops)
    have RR : Rel C g1 ((freeAll (dsts ops) s).den Φ env) a { w with drawn := w.drawn + 1 } := Rel.same (w := w) R1 rfl rfl rfl rfl
    have HH : Has (freeAll (dsts ops) s) p (fun i => (Array.replicate ops.size false).getD i false = true) (freeAll (dsts ops) s) :=
      ⟨rfl, rfl, fun j q _ hL => by by_cases hlt : j < ops.size <;> simp [hlt] at hL, fun _ _ => rfl⟩
    have I : Inv Φ env C (freeAll (dsts ops) s) ops p ops.size (Array.replicate ops.size false) a { w with drawn := w.drawn + 1 } := by
      refine ⟨by simp, by simp, fun i j hi => ?_, ⟨g1, _, RR, HH⟩⟩
      by_cases hlt : i < ops.size <;> simp [hlt] at hi
    refine wp_region_any hm (any_sound hCT hq h1.1 (fun q hm => ?_) (fun q hm => ?_) (fun q hm e he => hc e (List.mem_flatMap.2 ⟨q, hm, he⟩)) hQ _ _ _ _ I)
    · rw [freeAll_len]; exact Nat.le_of_ble_eq_true (h1.2 q hm).1
    · have := (h1.2 q hm).2
      split at this
      · rename_i hn; exact hn
      · cases this
  · cases h
end

end Go.Vx

/-
  Vx, part 31: a state fits a pattern.
-/
namespace Go.Vx
open Go.RowKit (Below)

/-! Terms in the place of variables. -/
mutual
def E.sub (n : Nat) (es : List E) : E → E
  | .var i => bif Nat.blt i n then .var i else es.getD (i - n) (.int 0)
  | .int i => .int i
  | .bool b => .bool b
  | .str s => .str s
  | .nl => .nl
  | .op o fs => .op o (E.subs n es fs)
def E.subs (n : Nat) (es : List E) : List E → List E
  | [] => []
  | f :: fs => E.sub n es f :: E.subs n es fs
end
def SC.sub (n : Nat) (es : List E) : SC → SC
  | .dat k e => .dat k (e.sub n es)
  | .nil t ks => .nil t ks
  | .ref x p => .ref x (p.map fun q => (q.1.sub n es, q.2.sub n es))
  | .dead => .dead
mutual
def SV.sub (n : Nat) (es : List E) : SV → SV
  | .one c => .one (c.sub n es)
  | .agg cs => .agg (cs.map (SC.sub n es))
  | .ptr x i j => .ptr x (i.sub n es) j
  | .pim ks e off => .pim ks (e.sub n es) off
  | .tup vs => .tup (SV.subs n es vs)
  | .whn c v => .whn (c.sub n es) (v.sub n es)
  | .lod x i j => .lod x (i.sub n es) j
  | .dead => .dead
def SV.subs (n : Nat) (es : List E) : List SV → List SV
  | [] => []
  | v :: vs => v.sub n es :: SV.subs n es vs
end
def SOb.sub (n : Nat) (es : List E) : SOb → SOb
  | .box T cs => .box T (cs.map (SC.sub n es))
  | .arr e ks dp xs => .arr e ks dp (xs.sub n es)
  | .sealed e ks xs => .sealed e ks (xs.sub n es)
  | .gone => .gone
  | .arx e ks xs => .arx e ks (xs.sub n es)
def SSt.sub (n : Nat) (es : List E) (s : SSt) : SSt := ⟨s.tmps.map (SV.sub n es), s.objs.map fun p => (p.1, p.2.sub n es)⟩

section
variable {Φ : Fns} {env : List D} {n : Nat} {es : List E}

def envOf (Φ : Fns) (env : List D) (n : Nat) (es : List E) : List D := env.take n ++ es.map (E.den Φ env)

theorem var_sub (hn : n ≤ env.length) (i : Nat) : ((E.var i).sub n es).den Φ env = (E.var i).den Φ (envOf Φ env n es) := by
  simp only [E.sub, E.den, envOf]
  have hl : (env.take n).length = n := by simp; omega
  cases h : Nat.blt i n with
  | true =>
    have hi : i < n := Nat.le_of_ble_eq_true h
    simp only [cond_true, E.den, List.getD_eq_getElem?_getD]
    rw [List.getElem?_append_left (by omega), List.getElem?_take_of_lt hi]
  | false =>
    have hi : n ≤ i := by
      rcases Nat.lt_or_ge i n with h' | h'
      · have : Nat.blt i n = true := Nat.ble_eq_true_of_le h'
        rw [this] at h; cases h
      · exact h'
    simp only [cond_false, List.getD_eq_getElem?_getD]
    rw [List.getElem?_append_right (by omega), hl, List.getElem?_map]
    cases es[i - n]? <;> rfl
mutual
theorem E.den_sub (hn : n ≤ env.length) : ∀ e : E, (e.sub n es).den Φ env = e.den Φ (envOf Φ env n es)
  | .var i => var_sub hn i
  | .int _ => rfl
  | .bool _ => rfl
  | .str _ => rfl
  | .nl => rfl
  | .op o fs => by simp only [E.sub, E.den, E.dens_sub hn fs]
theorem E.dens_sub (hn : n ≤ env.length) : ∀ fs : List E, E.dens Φ env (E.subs n es fs) = E.dens Φ (envOf Φ env n es) fs
  | [] => rfl
  | f :: fs => by simp only [E.subs, E.dens, E.den_sub hn f, E.dens_sub hn fs]
end
theorem SC.den_sub (hn : n ≤ env.length) (c : SC) : (c.sub n es).den Φ env = c.den Φ (envOf Φ env n es) := by
  cases c with
  | dat k e => simp only [SC.sub, SC.den, E.den_sub hn]
  | ref x p =>
    cases p with
    | none => rfl
    | some q => obtain ⟨a, b⟩ := q; simp only [SC.sub, SC.den, denP, Option.map_some, E.den_sub hn]
  | _ => rfl
theorem SC.dens_sub (hn : n ≤ env.length) (cs : List SC) : (cs.map (SC.sub n es)).map (SC.den Φ env) = cs.map (SC.den Φ (envOf Φ env n es)) := by
  simp [Function.comp_def, SC.den_sub hn]
mutual
theorem SV.den_sub (hn : n ≤ env.length) : ∀ v : SV, (v.sub n es).den Φ env = v.den Φ (envOf Φ env n es)
  | .one c => by simp only [SV.sub, SV.den, SC.den_sub hn]
  | .agg cs => by simp only [SV.sub, SV.den, SC.dens_sub hn]
  | .ptr x i j => by simp only [SV.sub, SV.den, E.den_sub hn]
  | .pim ks e off => by simp only [SV.sub, SV.den, E.den_sub hn]
  | .tup vs => by simp only [SV.sub, SV.den, SV.dens_sub hn vs]
  | .whn c v => by simp only [SV.sub, SV.den, E.den_sub hn, SV.den_sub hn v]
  | .lod x i j => by simp only [SV.sub, SV.den, E.den_sub hn]
  | .dead => rfl
theorem SV.dens_sub (hn : n ≤ env.length) : ∀ vs : List SV, SV.dens Φ env (SV.subs n es vs) = SV.dens Φ (envOf Φ env n es) vs
  | [] => rfl
  | v :: vs => by simp only [SV.subs, SV.dens, SV.den_sub hn v, SV.dens_sub hn vs]
end
theorem SOb.den_sub (hn : n ≤ env.length) (o : SOb) : (o.sub n es).den Φ env = o.den Φ (envOf Φ env n es) := by
  cases o with
  | box T cs => simp only [SOb.sub, SOb.den, SC.dens_sub hn]
  | arr e ks dp xs => simp only [SOb.sub, SOb.den, E.den_sub hn]
  | «sealed» e ks xs => simp only [SOb.sub, SOb.den, E.den_sub hn]
  | gone => rfl
  | arx e ks xs => simp only [SOb.sub, SOb.den, E.den_sub hn]
theorem SSt.den_sub (hn : n ≤ env.length) (s : SSt) : (s.sub n es).den Φ env = s.den Φ (envOf Φ env n es) := by
  simp only [SSt.den, SSt.sub, List.map_map, Function.comp_def, SV.den_sub hn, SOb.den_sub hn]
end

/-! What says less. -/
def eqP : Option (E × E) → Option (E × E) → Bool
  | none, none => true
  | some p, some q => E.eqb p.1 q.1 && E.eqb p.2 q.2
  | _, _ => false
def SC.eqb : SC → SC → Bool
  | .dat k e, .dat k' e' => K.eqb k k' && E.eqb e e'
  | .nil t ks, .nil t' ks' => t == t' && K.eqbs ks ks'
  | .ref z p, .ref z' p' => z == z' && eqP p p'
  | .dead, .dead => true
  | _, _ => false
def SC.eqbs : List SC → List SC → Bool
  | [], [] => true
  | c :: cs, d :: ds => c.eqb d && SC.eqbs cs ds
  | _, _ => false
def SC.le (a : SC) : SC → Bool
  | .dead => true
  | .dat k e => match a with
    | .nil t ks => K.eqb (.sl t ks) k && E.eqb .nl e
    | a => a.eqb (.dat k e)
  | b => a.eqb b
def SC.les : List SC → List SC → Bool
  | [], [] => true
  | c :: cs, d :: ds => c.le d && SC.les cs ds
  | _, _ => false
mutual
def SV.le : SV → SV → Bool
  | _, .dead => true
  | .one c, .one d => c.le d
  | .agg cs, .agg ds => SC.les cs ds
  | .ptr z i j, .ptr z' i' j' => z == z' && E.eqb i i' && j == j'
  | .pim ks e o, .pim ks' e' o' => K.eqbs ks ks' && E.eqb e e' && o == o'
  | .tup us, .tup vs => SV.lesV us vs
  | .whn c u, .whn c' v => E.eqb c c' && u.le v
  | .lod z i j, .lod z' i' j' => z == z' && E.eqb i i' && j == j'
  | _, _ => false
def SV.lesV : List SV → List SV → Bool
  | [], [] => true
  | u :: us, v :: vs => u.le v && SV.lesV us vs
  | _, _ => false
end
def SOb.eqb : SOb → SOb → Bool
  | .box T cs, .box T' cs' => T == T' && SC.eqbs cs cs'
  | .arr t ks dp e, .arr t' ks' dp' e' => t == t' && K.eqbs ks ks' && dp == dp' && E.eqb e e'
  | .sealed t ks e, .sealed t' ks' e' => t == t' && K.eqbs ks ks' && E.eqb e e'
  | .gone, .gone => true
  | .arx t ks e, .arx t' ks' e' => t == t' && K.eqbs ks ks' && E.eqb e e'
  | _, _ => false
def oeq : Option SOb → Option SOb → Bool
  | none, none => true
  | some a, some b => a.eqb b
  | _, _ => false
def lesT : List SV → List SV → Bool
  | [], [] => true
  | a :: as, b :: bs => a.le b && lesT as bs
  | _, _ => false
def SSt.le (s s' : SSt) : Bool := lesT s.tmps s'.tmps && (s.objs.all fun p => oeq (s.obj p.1) (s'.obj p.1)) && s'.objs.all fun p => oeq (s.obj p.1) (s'.obj p.1)

theorem eqP_eq {p q : Option (E × E)} (h : eqP p q = true) : p = q := by
  cases p with
  | none => cases q <;> simp_all [eqP]
  | some p =>
    cases q with
    | none => simp [eqP] at h
    | some q =>
      simp only [eqP, Bool.and_eq_true] at h
      obtain ⟨a, b⟩ := p
      obtain ⟨c, d⟩ := q
      rw [show a = c from E.eqb_eq h.1, show b = d from E.eqb_eq h.2]
theorem SC.eqb_eq {a b : SC} (h : a.eqb b = true) : a = b := by
  cases a <;> cases b <;> simp only [SC.eqb, Bool.false_eq_true, Bool.and_eq_true, beq_iff_eq] at h
  · rw [K.eqb_eq h.1, E.eqb_eq h.2]
  · rw [h.1, K.eqbs_eq h.2]
  · rw [h.1, eqP_eq h.2]
  · rfl
theorem SC.eqbs_eq : ∀ {a b : List SC}, SC.eqbs a b = true → a = b
  | [], b, h => by cases b <;> simp_all [SC.eqbs]
  | c :: cs, b, h => by
    cases b with
    | nil => simp [SC.eqbs] at h
    | cons d ds =>
      simp only [SC.eqbs, Bool.and_eq_true] at h
      rw [SC.eqb_eq h.1, SC.eqbs_eq h.2]
theorem SOb.eqb_eq {a b : SOb} (h : a.eqb b = true) : a = b := by
  cases a <;> cases b <;> simp only [SOb.eqb, Bool.false_eq_true, Bool.and_eq_true, beq_iff_eq] at h
  · rw [h.1, SC.eqbs_eq h.2]
  · rw [h.1.1.1, K.eqbs_eq h.1.1.2, h.1.2, E.eqb_eq h.2]
  · rw [h.1.1, K.eqbs_eq h.1.2, E.eqb_eq h.2]
  · rfl
  · rw [h.1.1, K.eqbs_eq h.1.2, E.eqb_eq h.2]
theorem oeq_eq {a b : Option SOb} (h : oeq a b = true) : a = b := by
  cases a <;> cases b <;> simp only [oeq, Bool.false_eq_true] at h
  · rfl
  · rw [SOb.eqb_eq h]

section
variable {Φ : Fns} {env : List D} {C : Cx} {g : Gh} {s s' : SSt} {a : Act} {w : World}

theorem Rel.retmps' {σ σ' : St} (R : Rel C g σ a w) (hob : ∀ x, σ'.obj x = σ.obj x) (hl : σ'.tmps.length = σ.tmps.length) (ht : ∀ t v, RepAV (sur C g σ w) (σ.tmp t) v → RepAV (sur C g σ w) (σ'.tmp t) v) : Rel C g σ' a w := by
  have hs := sur_eq (C := C) (g := g) (w := w) hob
  exact ⟨R.defers, R.size, by rw [hl]; exact R.len, fun t => by rw [hs]; exact ht t _ (R.tmps t), fun x => by rw [hs]; exact R.objs x, R.own, R.apart, R.alw, R.fr, by rw [hs]; exact R.pin⟩

theorem SC.le_rep {S : Sur} {c d : SC} (h : c.le d = true) {v : Value} (hv : RepAC S (c.den Φ env) v) : RepAC S (d.den Φ env) v := by
  cases d with
  | dead => trivial
  | dat k e =>
    cases c with
    | nil t ks =>
      simp only [SC.le, Bool.and_eq_true] at h
      have h1 := K.eqb_eq h.1
      have h2 := E.eqb_eq h.2
      subst h1
      subst h2
      exact hv.dn
    | _ => simp only [SC.le] at h; rw [← SC.eqb_eq h]; exact hv
  | _ => rw [← SC.eqb_eq h]; exact hv
theorem SC.les_rep {S : Sur} : ∀ {cs ds : List SC}, SC.les cs ds = true → ∀ {vs : List Value}, RepACs S (cs.map (SC.den Φ env)) vs → RepACs S (ds.map (SC.den Φ env)) vs
  | [], ds, h, vs, hv => by cases ds <;> simp_all [SC.les]
  | c :: cs, ds, h, vs, hv => by
    cases ds with
    | nil => simp [SC.les] at h
    | cons d ds =>
      simp only [SC.les, Bool.and_eq_true] at h
      obtain ⟨v, vs', e, o, h1, h2⟩ := hv
      exact ⟨v, vs', e, o, SC.le_rep h.1 h1, SC.les_rep h.2 h2⟩
mutual
theorem SV.le_rep {S : Sur} : ∀ {u u' : SV}, u.le u' = true → ∀ {v : Value}, RepAV S (u.den Φ env) v → RepAV S (u'.den Φ env) v
  | u, .dead, _, _, _ => trivial
  | .one c, .one d, h, v, hv => by simp only [SV.le] at h; exact ⟨SC.le_rep h hv.1, hv.2⟩
  | .agg cs, .agg ds, h, v, hv => by
    simp only [SV.le] at h
    obtain ⟨vs, e, hv⟩ := hv
    exact ⟨vs, e, SC.les_rep h hv⟩
  | .ptr z i j, .ptr z' i' j', h, v, hv => by
    simp only [SV.le, Bool.and_eq_true, beq_iff_eq] at h
    rw [← h.1.1, ← E.eqb_eq h.1.2, ← h.2]; exact hv
  | .pim ks e o, .pim ks' e' o', h, v, hv => by
    simp only [SV.le, Bool.and_eq_true, beq_iff_eq] at h
    rw [← K.eqbs_eq h.1.1, ← E.eqb_eq h.1.2, ← h.2]; exact hv
  | .tup us, .tup us', h, v, hv => by
    simp only [SV.le] at h
    obtain ⟨vs, e, hv⟩ := hv
    exact ⟨vs, e, SV.lesV_rep h hv⟩
  | .whn c u, .whn c' u', h, v, hv => by
    simp only [SV.le, Bool.and_eq_true] at h
    rw [← E.eqb_eq h.1]
    exact ⟨fun hc => SV.le_rep h.2 (hv.1 hc), hv.2⟩
  | .lod z i j, .lod z' i' j', h, v, hv => by
    simp only [SV.le, Bool.and_eq_true, beq_iff_eq] at h
    rw [← h.1.1, ← E.eqb_eq h.1.2, ← h.2]; exact hv
  | .one _, .agg _, h, _, _ | .one _, .ptr .., h, _, _ | .one _, .pim .., h, _, _ | .one _, .tup _, h, _, _ | .one _, .whn .., h, _, _ | .one _, .lod .., h, _, _ => by simp [SV.le] at h
  | .agg _, .one _, h, _, _ | .agg _, .ptr .., h, _, _ | .agg _, .pim .., h, _, _ | .agg _, .tup _, h, _, _ | .agg _, .whn .., h, _, _ | .agg _, .lod .., h, _, _ => by simp [SV.le] at h
  | .ptr .., .one _, h, _, _ | .ptr .., .agg _, h, _, _ | .ptr .., .pim .., h, _, _ | .ptr .., .tup _, h, _, _ | .ptr .., .whn .., h, _, _ | .ptr .., .lod .., h, _, _ => by simp [SV.le] at h
  | .pim .., .one _, h, _, _ | .pim .., .agg _, h, _, _ | .pim .., .ptr .., h, _, _ | .pim .., .tup _, h, _, _ | .pim .., .whn .., h, _, _ | .pim .., .lod .., h, _, _ => by simp [SV.le] at h
  | .tup _, .one _, h, _, _ | .tup _, .agg _, h, _, _ | .tup _, .ptr .., h, _, _ | .tup _, .pim .., h, _, _ | .tup _, .whn .., h, _, _ | .tup _, .lod .., h, _, _ => by simp [SV.le] at h
  | .whn .., .one _, h, _, _ | .whn .., .agg _, h, _, _ | .whn .., .ptr .., h, _, _ | .whn .., .pim .., h, _, _ | .whn .., .tup _, h, _, _ | .whn .., .lod .., h, _, _ => by simp [SV.le] at h
  | .lod .., .one _, h, _, _ | .lod .., .agg _, h, _, _ | .lod .., .ptr .., h, _, _ | .lod .., .pim .., h, _, _ | .lod .., .tup _, h, _, _ | .lod .., .whn .., h, _, _ => by simp [SV.le] at h
  | .dead, .one _, h, _, _ | .dead, .agg _, h, _, _ | .dead, .ptr .., h, _, _ | .dead, .pim .., h, _, _ | .dead, .tup _, h, _, _ | .dead, .whn .., h, _, _ | .dead, .lod .., h, _, _ => by simp [SV.le] at h
theorem SV.lesV_rep {S : Sur} : ∀ {us us' : List SV}, SV.lesV us us' = true → ∀ {vs : List Value}, RepAVs S (SV.dens Φ env us) vs → RepAVs S (SV.dens Φ env us') vs
  | [], [], _, _, hv => hv
  | u :: us, u' :: us', h, vs, hv => by
    simp only [SV.lesV, Bool.and_eq_true] at h
    obtain ⟨v, vs', e, h1, h2⟩ := hv
    exact ⟨v, vs', e, SV.le_rep h.1 h1, SV.lesV_rep h.2 h2⟩
  | [], _ :: _, h, _, _ => by simp [SV.lesV] at h
  | _ :: _, [], h, _, _ => by simp [SV.lesV] at h
end

theorem lesT_get : ∀ {as bs : List SV}, lesT as bs = true → as.length = bs.length ∧ ∀ t : Nat, (as.getD t .dead).le (bs.getD t .dead) = true
  | [], [], _ => ⟨rfl, fun t => by simp [SV.le]⟩
  | [], _ :: _, h => by simp [lesT] at h
  | _ :: _, [], h => by simp [lesT] at h
  | a :: as, b :: bs, h => by
    simp only [lesT, Bool.and_eq_true] at h
    have ih := lesT_get h.2
    refine ⟨by simp [ih.1], fun t => ?_⟩
    cases t with
    | zero => exact h.1
    | succ t => simpa using ih.2 t

theorem slook_notin {x : Nat} : ∀ {l : List (Nat × SOb)}, (∀ p ∈ l, p.1 ≠ x) → slook x l = none
  | [], _ => rfl
  | (y, o) :: l, h => by
    have h1 : (x == y) = false := by
      have := h (y, o) (by simp)
      simp only [beq_eq_false_iff_ne, ne_eq]
      exact fun e => this e.symm
    simp only [slook, h1, cond_false]
    exact slook_notin fun p hp => h p (by simp [hp])

theorem Rel.le (R : Rel C g (s.den Φ env) a w) (h : s.le s' = true) : Rel C g (s'.den Φ env) a w := by
  simp only [SSt.le, Bool.and_eq_true, List.all_eq_true] at h
  obtain ⟨⟨h1, h2⟩, h3⟩ := h
  have hob : ∀ x, s.obj x = s'.obj x := fun x => by
    by_cases e1 : ∃ p, p ∈ s.objs ∧ p.1 = x
    · obtain ⟨p, hp, rfl⟩ := e1; exact oeq_eq (h2 p hp)
    · by_cases e2 : ∃ p, p ∈ s'.objs ∧ p.1 = x
      · obtain ⟨p, hp, rfl⟩ := e2; exact oeq_eq (h3 p hp)
      · rw [SSt.obj, SSt.obj, slook_notin fun p hp he => e1 ⟨p, hp, he⟩, slook_notin fun p hp he => e2 ⟨p, hp, he⟩]
  obtain ⟨hl, ht⟩ := lesT_get h1
  refine R.retmps' (fun x => by rw [SSt.den_obj, SSt.den_obj, hob]) (by simp [SSt.den, hl]) fun t v hv => ?_
  rw [SSt.den_tmp] at hv ⊢
  exact SV.le_rep (ht t) hv

/-! The nil slice as an array of its own. -/
def nilOne (s : SSt) (t key : Nat) : SSt := match s.tmp t, s.obj key with
  | .one (.nil e ks), none => (s.setO key (.arr e ks true .nl)).setT t (.one (.ref key none))
  | _, _ => s
theorem Rel.nilArr' {σ : St} (R : Rel C g σ a w) {x : Nat} (hx : σ.obj x = none) (e : TypeId) (ks : List K) (dp : Bool) : Rel C (g.upd x (.slice none 0 0) []) (σ.setO x (.arr e ks dp [])) a w := by
  refine R.grow (Below.refl _ _) hx (fun b hb => by simp [blkOf] at hb) (by simp) (fun b hb => by simp at hb) ?_
  unfold RepOb
  simp only [sur, St.obj_setO, if_pos, Gh.upd, upd_eq]
  exact ⟨[], [], World.ownsRow_nil _ _ _ _, by simp [lenMax], rfl, rfl, rfl, fun i row vs f h => by simp at h⟩
theorem Rel.nilOne (R : Rel C g (s.den Φ env) a w) (t key : Nat) : ∃ g', Rel C g' ((nilOne s t key).den Φ env) a w := by
  unfold Vx.nilOne
  split
  · rename_i e ks ht hk
    have R1 := R.nilArr' (x := key) (by rw [SSt.den_obj, hk]; rfl) e ks true
    have e1 : (s.den Φ env).setO key (.arr e ks true []) = (s.setO key (.arr e ks true .nl)).den Φ env := by rw [SSt.den_setO]; rfl
    rw [e1] at R1
    have htl : t < (s.setO key (.arr e ks true .nl)).tmps.length := by
      rcases Nat.lt_or_ge t s.tmps.length with h | h
      · exact h
      · simp [SSt.tmp, List.getD_eq_getElem?_getD, List.getElem?_eq_none h] at ht
    refine ⟨_, R1.retmps' (fun x => ?_) (by simp [SSt.den, SSt.setT]) fun u v hv => ?_⟩
    · rw [SSt.den_setT]; rfl
    · rw [SSt.den_tmp] at hv ⊢
      rw [tmp_setT htl]
      by_cases hu : u = t
      · subst hu
        rw [if_pos rfl]
        have hv : RepAV _ ((s.tmp u).den Φ env) v := hv
        rw [ht] at hv
        refine ⟨?_, hv.2⟩
        have hv1 : v = .slice none 0 0 := hv.1
        show RefRep _ key none v
        unfold RefRep
        rw [← e1]
        simp only [sur, St.obj_setO, if_true, Gh.upd, upd_eq]
        exact ⟨trivial, hv1⟩
      · rw [if_neg hu]; exact hv
  · exact ⟨g, R⟩
def nilAll (s : SSt) : List (Nat × Nat) → SSt
  | [] => s
  | (t, key) :: l => nilAll (nilOne s t key) l
theorem Rel.nilAll : ∀ (l : List (Nat × Nat)) {g : Gh} {s : SSt}, Rel C g (s.den Φ env) a w → ∃ g', Rel C g' ((nilAll s l).den Φ env) a w
  | [], g, s, R => ⟨g, R⟩
  | (t, key) :: l, g, s, R => by
    obtain ⟨g1, R1⟩ := R.nilOne t key
    exact Rel.nilAll l R1

/-- The rows of an array own no longer what they hold. -/
theorem Rel.undeep {σ : St} (R : Rel C g σ a w) {y : Nat} {e : TypeId} {ks : List K} {xs : List (List D)} (hy : σ.obj y = some (.arr e ks true xs)) :
    Rel C (g.upd y (g.hd y) (g.hd y).ownBlock.toList) (σ.setO y (.arr e ks false xs)) a w := by
  have hhd : ∀ z, (g.upd y (g.hd y) (g.hd y).ownBlock.toList).hd z = g.hd z := fun z => by
    by_cases h : z = y
    · subst h; simp [Gh.upd, upd_eq]
    · simp [Gh.upd, upd_ne _ _ h]
  have hfp : ∀ z b, b ∈ (g.upd y (g.hd y) (g.hd y).ownBlock.toList).fp z → b ∈ g.fp z := fun z b hb => by
    by_cases h : z = y
    · subst h
      obtain ⟨_, _, _, _, _, _, h5, _⟩ := R.arrAll hy
      simp only [Gh.upd, upd_eq] at hb
      rw [h5]; simp only [List.mem_append]; exact .inl hb
    · simpa [Gh.upd, upd_ne _ _ h] using hb
  have hlive : ∀ z, Ob.live ((σ.setO y (.arr e ks false xs)).obj z) = Ob.live (σ.obj z) := fun z => by
    rw [St.obj_setO]
    split
    · rename_i h; subst h; rw [hy]; rfl
    · rfl
  have hme : ∀ b o, Me C.M (σ.setO y (.arr e ks false xs)).obj (g.upd y (g.hd y) (g.hd y).ownBlock.toList).hd (g.upd y (g.hd y) (g.hd y).ownBlock.toList).fp b o → Me C.M σ.obj g.hd g.fp b o := fun b o hm => by
    rcases hm with hm | ⟨z, hl, hb⟩ | ⟨z, hl, hb⟩
    · exact .inl hm
    · exact .inr (.inl ⟨z, by rw [← hlive z]; exact hl, by rw [← hhd z]; exact hb⟩)
    · exact .inr (.inr ⟨z, by
        rw [St.obj_setO] at hl
        split at hl
        · simp [Ob.isX] at hl
        · exact hl, hfp z b hb⟩)
  have hk : Keeps w (Me C.M σ.obj g.hd g.fp) w (Me C.M (σ.setO y (.arr e ks false xs)).obj (g.upd y (g.hd y) (g.hd y).ownBlock.toList).hd (g.upd y (g.hd y) (g.hd y).ownBlock.toList).fp) := fun b o v hc hn => ⟨hc, fun hm => hn (hme b o hm)⟩
  have hs : Shift (sur C g σ w) (sur C (g.upd y (g.hd y) (g.hd y).ownBlock.toList) (σ.setO y (.arr e ks false xs)) w) := by
    refine ⟨hk, fun x p v hr => ?_, fun x i j v hp => ?_, lod_setO rfl (fun z _ => hhd z) fun _ _ _ _ _ _ h _ => h, obx_setO rfl fun z _ => hhd z⟩
    · unfold RefRep at hr ⊢
      simp only [sur, hhd, St.obj_setO] at hr ⊢
      by_cases hx : x = y
      · subst hx
        rw [if_pos rfl]
        rw [hy] at hr
        exact hr
      · rw [if_neg hx]
        cases he : σ.obj x with
        | none => rw [he] at hr; exact hr
        | some q =>
          rw [he] at hr
          cases q with
          | «sealed» e ks xs => exact ⟨hr.1, hr.2.keeps hk⟩
          | _ => exact hr
    · unfold PtrRep at hp ⊢
      simp only [sur, hhd, St.obj_setO] at hp ⊢
      by_cases hx : x = y
      · subst hx
        rw [if_pos rfl]
        rw [hy] at hp
        exact hp
      · rw [if_neg hx]; exact hp
  refine R.move rfl hs (fun z => ?_) (fun z => ?_) (fun z z' hne b hb hb' => R.apart z z' hne b (hfp z b hb) (hfp z' b hb')) (fun z b hb => R.alw z b (hfp z b hb)) R.fr
  · by_cases hz : z = y
    · subst hz
      obtain ⟨vss, fps, h1, h2, h3, h4, h5, hlen, h6⟩ := R.arrAll hy
      unfold RepOb
      simp only [sur, St.obj_setO, if_true, hhd]
      refine ⟨vss, List.replicate xs.length [], h1, h2, h3, by simp, by simp [Gh.upd, upd_eq], fun i row vs f e1 e2 e3 => ?_⟩
      have hi := (List.getElem?_eq_some_iff.1 e2).1
      have hf : fps[i]? = some fps[i] := List.getElem?_eq_getElem (by omega)
      simp only [Bool.false_eq_true, if_false]
      exact ⟨(h6 i row vs _ e1 e2 hf).1.keeps hk, (List.mem_replicate.1 (List.mem_of_getElem? e3)).2⟩
    · refine (R.objs z).shift hs ?_ (hhd z) ?_ fun b _ => rfl
      · simp [sur, St.obj_setO, hz]
      · simp [Gh.upd, upd_ne _ _ hz]
  · by_cases hz : z = y
    · subst hz
      obtain ⟨_, _, _, _, _, _, h5, _⟩ := R.arrAll hy
      have := R.own z
      rw [h5] at this
      simpa [Gh.upd, upd_eq] using (List.nodup_append.1 this).1
    · simpa [Gh.upd, upd_ne _ _ hz] using R.own z
def undeepOne (s : SSt) (y : Nat) : SSt := match s.obj y with
  | some (.arr e ks true xs) => s.setO y (.arr e ks false xs)
  | _ => s
theorem Rel.undeepOne (R : Rel C g (s.den Φ env) a w) (y : Nat) : ∃ g', Rel C g' ((undeepOne s y).den Φ env) a w := by
  unfold Vx.undeepOne
  split
  · rename_i e ks xs hy
    have := R.undeep (obj_is (Φ := Φ) (env := env) hy)
    have e1 : (s.setO y (.arr e ks false xs)).den Φ env = (s.den Φ env).setO y (.arr e ks false (xs.den Φ env).asList) := by rw [SSt.den_setO]; rfl
    exact ⟨g.upd y (g.hd y) (g.hd y).ownBlock.toList, by rw [e1]; exact this⟩
  · exact ⟨g, R⟩
def undeepAll (s : SSt) : List Nat → SSt
  | [] => s
  | y :: l => undeepAll (undeepOne s y) l
theorem Rel.undeepAll : ∀ (l : List Nat) {g : Gh} {s : SSt}, Rel C g (s.den Φ env) a w → ∃ g', Rel C g' ((undeepAll s l).den Φ env) a w
  | [], g, s, R => ⟨g, R⟩
  | y :: l, g, s, R => by
    obtain ⟨g1, R1⟩ := R.undeepOne y
    exact Rel.undeepAll l R1

/-! Other names. -/
def klook (x : Nat) : List (Nat × Nat) → Option Nat
  | [] => none
  | (y, z) :: l => bif x == y then some z else klook x l
def rlook (x : Nat) : List (Nat × Nat) → Option Nat
  | [] => none
  | (y, z) :: l => bif x == z then some y else rlook x l
def renObjs (s : SSt) (m : Nat → Option Nat) : List (Nat × Nat) → Option (List (Nat × SOb))
  | [] => some []
  | (x, y) :: l => match s.obj x, renObjs s m l with
    | some o, some r => some ((y, o.mapK m) :: r)
    | _, _ => none
def isN (x : Option Nat) (n : Nat) : Bool := match x with
  | some m => m == n
  | none => false
def SSt.ren (ps : List (Nat × Nat)) (s : SSt) : Option SSt :=
  bif (ps.all fun p => isN (klook p.1 ps) p.2 && isN (rlook p.2 ps) p.1) && s.objs.all fun p => Nat.blt p.1 1000000000 || isN (rlook p.1 ps) p.1 then match renObjs s (fun x => klook x ps) ps with
    | some r => some ⟨s.tmps.map (SV.mapK fun x => klook x ps), r⟩
    | none => none
  else none

theorem klook_mem {x y : Nat} : ∀ {l : List (Nat × Nat)}, klook x l = some y → (x, y) ∈ l
  | [], h => by simp [klook] at h
  | (u, v) :: l, h => by
    simp only [klook] at h
    cases hx : x == u with
    | true =>
      rw [hx] at h
      simp only [cond_true, Option.some.injEq] at h
      have : x = u := by simpa using hx
      subst this; subst h; simp
    | false => rw [hx] at h; exact List.mem_cons_of_mem _ (klook_mem h)
theorem rlook_mem {x y : Nat} : ∀ {l : List (Nat × Nat)}, rlook y l = some x → (x, y) ∈ l
  | [], h => by simp [rlook] at h
  | (u, v) :: l, h => by
    simp only [rlook] at h
    cases hx : y == v with
    | true =>
      rw [hx] at h
      simp only [cond_true, Option.some.injEq] at h
      have : y = v := by simpa using hx
      subst this; subst h; simp
    | false => rw [hx] at h; exact List.mem_cons_of_mem _ (rlook_mem h)
theorem isN_eq {x : Option Nat} {n : Nat} (h : isN x n = true) : x = some n := by
  cases x <;> simp_all [isN]
theorem renObjs_look {m : Nat → Option Nat} : ∀ {l : List (Nat × Nat)} {r : List (Nat × SOb)}, renObjs s m l = some r → ∀ y, slook y r = match rlook y l with | some x => (s.obj x).map (SOb.mapK m) | none => none
  | [], r, h, y => by simp only [renObjs, Option.some.injEq] at h; subst h; rfl
  | (x, z) :: l, r, h, y => by
    simp only [renObjs] at h
    split at h
    · rename_i o r' h1 h2
      simp only [Option.some.injEq] at h
      subst h
      simp only [slook, rlook]
      cases hy : y == z with
      | true => simp only [cond_true, h1, Option.map_some]
      | false => simp only [cond_false]; exact renObjs_look h2 y
    · cases h

theorem Rel.reN (R : Rel C g (s.den Φ env) a w) {ps : List (Nat × Nat)} (h : s.ren ps = some s') : ∃ g', Rel C g' (s'.den Φ env) a w := by
  unfold SSt.ren at h
  obtain ⟨h1, h2⟩ := bif_some h
  clear h
  simp only [List.all_eq_true, Bool.and_eq_true, Bool.or_eq_true] at h1
  obtain ⟨h1, hbig⟩ := h1
  split at h2
  · rename_i r hr
    simp only [Option.some.injEq] at h2
    subst h2
    refine ⟨_, R.ren (m := fun x => klook x ps) (n := fun y => rlook y ps) ⟨fun x y e => ?_, fun x y e => ?_, fun y => ?_⟩ (fun p hp => ?_) ?_⟩
    · exact isN_eq (h1 _ (klook_mem e)).2
    · exact isN_eq (h1 _ (rlook_mem e)).1
    · rw [SSt.den_obj, SSt.obj, renObjs_look hr]
      cases rlook y ps with
      | none => rfl
      | some x =>
        simp only [SSt.den_obj]
        cases s.obj x with
        | none => rfl
        | some o => simp [SOb.den_mapK]
    · obtain ⟨o, ho, _⟩ := R.pin p hp
      simp only [sur, SSt.den_obj] at ho
      have hm : ∃ q ∈ s.objs, q.1 = p.1 := by
        by_cases hq : ∃ q ∈ s.objs, q.1 = p.1
        · exact hq
        · rw [SSt.obj, slook_notin fun q hm he => hq ⟨q, hm, he⟩] at ho
          cases ho
      obtain ⟨q, hm, he⟩ := hm
      have hb := hbig q hm
      have := C.pinBig p hp
      rw [he] at hb
      rcases hb with hb | hb
      · have := Nat.le_of_ble_eq_true hb; omega
      · exact isN_eq hb
    · simp [SSt.den, Function.comp_def, SV.den_mapK]
  · cases h2

/-! The fit. -/
def nilsOf : Nat → List SV → List SV → List (Nat × Nat)
  | t, .one (.ref _ none) :: ps, .one (.nil _ _) :: vs => (t, 64000000 + t) :: nilsOf (t + 1) ps vs
  | t, _ :: ps, _ :: vs => nilsOf (t + 1) ps vs
  | _, _, _ => []
def pairC : SC → SC → List (Nat × Nat)
  | .ref k _, .ref k' _ => [(k', k)]
  | _, _ => []
def pairCs : List SC → List SC → List (Nat × Nat)
  | c :: cs, d :: ds => pairC c d ++ pairCs cs ds
  | _, _ => []
def pairV : SV → SV → List (Nat × Nat)
  | .one c, .one d => pairC c d
  | .agg cs, .agg ds => pairCs cs ds
  | .ptr k _ _, .ptr k' _ _ => [(k', k)]
  | .lod k _ _, .lod k' _ _ => [(k', k)]
  | _, _ => []
def pairVs : List SV → List SV → List (Nat × Nat)
  | v :: vs, u :: us => pairV v u ++ pairVs vs us
  | _, _ => []
def dedup : List (Nat × Nat) → List (Nat × Nat)
  | [] => []
  | p :: l => bif l.any fun q => q.1 == p.1 && q.2 == p.2 then dedup l else p :: dedup l
def pairB (H s : SSt) (l : List (Nat × Nat)) : List (Nat × Nat) := l.flatMap fun p => match H.obj p.2, s.obj p.1 with
  | some (.box _ cs), some (.box _ ds) => pairCs cs ds
  | _, _ => []
def pairsOf (H s : SSt) : List (Nat × Nat) :=
  let l := (s.objs.filterMap fun p => bif Nat.blt p.1 1000000000 then none else some (p.1, p.1)) ++ pairVs H.tmps s.tmps
  let l2 := dedup (l ++ pairB H s l)
  dedup (l2 ++ pairB H s l2)

def grabC (v : Nat) : SC → SC → Option E
  | .dat _ (.var i), .dat _ e => bif i == v then some e else none
  | .dat _ (.var i), .nil _ _ => bif i == v then some .nl else none
  | _, _ => none
def orE : Option E → Option E → Option E
  | some e, _ => some e
  | none, x => x
def grabCs (v : Nat) : List SC → List SC → Option E
  | c :: cs, d :: ds => orE (grabC v c d) (grabCs v cs ds)
  | _, _ => none
def grabV (v : Nat) : SV → SV → Option E
  | .one c, .one d => grabC v c d
  | .agg cs, .agg ds => grabCs v cs ds
  | _, _ => none
def grabVs (v : Nat) : List SV → List SV → Option E
  | c :: cs, d :: ds => orE (grabV v c d) (grabVs v cs ds)
  | _, _ => none
def grabO (v : Nat) : SOb → Option SOb → Option E
  | .arr _ _ _ (.var i), some (.arr _ _ _ e) => bif i == v then some e else none
  | .sealed _ _ (.var i), some (.sealed _ _ e) => bif i == v then some e else none
  | .arx _ _ (.var i), some (.arx _ _ e) => bif i == v then some e else none
  | .box _ cs, some (.box _ ds) => grabCs v cs ds
  | _, _ => none
def grabOs (v : Nat) (s : SSt) : List (Nat × SOb) → Option E
  | [] => none
  | (k, o) :: l => orE (grabO v o (s.obj k)) (grabOs v s l)
def grab (v : Nat) (H s : SSt) : E := (orE (grabVs v H.tmps s.tmps) (grabOs v s H.objs)).getD (.int 0)

def flatOf (H s : SSt) (l : List (Nat × Nat)) : List Nat := l.flatMap fun p => match H.obj p.2, s.obj p.1 with
  | some (.arr _ _ false _), some (.arr _ _ true _) => [p.1]
  | _, _ => []
def fit (n m : Nat) (H s : SSt) : Option (List E) :=
  let s1 := nilAll s (nilsOf 0 H.tmps s.tmps)
  let ps := pairsOf H s1
  match (undeepAll s1 (flatOf H s1 ps)).ren ps with
  | some s2 =>
    let es := (List.range m).map fun i => grab (n + i) H s2
    bif s2.le (H.sub n es) then some es else none
  | none => none

theorem fit_sound (R : Rel C g (s.den Φ env) a w) {n m : Nat} {H : SSt} {es : List E} (hn : n ≤ env.length) (h : fit n m H s = some es) :
    es.length = m ∧ ∃ g', Rel C g' (H.den Φ (envOf Φ env n es)) a w := by
  unfold fit at h
  simp only at h
  split at h
  · rename_i s2 h2
    obtain ⟨h3, h4⟩ := bif_some h
    clear h
    simp only [Option.some.injEq] at h4
    subst h4
    obtain ⟨g1, R1⟩ := R.nilAll (nilsOf 0 H.tmps s.tmps)
    obtain ⟨g3, R3⟩ := R1.undeepAll (flatOf H (nilAll s (nilsOf 0 H.tmps s.tmps)) (pairsOf H (nilAll s (nilsOf 0 H.tmps s.tmps))))
    obtain ⟨g2, R2⟩ := R3.reN h2
    refine ⟨by simp, g2, ?_⟩
    have := R2.le h3
    rwa [SSt.den_sub hn] at this
  · cases h
end

end Go.Vx

/-
  Vx, part 32: what a function returns.
-/
namespace Go.Vx
open Go.RowKit (Below)

def resS (tmps : Array Value) : ResultVar → Sem Value
  | .tmp t => pure (tmps.getD t undef)
  | .cell x t => do loadVar t (← asAddr (tmps.getD x undef))
theorem results_eq (fn : Func) (tmps : Array Value) : results fn tmps = (do
  let vs ← fn.results.mapM (resS tmps)
  pure (if h : vs.size = 1 then vs[0] else .tuple vs)) := rfl

/-- A result variable. -/
def resV (T : TypeId → TI) (s : SSt) : ResultVar → Option SV
  | .tmp t => some (s.tmp t)
  | .cell x t => bif (T t).ok then match s.tmp x with
    | .ptr y _ j => match s.obj y with
      | some (.box _ cs) => bif Nat.ble (j + (T t).ks.length) cs.length then some (smkA (T t).agg ((cs.drop j).take (T t).ks.length)) else none
      | _ => none
    | _ => none
    else none
def resVs (T : TypeId → TI) (s : SSt) : List ResultVar → Option (List SV)
  | [] => some []
  | r :: rs => match resV T s r, resVs T s rs with
    | some v, some vs => some (v :: vs)
    | _, _ => none

def finC (s : SSt) : RC → SC → Option (E × List Nat × List Nat)
  | .im k, .dat k' e => bif K.eqb k' k then some (e, [], []) else none
  | .im k, .nil t ks => bif K.eqb (.sl t ks) k then some (.nl, [], []) else none
  | .im k, .ref z p => match s.obj z with
    | some (.arr t ks _ xs) => bif K.eqb (.sl t ks) k then some (scut xs p, [], [z]) else none
    | some (.sealed t ks xs) => bif K.eqb (.sl t ks) k then some (scut xs p, [], []) else none
    | _ => none
  | .own t ks _, .nil t' ks' => bif t == t' && K.eqbs ks ks' then some (.nl, [], []) else none
  | .own t ks dp, .ref z none => match s.obj z with
    | some (.arr t' ks' dp' xs) => bif (t == t' && K.eqbs ks ks') && dp == dp' then some (xs, [z], []) else none
    | _ => none
  | _, _ => none
def finCs (s : SSt) : List RC → List SC → Option (List E × List Nat × List Nat)
  | [], [] => some ([], [], [])
  | r :: rs, c :: cs => match finC s r c, finCs s rs cs with
    | some (e, o, q), some (es, os, qs) => some (e :: es, o ++ os, q ++ qs)
    | _, _ => none
  | _, _ => none
def finV : List RSh → List SV → Option (List SC)
  | [], [] => some []
  | .one _ :: rs, .one c :: vs => (finV rs vs).map (c :: ·)
  | .agg ks :: rs, .agg cs :: vs => bif ks.length == cs.length then (finV rs vs).map (cs ++ ·) else none
  | _, _ => none
def fin (T : TypeId → TI) (rv : List ResultVar) (rets : List RSh) (s : SSt) : Option (List E) :=
  match resVs T s rv with
  | some vs => match finV rets vs with
    | some cs => match finCs s (rets.flatMap RSh.cells) cs with
      | some (es, os, qs) => bif nodupB (os ++ qs) then some es else none
      | none => none
    | none => none
  | none => none

section
variable {Φ : Fns} {env : List D} {C : Cx} {g : Gh} {s : SSt} {a : Act} {w : World}

theorem resV_run (R : Rel C g (s.den Φ env) a w) {r : ResultVar} {u : SV} (h : resV C.T s r = some u) : ∃ v, (resS a.tmps r).run C.P w = .ok v w ∧ RepAV (sur C g (s.den Φ env) w) (u.den Φ env) v := by
  cases r with
  | tmp t =>
    simp only [resV, Option.some.injEq] at h
    subst h
    have := R.tmps t
    rw [SSt.den_tmp] at this
    exact ⟨_, rfl, this⟩
  | cell x t =>
    simp only [resV] at h
    obtain ⟨ht, h2⟩ := bif_some h
    clear h
    split at h2
    · rename_i y i j hx
      split at h2
      · rename_i T cs hy
        obtain ⟨hn, h3⟩ := bif_some h2
        clear h2
        simp only [Option.some.injEq] at h3
        subst h3
        have hn := Nat.le_of_ble_eq_true hn
        have h' := R.tmps x
        rw [SSt.den_tmp, hx] at h'
        have h' : PtrRep (sur C g (s.den Φ env) w) y _ j (a.tmps.getD x undef) := h'
        have hy' := obj_is (Φ := Φ) (env := env) hy
        unfold PtrRep at h'
        simp only [sur, hy', SOb.den] at h'
        obtain ⟨b, hb, e⟩ := h'
        have ho' := R.objs y
        unfold RepOb at ho'
        simp only [sur, hy', SOb.den] at ho'
        obtain ⟨b', vs, hb', _, hh, hcs⟩ := ho'
        rw [hb] at hb'
        simp only [Value.pointer.injEq, Option.some.injEq, Addr.mk.injEq, and_true] at hb'
        subst hb'
        have hrow : Row w b 0 vs := Row.of_get fun q v hv => by
          rw [Nat.zero_add, cell_of_row w b q _ _ _ hh]
          simpa using hv
        have hr2 := (hrow.drop j).take (C.T t).ks.length
        rw [Nat.zero_add] at hr2
        have hl : ((vs.drop j).take (C.T t).ks.length).length = (C.T t).ks.length := by
          rw [List.length_take, List.length_drop, hcs.length, List.length_map]; omega
        refine ⟨mkV (C.T t).agg ((vs.drop j).take (C.T t).ks.length), ?_, ?_⟩
        · simp only [resS]
          rw [e]
          simp only [asAddr, Sem.run_bind, Sem.run_pure]
          exact run_loadVar' (C.tok t ht) hr2 hl
        · rw [smkA_den, List.map_take, List.map_drop]
          exact mkA_rep (RepACs.take _ (RepACs.drop _ hcs))
      · cases h2
    · cases h2

theorem resVs_run (R : Rel C g (s.den Φ env) a w) : ∀ {rv : List ResultVar} {us : List SV}, resVs C.T s rv = some us → ∃ vs, (rv.mapM (resS a.tmps)).run C.P w = .ok vs w ∧ RepAVs (sur C g (s.den Φ env) w) (us.map (SV.den Φ env)) vs
  | [], us, h => by simp only [resVs, Option.some.injEq] at h; subst h; exact ⟨[], by simp, rfl⟩
  | r :: rs, us, h => by
    simp only [resVs] at h
    split at h
    · rename_i v vs h1 h2
      simp only [Option.some.injEq] at h
      subst h
      obtain ⟨x, q1, q2⟩ := resV_run R h1
      obtain ⟨xs, q3, q4⟩ := resVs_run R h2
      exact ⟨x :: xs, by simp [List.mapM_cons, q1, q3], ⟨x, xs, rfl, q2, q4⟩⟩
    · cases h

theorem finV_rep {S : Sur} : ∀ {rets : List RSh} {us : List SV} {cs : List SC} {vs : List Value}, RepAVs S (us.map (SV.den Φ env)) vs → finV rets us = some cs →
    ∃ xs, RepACs S (cs.map (SC.den Φ env)) xs ∧ vs = mkRets rets xs ∧ xs.length = (rets.flatMap RSh.cells).length
  | [], [], cs, vs, h, hf => by
    simp only [finV, Option.some.injEq] at hf
    subst hf
    exact ⟨[], rfl, h, rfl⟩
  | .one r :: rs, .one c :: us, cs, vs, h, hf => by
    simp only [finV, Option.map_eq_some_iff] at hf
    obtain ⟨cs', h1, rfl⟩ := hf
    obtain ⟨v, vs', rfl, hv, h'⟩ := h
    obtain ⟨xs, q1, q2, q3⟩ := finV_rep h' h1
    exact ⟨v :: xs, ⟨v, xs, rfl, hv.2, hv.1, q1⟩, by simp [mkRets, RSh.mk, RSh.cells, q2], by simp [RSh.cells, q3]⟩
  | .agg ks :: rs, .agg c :: us, cs, vs, h, hf => by
    simp only [finV] at hf
    obtain ⟨hl, hf⟩ := bif_some hf
    simp only [Option.map_eq_some_iff] at hf
    obtain ⟨cs', h1, rfl⟩ := hf
    obtain ⟨v, vs', rfl, hv, h'⟩ := h
    obtain ⟨ys, rfl, hy⟩ := hv
    obtain ⟨xs, q1, q2, q3⟩ := finV_rep h' h1
    have hyl : ys.length = ks.length := by rw [hy.length]; simp only [List.length_map]; exact (beq_iff_eq.1 hl).symm
    refine ⟨ys ++ xs, ?_, ?_, ?_⟩
    · rw [List.map_append]; exact hy.append q1
    · simp [mkRets, RSh.mk, RSh.cells, q2, hyl]
    · simp [RSh.cells, q3, hyl]
  | [], _ :: _, _, _, _, hf => by simp [finV] at hf
  | .one _ :: _, [], _, _, _, hf => by simp [finV] at hf
  | .agg _ :: _, [], _, _, _, hf => by simp [finV] at hf
  | .one _ :: _, .agg _ :: _, _, _, _, hf => by simp [finV] at hf
  | .one _ :: _, .ptr .. :: _, _, _, _, hf => by simp [finV] at hf
  | .one _ :: _, .pim .. :: _, _, _, _, hf => by simp [finV] at hf
  | .one _ :: _, .tup .. :: _, _, _, _, hf => by simp [finV] at hf
  | .one _ :: _, .whn .. :: _, _, _, _, hf => by simp [finV] at hf
  | .one _ :: _, .dead :: _, _, _, _, hf => by simp [finV] at hf
  | .agg _ :: _, .one _ :: _, _, _, _, hf => by simp [finV] at hf
  | .agg _ :: _, .ptr .. :: _, _, _, _, hf => by simp [finV] at hf
  | .agg _ :: _, .pim .. :: _, _, _, _, hf => by simp [finV] at hf
  | .agg _ :: _, .tup .. :: _, _, _, _, hf => by simp [finV] at hf
  | .agg _ :: _, .whn .. :: _, _, _, _, hf => by simp [finV] at hf
  | .agg _ :: _, .dead :: _, _, _, _, hf => by simp [finV] at hf

/-- The head of an array that is returned lies among its blocks. -/
theorem finCs_heads (R : Rel C g (s.den Φ env) a w) : ∀ {rs : List RC} {cs : List SC} {vs : List Value} {es : List E} {os qs : List Nat}, RepACs (sur C g (s.den Φ env) w) (cs.map (SC.den Φ env)) vs → finCs s rs cs = some (es, os, qs) →
    ∀ b ∈ retHeads rs vs, ∃ z ∈ os, Ob.live ((s.den Φ env).obj z) = true ∧ blkOf (g.hd z) = some b ∧ b ∈ g.fp z
  | [], cs, vs, es, os, qs, h, hf => by intro b hb; simp [retHeads] at hb
  | r :: rs, [], vs, es, os, qs, h, hf => by simp [finCs] at hf
  | r :: rs, c :: cs, vs, es, os, qs, h, hf => by
    obtain ⟨v, vs', rfl, ho, hc, h'⟩ := h
    simp only [finCs] at hf
    split at hf
    · rename_i e o q es' os' qs' h1 h2
      simp only [Option.some.injEq, Prod.mk.injEq] at hf
      obtain ⟨rfl, rfl, rfl⟩ := hf
      intro b hb
      simp only [retHeads, List.mem_append] at hb
      rcases hb with hb | hb
      · cases r with
        | im k => simp [RC.head] at hb
        | own t ks dp =>
          simp only [RC.head, Option.mem_toList] at hb
          cases c with
          | nil t' ks' =>
            have : v = .slice none 0 0 := hc
            subst this
            simp [Value.ownBlock] at hb
          | ref z p =>
            cases p with
            | some p => simp [finC] at h1
            | none =>
              simp only [finC] at h1
              split at h1
              · rename_i t' ks' dp' xs hz
                obtain ⟨_, h3⟩ := bif_some h1
                simp only [Option.some.injEq, Prod.mk.injEq] at h3
                obtain ⟨_, rfl, _⟩ := h3
                have hz' := obj_is (Φ := Φ) (env := env) hz
                have hr : RefRep (sur C g (s.den Φ env) w) z none v := hc
                unfold RefRep at hr
                simp only [sur, hz', SOb.den] at hr
                have hv := hr.2
                subst hv
                have hob := R.objs z
                unfold RepOb at hob
                simp only [sur, hz', SOb.den] at hob
                obtain ⟨vss, fps, hown, _, _, _, hfp, _⟩ := hob
                refine ⟨z, by simp, by rw [hz']; rfl, ?_, by rw [hfp]; simp [hb]⟩
                rcases ownsRow_cases hown with ⟨e1, _⟩ | ⟨b', c', e1, _⟩
                · rw [e1] at hb; simp [Value.ownBlock] at hb
                · rw [e1] at hb ⊢; simpa [Value.ownBlock, blkOf] using hb
              · cases h1
          | dat => simp [finC] at h1
          | dead => simp [finC] at h1
      · obtain ⟨z, hz, hq⟩ := finCs_heads R h' h2 b hb
        exact ⟨z, by simp [hz], hq⟩
    · cases hf

theorem finCs_rep (R : Rel C g (s.den Φ env) a w) {hs : List Nat} {OK : List Nat} (hhs : ∀ b ∈ hs, ∃ z ∈ OK, Ob.live ((s.den Φ env).obj z) = true ∧ blkOf (g.hd z) = some b ∧ b ∈ g.fp z) :
    ∀ {rs : List RC} {cs : List SC} {vs : List Value} {es : List E} {os qs : List Nat}, RepACs (sur C g (s.den Φ env) w) (cs.map (SC.den Φ env)) vs → finCs s rs cs = some (es, os, qs) → (∀ z ∈ qs, z ∉ OK) →
    ∃ Fs, RetCs w (MeH C.M hs) rs vs (es.map (E.den Φ env)) Fs ∧ Fs.flatten = os.flatMap g.fp
  | [], [], vs, es, os, qs, h, hf, _ => by
    simp only [finCs, Option.some.injEq, Prod.mk.injEq] at hf
    obtain ⟨rfl, rfl, rfl⟩ := hf
    exact ⟨[], ⟨h, rfl⟩, rfl⟩
  | [], _ :: _, vs, es, os, qs, h, hf, _ => by simp [finCs] at hf
  | r :: rs, [], vs, es, os, qs, h, hf, _ => by simp [finCs] at hf
  | r :: rs, c :: cs, vs, es, os, qs, h, hf, hq => by
    obtain ⟨v, vs', rfl, ho, hc, h'⟩ := h
    have weak : ∀ b o, MeH C.M hs b o → Me C.M (s.den Φ env).obj g.hd g.fp b o := fun b o hm => by
      rcases hm with hm | hm
      · exact .inl hm
      · obtain ⟨z, _, h1, h2, _⟩ := hhs b hm
        exact .inr (.inl ⟨z, h1, h2⟩)
    simp only [finCs] at hf
    split at hf
    · rename_i e o q es' os' qs' h1 h2
      simp only [Option.some.injEq, Prod.mk.injEq] at hf
      obtain ⟨rfl, rfl, rfl⟩ := hf
      obtain ⟨Fs, i1, i2⟩ := finCs_rep R hhs h' h2 fun z hz => hq z (by simp [hz])
      cases r with
      | im k =>
        have main : RepC w (MeH C.M hs) k v (e.den Φ env) ∧ o = [] := by
          cases c with
          | dat k' e' =>
            simp only [finC] at h1
            obtain ⟨h3, h4⟩ := bif_some h1
            simp only [Option.some.injEq, Prod.mk.injEq] at h4
            obtain ⟨rfl, rfl, rfl⟩ := h4
            rw [← K.eqb_eq h3]
            exact ⟨RepC.mono weak hc, rfl⟩
          | nil t ks =>
            simp only [finC] at h1
            obtain ⟨h3, h4⟩ := bif_some h1
            simp only [Option.some.injEq, Prod.mk.injEq] at h4
            obtain ⟨rfl, rfl, rfl⟩ := h4
            rw [← K.eqb_eq h3]
            exact ⟨RepC.mono weak (RepAC.dn hc), rfl⟩
          | ref z p =>
            simp only [finC] at h1
            split at h1
            · rename_i t ks dp xs hz
              obtain ⟨h3, h4⟩ := bif_some h1
              simp only [Option.some.injEq, Prod.mk.injEq] at h4
              obtain ⟨rfl, rfl, rfl⟩ := h4
              rw [← K.eqb_eq h3, scut_den]
              refine ⟨R.sealRep (obj_is hz) hc _ (fun b o v hcl hn => ⟨hcl, fun hm => hn (weak b o hm)⟩) (fun b hb p hm => ?_), rfl⟩
              rcases hm with hm | hm
              · have := C.mold b p hm
                rcases (R.alw z b hb).1 with h5 | h5
                · omega
                · exact this.2 h5
              · obtain ⟨z', hz', _, _, hfp⟩ := hhs b hm
                have : z ≠ z' := fun e => hq z (by simp) (e ▸ hz')
                exact R.apart z z' this b hb hfp
            · rename_i t ks xs hz
              obtain ⟨h3, h4⟩ := bif_some h1
              simp only [Option.some.injEq, Prod.mk.injEq] at h4
              obtain ⟨rfl, rfl, rfl⟩ := h4
              rw [← K.eqb_eq h3, scut_den]
              have hr : RefRep (sur C g (s.den Φ env) w) z (denP Φ env p) v := hc
              unfold RefRep at hr
              have ho : (sur C g (s.den Φ env) w).obj z = _ := obj_is (Φ := Φ) (env := env) hz
              rw [ho] at hr
              exact ⟨RepC.mono weak hr.2, rfl⟩
            · cases h1
          | dead => simp [finC] at h1
        obtain ⟨m1, rfl⟩ := main
        exact ⟨Fs, ⟨v, vs', rfl, m1, i1⟩, by simpa using i2⟩
      | own t ks dp =>
        have main : ∃ F, OwnRep w (MeH C.M hs) t ks dp v (e.den Φ env).asList F ∧ F = o.flatMap g.fp := by
          cases c with
          | nil t' ks' =>
            simp only [finC] at h1
            obtain ⟨h3, h4⟩ := bif_some h1
            simp only [Bool.and_eq_true, beq_iff_eq] at h3
            simp only [Option.some.injEq, Prod.mk.injEq] at h4
            obtain ⟨rfl, rfl, rfl⟩ := h4
            have hv : v = .slice none 0 0 := hc
            subst hv
            exact ⟨[], ⟨[], [], World.ownsRow_nil _ _ _ _, by simp [E.den, lenMax], rfl, rfl, rfl, fun i row vs f h => by simp [E.den] at h⟩, rfl⟩
          | ref z p =>
            cases p with
            | some p => simp [finC] at h1
            | none =>
              simp only [finC] at h1
              split at h1
              · rename_i t' ks' dp' xs hz
                obtain ⟨h3, h4⟩ := bif_some h1
                simp only [Option.some.injEq, Prod.mk.injEq] at h4
                obtain ⟨rfl, rfl, rfl⟩ := h4
                simp only [Bool.and_eq_true, beq_iff_eq] at h3
                obtain ⟨⟨rfl, h5⟩, rfl⟩ := h3
                have h6 := K.eqbs_eq h5
                subst h6
                have hz' := obj_is (Φ := Φ) (env := env) hz
                have hr : RefRep (sur C g (s.den Φ env) w) z none v := hc
                unfold RefRep at hr
                simp only [sur, hz', SOb.den] at hr
                have hv := hr.2
                subst hv
                have hob := R.objs z
                unfold RepOb at hob
                simp only [sur, hz', SOb.den] at hob
                obtain ⟨vss, fps, q1, q2, q3, q4, q5, q6⟩ := hob
                refine ⟨g.fp z, ⟨vss, fps, q1, q2, q3, q4, q5, fun i row vs f e1 e2 e3 => ?_⟩, by simp⟩
                have := q6 i row vs f e1 e2 e3
                split at this
                · rename_i hd; rw [if_pos hd]; exact this
                · rename_i hd; rw [if_neg hd]; exact ⟨RepCs.mono weak this.1, this.2⟩
              · cases h1
          | dat => simp [finC] at h1
          | dead => simp [finC] at h1
        obtain ⟨F, m1, rfl⟩ := main
        exact ⟨_ :: Fs, ⟨v, vs', _, Fs, rfl, rfl, m1, i1⟩, by simp [i2]⟩
    · cases hf

theorem fps_nodup (R : Rel C g (s.den Φ env) a w) : ∀ {os : List Nat}, os.Nodup → (os.flatMap g.fp).Nodup
  | [], _ => List.nodup_nil
  | z :: os, h => by
    obtain ⟨h1, h2⟩ := List.nodup_cons.1 h
    rw [List.flatMap_cons]
    refine List.nodup_append.2 ⟨R.own z, fps_nodup R h2, fun b hb c hc e => ?_⟩
    subst e
    obtain ⟨y, hy, hb'⟩ := List.mem_flatMap.1 hc
    exact R.apart z y (fun e => h1 (e ▸ hy)) b hb hb'

theorem fin_sound (R : Rel C g (s.den Φ env) a w) {fn : Func} {rets : List RSh} {es : List E} (h : fin C.T fn.results.toList rets s = some es) :
    ∃ us Fs, (results fn a.tmps).run C.P w = .ok (mkRet rets us) w ∧ RetCs w (MeH C.M (retHeads (rets.flatMap RSh.cells) us)) (rets.flatMap RSh.cells) us (es.map (E.den Φ env)) Fs ∧
      Fs.flatten.Nodup ∧ ∀ b, b ∈ Fs.flatten → (C.w0.heap.size ≤ b ∨ b ∈ C.X) ∧ b < w.heap.size := by
  unfold fin at h
  split at h
  · rename_i uv h1
    split at h
    · rename_i cs h2
      split at h
      · rename_i es' os qs h3
        obtain ⟨h4, h5⟩ := bif_some h
        clear h
        simp only [Option.some.injEq] at h5
        subst h5
        obtain ⟨vs, r1, r2⟩ := resVs_run R h1
        obtain ⟨us, q1, q2, q3⟩ := finV_rep r2 h2
        have hnd := nodupB_iff h4
        obtain ⟨n1, n2, n3⟩ := List.nodup_append.1 hnd
        obtain ⟨Fs, k1, k2⟩ := finCs_rep R (finCs_heads R q1 h3) q1 h3 fun z hz hz' => n3 z hz' z hz rfl
        refine ⟨us, Fs, ?_, k1, by rw [k2]; exact fps_nodup R n1, fun b hb => ?_⟩
        · rw [results_eq, show fn.results = fn.results.toList.toArray by simp]
          simp only [List.mapM_toArray, Sem.run_bind]
          have : ((List.toArray <$> List.mapM (resS a.tmps) fn.results.toList : Sem (Array Value))).run C.P w = .ok vs.toArray w := by simp [r1]
          rw [this]
          simp only [Result.andThen, Sem.run_pure]
          subst q2
          congr 1
          rcases rets with _ | ⟨r, _ | ⟨r2, rs⟩⟩
          · rfl
          · have : us.take r.cells.length = us := List.take_of_length_le (by rw [q3]; simp)
            simp [mkRets, mkRet, this]
          · simp [mkRets, mkRet]
        · rw [k2] at hb
          obtain ⟨z, hz, hb⟩ := List.mem_flatMap.1 hb
          exact R.alw z b hb
      · cases h
    · cases h
  · cases h
end

theorem finCs_len {s : SSt} : ∀ {rs : List RC} {cs : List SC} {es : List E} {os qs : List Nat}, finCs s rs cs = some (es, os, qs) → es.length = rs.length
  | [], [], es, os, qs, h => by simp only [finCs, Option.some.injEq, Prod.mk.injEq] at h; obtain ⟨rfl, _⟩ := h; rfl
  | [], _ :: _, _, _, _, h => by simp [finCs] at h
  | _ :: _, [], _, _, _, h => by simp [finCs] at h
  | r :: rs, c :: cs, es, os, qs, h => by
    simp only [finCs] at h
    split at h
    · rename_i e o q es' os' qs' h1 h2
      simp only [Option.some.injEq, Prod.mk.injEq] at h
      obtain ⟨rfl, _⟩ := h
      simp [finCs_len h2]
    · cases h
theorem fin_len {T : TypeId → TI} {rv : List ResultVar} {rets : List RSh} {s : SSt} {es : List E} (h : fin T rv rets s = some es) : es.length = (rets.flatMap RSh.cells).length := by
  unfold fin at h
  split at h
  · split at h
    · split at h
      · rename_i es' os qs h3
        obtain ⟨_, h5⟩ := bif_some h
        simp only [Option.some.injEq] at h5
        subst h5
        exact finCs_len h3
      · cases h
    · cases h
  · cases h

/-! Regions that draw, with effects: all orders are run, and must come to the same. -/

def cand (ops : Array Oper) (L : List Bool) : List Nat := (List.range ops.size).filter fun i => !(L.getD i true) && match ops[i]? with
  | some o => o.after.toList.all fun e => !Region.binds .any e || L.getD e.on false
  | none => false

abbrev Lay := List (List Bool × SSt)
def Lay.find (L : List Bool) : Lay → Option SSt
  | [] => none
  | (K, s) :: X => bif K == L then some s else find L X
def addC (c cs : List E) : List E := cs ++ c.filter fun e => !cs.any (E.eqb e)

def lstep (T : TypeId → TI) (CT : Nat → Option Sig) (ops : Array Oper) (L : List Bool) (s : SSt) : List Nat → List E → Lay → Option (List E × Lay)
  | [], cs, Y => some (cs, Y)
  | i :: l, cs, Y => match ops[i]? with
    | some o => match sstep T CT ops s o with
      | some (c, s') => match Y.find (L.set i true) with
        | some s2 => bif s'.le s2 then lstep T CT ops L s l (addC c cs) Y else none
        | none => lstep T CT ops L s l (addC c cs) ((L.set i true, s') :: Y)
      | none => none
    | none => none
def lall (T : TypeId → TI) (CT : Nat → Option Sig) (ops : Array Oper) : Lay → List E → Lay → Option (List E × Lay)
  | [], cs, Y => some (cs, Y)
  | (L, s) :: X, cs, Y => match cand ops L with
    | [] => none
    | i :: l => match lstep T CT ops L s (i :: l) cs Y with
      | some (cs', Y') => lall T CT ops X cs' Y'
      | none => none
def lrun (T : TypeId → TI) (CT : Nat → Option Sig) (ops : Array Oper) : Nat → Lay → List E → Option (List E × SSt)
  | 0, X, cs => match X with
    | [(L, s)] => bif (cand ops L).isEmpty then some (cs, s) else none
    | _ => none
  | n + 1, X, cs => match lall T CT ops X cs [] with
    | some (cs', Y) => lrun T CT ops n Y cs'
    | none => none
def arun (T : TypeId → TI) (CT : Nat → Option Sig) (ops : Array Oper) (s : SSt) : Option (List E × SSt) := lrun T CT ops ops.size [(List.replicate ops.size false, s)] []

theorem Lay.find_mem {L : List Bool} {s : SSt} : ∀ {X : Lay}, X.find L = some s → (L, s) ∈ X
  | [], h => by simp [Lay.find] at h
  | (K, s1) :: X, h => by
    simp only [Lay.find] at h
    cases hk : K == L with
    | true =>
      rw [hk] at h
      simp only [cond_true, Option.some.injEq] at h
      have : K = L := by simpa using hk
      subst this; subst h
      simp
    | false =>
      rw [hk] at h
      exact List.mem_cons_of_mem _ (Lay.find_mem h)

theorem mem_cand {ops : Array Oper} {listed : Array Bool} {L : List Bool} (hL : listed.toList = L) (i : Nat) : i ∈ Region.ready .any ops listed ↔ i ∈ cand ops L := by
  have hg : ∀ j b, L.getD j b = listed.getD j b := fun j b => by
    subst hL
    simp [List.getD_eq_getElem?_getD]
  rw [mem_ready]
  unfold cand
  rw [List.mem_filter, List.mem_range]
  cases ho : ops[i]? with
  | none => simp
  | some o =>
    have hlt : i < ops.size := (Array.getElem?_eq_some_iff.1 ho).1
    simp only [hlt, true_and, hg, Option.some.injEq, exists_eq_left', Bool.and_eq_true, Bool.not_eq_true', List.all_eq_true, Bool.or_eq_true, Array.mem_toList_iff]
    constructor
    · rintro ⟨h1, h2⟩
      refine ⟨h1, fun e he => ?_⟩
      cases hb : Region.binds .any e with
      | false => exact .inl rfl
      | true => exact .inr (h2 e he hb)
    · rintro ⟨h1, h2⟩
      exact ⟨h1, fun e he hb => (h2 e he).resolve_left (by simp [hb])⟩

section
variable {Φ : Fns} {env : List D} {C : Cx} {g : Gh} {s : SSt} {a : Act} {w : World} {CT : Nat → Option Sig} {ops : Array Oper}

theorem addC_ok {c cs : List E} (h : holds Φ env (addC c cs)) : holds Φ env c ∧ holds Φ env cs := by
  unfold addC at h
  have h2 : holds Φ env cs := fun e he => h e (List.mem_append.2 (.inl he))
  refine ⟨fun e he => ?_, h2⟩
  cases hx : cs.any (E.eqb e) with
  | true =>
    obtain ⟨y, hy, hey⟩ := List.any_eq_true.1 hx
    rw [E.eqb_eq hey]
    exact h2 y hy
  | false => exact h e (List.mem_append.2 (.inr (List.mem_filter.2 ⟨he, by simp [hx]⟩)))

theorem lstep_ok {T : TypeId → TI} {L : List Bool} : ∀ {l : List Nat} {cs cs' : List E} {Y Y' : Lay}, lstep T CT ops L s l cs Y = some (cs', Y') →
    (holds Φ env cs' → holds Φ env cs) ∧ (∀ p ∈ Y, p ∈ Y') ∧ ∀ i ∈ l, ∃ o c s' s2, ops[i]? = some o ∧ sstep T CT ops s o = some (c, s') ∧ (holds Φ env cs' → holds Φ env c) ∧ (L.set i true, s2) ∈ Y' ∧ (s' = s2 ∨ s'.le s2 = true)
  | [], cs, cs', Y, Y', h => by
    simp only [lstep, Option.some.injEq, Prod.mk.injEq] at h
    obtain ⟨rfl, rfl⟩ := h
    exact ⟨id, fun _ h => h, fun i hi => by simp at hi⟩
  | i :: l, cs, cs', Y, Y', h => by
    simp only [lstep] at h
    split at h
    · rename_i o ho
      split at h
      · rename_i c s' hs
        split at h
        · rename_i s2 h2
          obtain ⟨h3, h⟩ := bif_some h
          obtain ⟨k1, k2, k3⟩ := lstep_ok (l := l) h
          refine ⟨fun hh => (addC_ok (k1 hh)).2, k2, fun j hj => ?_⟩
          rcases List.mem_cons.1 hj with rfl | hj
          · exact ⟨o, c, s', s2, ho, hs, fun hh => (addC_ok (k1 hh)).1, k2 _ (Lay.find_mem h2), .inr h3⟩
          · exact k3 j hj
        · obtain ⟨k1, k2, k3⟩ := lstep_ok (l := l) h
          refine ⟨fun hh => (addC_ok (k1 hh)).2, fun p hp => k2 p (by simp [hp]), fun j hj => ?_⟩
          rcases List.mem_cons.1 hj with rfl | hj
          · exact ⟨o, c, s', s', ho, hs, fun hh => (addC_ok (k1 hh)).1, k2 _ (by simp), .inl rfl⟩
          · exact k3 j hj
      · cases h
    · cases h

theorem lall_ok {T : TypeId → TI} : ∀ {X : Lay} {cs cs' : List E} {Y Y' : Lay}, lall T CT ops X cs Y = some (cs', Y') →
    (holds Φ env cs' → holds Φ env cs) ∧ (∀ p ∈ Y, p ∈ Y') ∧ ∀ q ∈ X, cand ops q.1 ≠ [] ∧ ∀ i ∈ cand ops q.1, ∃ o c s' s2, ops[i]? = some o ∧ sstep T CT ops q.2 o = some (c, s') ∧ (holds Φ env cs' → holds Φ env c) ∧ (q.1.set i true, s2) ∈ Y' ∧ (s' = s2 ∨ s'.le s2 = true)
  | [], cs, cs', Y, Y', h => by
    simp only [lall, Option.some.injEq, Prod.mk.injEq] at h
    obtain ⟨rfl, rfl⟩ := h
    exact ⟨id, fun _ h => h, fun i hi => by simp at hi⟩
  | (L, s) :: X, cs, cs', Y, Y', h => by
    simp only [lall] at h
    split at h
    · cases h
    · rename_i i l hc
      split at h
      · rename_i cs1 Y1 h1
        obtain ⟨k1, k2, k3⟩ := lstep_ok (Φ := Φ) (env := env) h1
        obtain ⟨m1, m2, m3⟩ := lall_ok (X := X) h
        refine ⟨fun hh => k1 (m1 hh), fun p hp => m2 p (k2 p hp), fun q hq => ?_⟩
        rcases List.mem_cons.1 hq with rfl | hq
        · refine ⟨by simp only [hc]; simp, fun j hj => ?_⟩
          simp only [hc] at hj
          obtain ⟨o, c, s', s2, a1, a2, a3, a4, a5⟩ := k3 j hj
          exact ⟨o, c, s', s2, a1, a2, fun hh => a3 (m1 hh), m2 _ a4, a5⟩
        · exact m3 q hq
      · cases h

theorem lrun_ok (hCT : Told C.P Φ CT) {Q : Exit → Act → World → Prop} {sf : SSt} (hQ : ∀ a' w' g', Rel C g' (sf.den Φ env) a' w' → Q .normal a' w') : ∀ {n : Nat} {X : Lay} {cs cs' : List E}, lrun C.T CT ops n X cs = some (cs', sf) → holds Φ env cs' →
    holds Φ env cs ∧ ∀ q ∈ X, ∀ (listed : Array Bool) (g : Gh) (a : Act) (w : World), listed.toList = q.1 → Rel C g (q.2.den Φ env) a w → wpAny C.P .any ops Q n listed a w
  | 0, X, cs, cs', h, hh => by
    simp only [lrun] at h
    split at h
    · rename_i L s
      obtain ⟨h1, h2⟩ := bif_some h
      simp only [Option.some.injEq, Prod.mk.injEq] at h2
      obtain ⟨rfl, rfl⟩ := h2
      refine ⟨hh, fun q hq listed g a w hl R => ?_⟩
      simp only [List.mem_singleton] at hq
      subst hq
      refine ⟨?_, hQ a w g R⟩
      have h1 : cand ops L = [] := by simpa using h1
      refine List.eq_nil_iff_forall_not_mem.2 fun i hi => ?_
      have := (mem_cand hl i).1 hi
      simp [h1] at this
    · cases h
  | n + 1, X, cs, cs', h, hh => by
    simp only [lrun] at h
    split at h
    · rename_i cs1 Y h1
      obtain ⟨r1, r2⟩ := lrun_ok hCT hQ h hh
      obtain ⟨k1, _, k3⟩ := lall_ok (Φ := Φ) (env := env) h1
      refine ⟨k1 r1, fun q hq listed g a w hl R => ⟨fun hnil => ?_, fun i hi => ?_⟩⟩
      · obtain ⟨hne, _⟩ := k3 q hq
        obtain ⟨i, l, hc⟩ := List.exists_cons_of_ne_nil hne
        have := (mem_cand hl i).2 (by rw [hc]; simp)
        rw [hnil] at this
        simp at this
      · obtain ⟨o, c, s', s2, ho, hs, hc, hm, he⟩ := (k3 q hq).2 i ((mem_cand hl i).1 hi)
        have := sstep_sound R hCT hs (hc r1) (wpAny C.P .any ops Q n (listed.setIfInBounds i true)) Q fun a' w' g' R' => by
          refine r2 _ hm _ g' a' w' (by rw [Array.toList_setIfInBounds, hl]) ?_
          rcases he with rfl | he
          · exact R'
          · exact R'.le he
        unfold wpOp
        simp only [ho]
        split at this
        · rename_i hw; rw [if_pos hw]; exact .inl this
        · rename_i hw; rw [if_neg hw]; exact this
    · cases h

/-- A region that draws, with effects. -/
theorem arun_sound (hCT : Told C.P Φ CT) (hm : C.P.follows .mixedOrders = true) {id : Nat} {Q : Exit → Act → World → Prop} {cs : List E} {s' : SSt} (R : Rel C g (s.den Φ env) a w)
    (h : arun C.T CT ops s = some (cs, s')) (hc : holds Φ env cs) (hQ : ∀ a' w' g', Rel C g' (s'.den Φ env) a' w' → Q .normal a' w') : (Code.region id ops true).wp C.P Q a w := by
  have RR : Rel C g (s.den Φ env) a { w with drawn := w.drawn + 1 } := Rel.same (w := w) R rfl rfl rfl rfl
  exact wp_region_any hm ((lrun_ok hCT hQ h hc).2 _ (List.mem_singleton.2 rfl) _ g a _ (by simp) RR)
end

end Go.Vx

import Derived.Test.YtlkidecpmfhheaaGreatVxa
import Derived.Calls
set_option linter.all false
namespace Go.Vx
open Go.RowKit (Below)
mutual
def K.eqb : K → K → Bool
 | .int k, .int l => decide (k = l)
 | .bool, .bool => true
 | .str, .str => true
 | .sl e ks, .sl f ls => e == f && K.eqbs ks ls
 | _, _ => false
def K.eqbs : List K → List K → Bool
 | [], [] => true
 | k :: ks, l :: ls => K.eqb k l && K.eqbs ks ls
 | _, _ => false
end
mutual
theorem K.eqb_eq : ∀ {k l : K}, K.eqb k l = true → k = l
 | .int k, l, h => by cases l <;> simp_all [K.eqb]
 | .bool, l, h => by cases l <;> simp_all [K.eqb]
 | .str, l, h => by cases l <;> simp_all [K.eqb]
 | .sl e ks, l, h => by
   cases l <;> simp only [K.eqb, Bool.false_eq_true, Bool.and_eq_true, beq_iff_eq] at h
   obtain ⟨rfl, h⟩ := h
   rw [K.eqbs_eq h]
theorem K.eqbs_eq : ∀ {ks ls : List K}, K.eqbs ks ls = true → ks = ls
 | [], ls, h => by cases ls <;> simp_all [K.eqbs]
 | k :: ks, ls, h => by
   cases ls with
   | nil => simp [K.eqbs] at h
   | cons l ls =>
     simp only [K.eqbs, Bool.and_eq_true] at h
     rw [K.eqb_eq h.1, K.eqbs_eq h.2]
end
def datsE : List SC → Option (List K × List E)
 | [] => some ([], [])
 | .dat k e :: cs => match datsE cs with
   | some (ks, es) => some (k :: ks, e :: es)
   | none => none
 | _ :: _ => none
def eqE (k : K) (a b : E) : E := match k with
 | .int k => .op (.bin .eql k) [a, b]
 | .bool => .op .beq [a, b]
 | .str => .op (.sbin .eql) [a, b]
 | .sl _ _ => .bool false
def eqEs : List K → List E → List E → E
 | [k], [a], [b] => eqE k a b
 | k :: ks, a :: as, b :: bs => .op .and [eqE k a b, eqEs ks as bs]
 | _, _, _ => .bool true
def fEq (T : TypeId → TI) (s : SSt) (op : BinOp) (t : TypeId) (x y : Operand) (u : TypeId) : Option Res :=
 match sev T t s x, sev T u s y with
 | .agg cs, .agg cs' => match datsE cs, datsE cs' with
   | some (ks, es), some (ks', fs) => bif (T t).ok && ((T t).eq && (K.eqbs ks (T t).ks && K.eqbs ks' (T t).ks)) then match op with
     | .eql => some ⟨[], .one (.dat .bool (eqEs ks es fs)), []⟩
     | .neq => some ⟨[], .one (.dat .bool (.op .not [eqEs ks es fs])), []⟩
     | _ => none
     else none
   | _, _ => none
 | _, _ => none
def fUn (T : TypeId → TI) (s : SSt) (op : UnOp) (t : TypeId) (x : Operand) : Option Res :=
 match op, (sev T t s x).dn with
 | .not, .one (.dat .bool a) => some ⟨[], .one (.dat .bool (.op .not [a])), []⟩
 | .neg, .one (.dat (.int k) a) => some ⟨[], .one (.dat (.int k) (.op (.neg k) [a])), []⟩
 | _, _ => none
def fConv (T : TypeId → TI) (s : SSt) (st t : TypeId) (x : Operand) : Option Res :=
 match (T t).ik, (sev T st s x).dn with
 | some k', .one (.dat (.int _) a) => bif (T st).ok && (T t).ok then some ⟨[], .one (.dat (.int k') (.op (.wrap k') [a])), []⟩ else none
 | _, _ => none
def fIndex (T : TypeId → TI) (s : SSt) (t : TypeId) (x y : Operand) : Option Res :=
 match (sev T t s x).dn, (sev T 0 s y).dn with
 | .one (.dat .str a), .one (.dat (.int _) i) => bif (T t).ok && (T t).isStr then some ⟨[.op .le [.int 0, i], .op .lt [i, .op .slen [a]]], .one (.dat (.int .u8) (.op .sidx [a, i])), []⟩ else none
 | _, _ => none
def fPick (T : TypeId → TI) (s : SSt) (ty : TypeId) (c x y : Operand) : Option Res :=
 match (sev T 0 s c).dn, (sev T ty s x).core, (sev T ty s y).core with
 | .one (.dat .bool d), .one (.dat k a), .one (.dat k' b) =>
   bif K.eqb k k' then some ⟨(sev T ty s x).conds.map (fun e => .op .ite [d, e, .bool true]) ++ (sev T ty s y).conds.map (fun e => .op .ite [d, .bool true, e]), .one (.dat k (.op .ite [d, a, b])), []⟩ else none
 | _, _, _ => none
def fLen (T : TypeId → TI) (s : SSt) (t : TypeId) (x : Operand) : Option Res :=
 bif (T t).ok then match (T t).isStr with
   | true => match (sev T t s x).dn with
     | .one (.dat .str a) => some ⟨[], .one (.dat (.int .i64) (.op .slen [a])), []⟩
     | _ => none
   | false => bif (T t).sl.isSome then match sev T t s x with
     | .one (.ref z p) => match s.obj z with
       | some (.arr _ _ _ xs) => some ⟨[], .one (.dat (.int .i64) (plen xs p)), []⟩
       | some (.sealed _ _ xs) => some ⟨[], .one (.dat (.int .i64) (plen xs p)), []⟩
       | some (.arx _ _ xs) => bif p.isNone then some ⟨[], .one (.dat (.int .i64) (lenX 64 xs)), []⟩ else none
       | _ => none
     | v => match v.dn with
       | .one (.dat (.sl _ _) d) => some ⟨[], .one (.dat (.int .i64) (.op .len [d])), []⟩
       | _ => none
     else none
 else none
def fMin (T : TypeId → TI) (s : SSt) (b : Bool) (t t' : TypeId) (x y : Operand) : Option Res :=
 match (sev T t s x).dn, (sev T t' s y).dn with
 | .one (.dat (.int k) c), .one (.dat (.int k') d) => bif decide (k = k') then some ⟨[], .one (.dat (.int k) (.op .ite [bif b then .op (.bin .lss k) [d, c] else .op (.bin .lss k) [c, d], d, c])), []⟩ else none
 | _, _ => none
def fSlice (T : TypeId → TI) (s : SSt) (t : TypeId) (x : Operand) (lo hi : Option Operand) : Option Res :=
 bif (T t).ok then match (T t).isStr, (sev T t s x).dn with
   | true, .one (.dat .str a) => match sbnd T s (.int 0) lo, sbnd T s (.op .slen [a]) hi with
     | some l, some h => some ⟨[.op .le [.int 0, l], .op .le [l, h], .op .le [h, .op .slen [a]]], .one (.dat .str (.op .ssub [a, l, h])), []⟩
     | _, _ => none
   | false, .one (.dat (.sl e' ks) d) => match (T t).sl with
     | some e => bif (T e).ok && ks.length == (T e).ks.length then match sbnd T s (.int 0) lo, sbnd T s (.op .len [d]) hi with
       | some l, some h => some ⟨[.op .le [.int 0, l], .op .le [l, h], .op .le [h, .op .len [d]]], .one (.dat (.sl e' ks) (.op .cut [d, l, .op .subn [h, l]])), []⟩
       | _, _ => none
       else none
     | none => none
   | false, .one (.ref z p) => match (T t).sl, s.obj z with
     | some e, some (.arr _ ks _ xs) => bif (T e).ok && ks.length == (T e).ks.length then match sbnd T s (.int 0) lo, sbnd T s (plen xs p) hi with
       | some l, some h => some ⟨[.op .le [.int 0, l], .op .le [l, h], .op .le [h, plen xs p]], .one (.ref z (some (poff p l, .op .subn [h, l]))), []⟩
       | _, _ => none
       else none
     | _, _ => none
   | _, _ => none
 else none
def fExtract (T : TypeId → TI) (s : SSt) (x : Operand) (i : Nat) : Option Res :=
 match sev T 0 s x with
 | .tup vs => match vs[i]? with
   | some v => some ⟨[], v, []⟩
   | none => none
 | _ => none
def fField (T : TypeId → TI) (s : SSt) (st : TypeId) (x : Operand) (f : Nat) : Option Res :=
 match (T st).flds[f]?, sev T st s x with
 | some (off, ft), .agg cs => bif (T st).ok && ((T st).agg && ((T ft).ok && Nat.ble (off + (T ft).ks.length) cs.length)) then some ⟨[], smkA (T ft).agg ((cs.drop off).take (T ft).ks.length), []⟩ else none
 | _, _ => none
def fNilCheck (T : TypeId → TI) (s : SSt) (x : Operand) : Option Res :=
 match sev T 0 s x with
 | .ptr y i j => bif slive (s.obj y) then some ⟨[], .ptr y i j, []⟩ else none
 | _ => none
section
variable {Φ : Fns} {env : List D} {C : Cx} {g : Gh} {s : SSt} {a : Act} {w : World} {o : Oper}
theorem sbnd_den {T : TypeId → TI} {dflt : E} {d0 : Int} (hd : (dflt.den Φ env).asInt = d0) {x : Option Operand} {e : E} (h : sbnd T s dflt x = some e) : bnd T (s.den Φ env) d0 x = some (e.den Φ env).asInt := by
 cases x with
 | none => simp only [sbnd, Option.some.injEq] at h; subst h; simp [bnd, hd]
 | some x =>
   simp only [sbnd] at h
   split at h
   · rename_i k e' hx
     simp only [Option.some.injEq] at h
     subst h
     have := sev_dat (Φ := Φ) (env := env) hx
     simp only [bnd, this]
   · cases h
theorem datsE_den : ∀ {cs : List SC} {ks : List K} {es : List E}, datsE cs = some (ks, es) → cs.map (SC.den Φ env) = dats ks (es.map (E.den Φ env)) ∧ es.length = ks.length
 | [], ks, es, h => by simp only [datsE, Option.some.injEq, Prod.mk.injEq] at h; obtain ⟨rfl, rfl⟩ := h; exact ⟨rfl, rfl⟩
 | .dat k e :: cs, ks, es, h => by
   simp only [datsE] at h
   split at h
   · rename_i ks' es' h1
     simp only [Option.some.injEq, Prod.mk.injEq] at h
     obtain ⟨rfl, rfl⟩ := h
     obtain ⟨h2, h3⟩ := datsE_den h1
     exact ⟨by simp [dats, SC.den, h2], by simp [h3]⟩
   · cases h
 | .nil _ _ :: _, _, _, h => by simp [datsE] at h
 | .ref _ _ :: _, _, _, h => by simp [datsE] at h
 | .dead :: _, _, _, h => by simp [datsE] at h
theorem eqE_den (k : K) (a b : E) : ((eqE k a b).den Φ env).asBool = ceq k (a.den Φ env) (b.den Φ env) ∧ (eqE k a b).den Φ env = .bool (ceq k (a.den Φ env) (b.den Φ env)) := by
 cases k <;> simp [eqE, E.den, E.dens, opD, intV, intOp, strV, strOp, ceq, D.asBool]
theorem eqEs_den : ∀ (ks : List K) (as bs : List E), as.length = ks.length → bs.length = ks.length → (eqEs ks as bs).den Φ env = .bool (ceqs ks (as.map (E.den Φ env)) (bs.map (E.den Φ env)))
 | [], as, bs, h, h' => by
   rw [List.eq_nil_of_length_eq_zero h, List.eq_nil_of_length_eq_zero h']; rfl
 | [k], as, bs, h, h' => by
   obtain ⟨a, rfl⟩ := List.length_eq_one_iff.1 h
   obtain ⟨b, rfl⟩ := List.length_eq_one_iff.1 h'
   simp [eqEs, ceqs, (eqE_den k a b).2]
 | k :: k2 :: ks, a :: as, b :: bs, h, h' => by
   have ih := eqEs_den (k2 :: ks) as bs (by simpa using h) (by simpa using h')
   rw [show eqEs (k :: k2 :: ks) (a :: as) (b :: bs) = .op .and [eqE k a b, eqEs (k2 :: ks) as bs] from rfl]
   simp only [E.den, E.dens, opD, List.getD_cons_zero, List.getD_cons_succ, ih, (eqE_den k a b).1, D.asBool_bool, List.map_cons]
   rfl
 | _ :: _ :: _, [], _, h, _ => by simp at h
 | _ :: _ :: _, _ :: _, [], _, h' => by simp at h'
theorem good_eq (R : Rel C g (s.den Φ env) a w) {op : BinOp} {t u : TypeId} {x y : Operand} (ho : o.op = .binOp op t x y u) {r : Res} (h : fEq C.T s op t x y u = some r) : Good Φ env C s a w o r := fun hc => by
 unfold fEq at h
 split at h
 · rename_i cs cs' hx hy
   split at h
   · rename_i ks es ks' fs h1 h2
     obtain ⟨h3, h4⟩ := bif_some h
     clear h
     simp only [Bool.and_eq_true] at h3
     obtain ⟨q1, q2, q3, q4⟩ := h3
     have e1 := K.eqbs_eq q3
     have e2 := K.eqbs_eq q4
     obtain ⟨d1, l1⟩ := datsE_den (Φ := Φ) (env := env) h1
     obtain ⟨d2, l2⟩ := datsE_den (Φ := Φ) (env := env) h2
     have hx' := sev_is (Φ := Φ) (env := env) hx
     have hy' := sev_is (Φ := Φ) (env := env) hy
     rw [SV.den, d1, e1] at hx'
     rw [SV.den, d2, e2] at hy'
     have e3 : ks = ks' := e1.trans e2.symm
     subst e3
     split at h4
     · simp only [Option.some.injEq] at h4
       subst h4
       have := did_bin_agg R ho q1 q2 hx' hy' (.inl ⟨rfl, rfl⟩)
       rw [← e1] at this
       simpa [SV.den, SC.den, SSt.upds, eqEs_den ks es fs l1 l2] using this
     · simp only [Option.some.injEq] at h4
       subst h4
       have := did_bin_agg R ho q1 q2 hx' hy' (.inr ⟨rfl, rfl⟩)
       rw [← e1] at this
       simpa [SV.den, SC.den, SSt.upds, E.den, E.dens, opD, D.asBool, eqEs_den ks es fs l1 l2] using this
     · cases h4
   · cases h
 · cases h
theorem good_un (R : Rel C g (s.den Φ env) a w) {op : UnOp} {t : TypeId} {x : Operand} (ho : o.op = .unOp op t x) {r : Res} (h : fUn C.T s op t x = some r) : Good Φ env C s a w o r := fun hc => by
 unfold fUn at h
 split at h
 · rename_i a' hx
   simp only [Option.some.injEq] at h
   subst h
   exact did_not R ho (sev_dat hx)
 · rename_i k a' hx
   simp only [Option.some.injEq] at h
   subst h
   exact did_neg R ho (sev_dat hx)
 · cases h
theorem good_conv (R : Rel C g (s.den Φ env) a w) {st t : TypeId} {x : Operand} (ho : o.op = .convert st t x) {r : Res} (h : fConv C.T s st t x = some r) : Good Φ env C s a w o r := fun hc => by
 unfold fConv at h
 split at h
 · rename_i k' k a' hk hx
   obtain ⟨h1, h⟩ := bif_some h
   simp only [Bool.and_eq_true] at h1
   simp only [Option.some.injEq] at h
   subst h
   exact did_conv_int R ho h1.1 h1.2 hk (sev_dat hx)
 · cases h
theorem good_index (R : Rel C g (s.den Φ env) a w) {t : TypeId} {x y : Operand} (ho : o.op = .index t x y) {r : Res} (h : fIndex C.T s t x y = some r) : Good Φ env C s a w o r := fun hc => by
 unfold fIndex at h
 split at h
 · rename_i a' k i hx hy
   obtain ⟨h1, h⟩ := bif_some h
   simp only [Bool.and_eq_true] at h1
   simp only [Option.some.injEq] at h
   subst h
   have c0 := hc (.op .le [.int 0, i]) (by simp)
   have c1 := hc (.op .lt [i, .op .slen [a']]) (by simp)
   simp [E.den, E.dens, opD, D.asBool, D.asInt] at c0 c1
   exact did_index_str R ho h1.1 h1.2 (sev_dat hx) (sev_dat hy) c0 c1
 · cases h
theorem good_pick (R : Rel C g (s.den Φ env) a w) {c x y : Operand} (ho : o.op = .pick c x y) {r : Res} (h : fPick C.T s o.type c x y = some r) : Good Φ env C s a w o r := fun hc => by
 unfold fPick at h
 split at h
 · rename_i d k a' k' b' hd hx hy
   obtain ⟨h1, h2⟩ := bif_some h
   have h3 : k = k' := K.eqb_eq h1
   clear h h1
   subst h3
   simp only [Option.some.injEq] at h2
   subst h2
   have ex : (ev C.T o.type (s.den Φ env) x).core = .one (.dat k (a'.den Φ env)) := by rw [← sev_den (Φ := Φ) (env := env), ← SV.den_core, hx]; rfl
   have ey : (ev C.T o.type (s.den Φ env) y).core = .one (.dat k (b'.den Φ env)) := by rw [← sev_den (Φ := Φ) (env := env), ← SV.den_core, hy]; rfl
   refine did_pick R ho (sev_dat hd) ex ey (fun hd1 b hb => ?_) (fun hd1 b hb => ?_)
   · rw [← sev_den (Φ := Φ) (env := env), SV.den_conds, List.mem_map] at hb
     obtain ⟨e, he, rfl⟩ := hb
     have := hc (.op .ite [d, e, .bool true]) (List.mem_append.2 (.inl (List.mem_map.2 ⟨e, he, rfl⟩)))
     simpa [E.den, E.dens, opD, hd1] using this
   · rw [← sev_den (Φ := Φ) (env := env), SV.den_conds, List.mem_map] at hb
     obtain ⟨e, he, rfl⟩ := hb
     have := hc (.op .ite [d, .bool true, e]) (List.mem_append.2 (.inr (List.mem_map.2 ⟨e, he, rfl⟩)))
     simpa [E.den, E.dens, opD, hd1] using this
 · cases h
theorem good_len (R : Rel C g (s.den Φ env) a w) {t : TypeId} {x : Operand} (ho : o.op = .call { callee := .builtin .len, args := #[x], argTypes := #[t] }) {r : Res} (h : fLen C.T s t x = some r) : Good Φ env C s a w o r := fun hc => by
 unfold fLen at h
 obtain ⟨ht, h⟩ := bif_some h
 split at h
 · rename_i hs
   split at h
   · rename_i a' hx
     simp only [Option.some.injEq] at h
     subst h
     exact did_len_str R ho ht hs (sev_dat hx)
   · cases h
 · obtain ⟨h1, h⟩ := bif_some h
   obtain ⟨e', he'⟩ := Option.isSome_iff_exists.1 h1
   split at h
   · rename_i z p hx
     split at h
     · rename_i e ks dp xs hz
       simp only [Option.some.injEq] at h
       subst h
       have := did_len_ref R ho ht he' (sev_is hx) (obj_is hz)
       simpa [SV.den, SC.den, SSt.upds, plen_den] using this
     · rename_i e ks xs hz
       simp only [Option.some.injEq] at h
       subst h
       have := did_len_sealed R ho ht he' (sev_is hx) (obj_is hz)
       simpa [SV.den, SC.den, SSt.upds, plen_den] using this
     · rename_i e ks xs hz
       obtain ⟨hp, h⟩ := bif_some h
       simp only [Option.some.injEq] at h
       subst h
       have hp : p = none := by simpa using hp
       subst hp
       have := did_len_arx R ho ht he' (sev_is hx) (obj_is hz)
       simpa [SV.den, SC.den, SSt.upds, lenX_ok] using this
     · cases h
   · split at h
     · rename_i v hv e ks d hx
       simp only [Option.some.injEq] at h
       subst h
       exact did_len_dat R ho ht he' (sev_dat hx)
     · cases h
theorem lss_den (k : IntKind) (x y : E) : ((E.op (.bin .lss k) [x, y]).den Φ env).asBool = decide ((x.den Φ env).asInt < (y.den Φ env).asInt) := rfl
theorem good_min (R : Rel C g (s.den Φ env) a w) {b : Bool} {t t' : TypeId} {x y : Operand} (ho : o.op = .call { callee := .builtin (bif b then .min else .max), args := #[x, y], argTypes := #[t, t'] }) {r : Res} (h : fMin C.T s b t t' x y = some r) : Good Φ env C s a w o r := fun hc => by
 unfold fMin at h
 split at h
 · rename_i k c k' d hx hy
   obtain ⟨h1, h2⟩ := bif_some h
   clear h
   have h3 : k = k' := of_decide_eq_true h1
   subst h3
   simp only [Option.some.injEq] at h2
   subst h2
   refine did_min R b ho (sev_dat hx) (sev_dat hy) ?_
   show (if ((bif b then E.op (.bin .lss k) [d, c] else E.op (.bin .lss k) [c, d]).den Φ env).asBool = true then d.den Φ env else c.den Φ env).asInt = _
   cases b <;> simp only [cond_true, cond_false, lss_den, decide_eq_true_eq] <;> split <;> rfl
 · cases h
theorem good_slice (R : Rel C g (s.den Φ env) a w) {t : TypeId} {x : Operand} {lo hi : Option Operand} (ho : o.op = .slice t x lo hi none) {r : Res} (h : fSlice C.T s t x lo hi = some r) : Good Φ env C s a w o r := fun hc => by
 unfold fSlice at h
 obtain ⟨ht, h⟩ := bif_some h
 split at h
 · rename_i a' hs hx
   split at h
   · rename_i l hh hl hh'
     simp only [Option.some.injEq] at h
     subst h
     have c0 := hc (.op .le [.int 0, l]) (by simp)
     have c1 := hc (.op .le [l, hh]) (by simp)
     have c2 := hc (.op .le [hh, .op .slen [a']]) (by simp)
     simp [E.den, E.dens, opD, D.asBool, D.asInt] at c0 c1 c2
     exact did_slice_str R ho ht hs (sev_dat hx) (sbnd_den rfl hl) (sbnd_den rfl hh') c0 c1 c2
   · cases h
 · rename_i e' ks d hs hx
   split at h
   · rename_i e he
     obtain ⟨h1, h⟩ := bif_some h
     simp only [Bool.and_eq_true, beq_iff_eq] at h1
     split at h
     · rename_i l hh hl hh'
       simp only [Option.some.injEq] at h
       subst h
       have c0 := hc (.op .le [.int 0, l]) (by simp)
       have c1 := hc (.op .le [l, hh]) (by simp)
       have c2 := hc (.op .le [hh, .op .len [d]]) (by simp)
       simp [E.den, E.dens, opD, D.asBool, D.asInt] at c0 c1 c2
       have := did_slice_dat R ho ht he h1.1 (sev_dat hx) h1.2 (sbnd_den rfl hl) (sbnd_den rfl hh') c0 c1 c2
       simpa [SV.den, SC.den, SSt.upds, E.den, E.dens, opD, D.n, D.asInt] using this
     · cases h
   · cases h
 · rename_i z p hs hx
   split at h
   · rename_i e e' ks dp xs he hz
     obtain ⟨h1, h⟩ := bif_some h
     simp only [Bool.and_eq_true, beq_iff_eq] at h1
     split at h
     · rename_i l hh hl hh'
       simp only [Option.some.injEq] at h
       subst h
       have c0 := hc (.op .le [.int 0, l]) (by simp)
       have c1 := hc (.op .le [l, hh]) (by simp)
       have c2 := hc (.op .le [hh, plen xs p]) (by simp)
       simp [E.den, E.dens, opD, D.asBool, D.asInt, plen_den] at c0 c1 c2
       have hx' : sev C.T t s x = .one (.ref z p) := by
         generalize sev C.T t s x = v at hx
         cases v with
         | one c => cases c <;> simp_all [SV.dn, SC.dn]
         | _ => simp [SV.dn] at hx
       have := did_slice_ref R ho ht he h1.1 (sev_is hx') (obj_is hz) h1.2 (sbnd_den rfl hl) (sbnd_den (d0 := (cutLen (xs.den Φ env).asList (denP Φ env p) : Int)) (by rw [plen_den]; rfl) hh') c0 c1 c2
       have e1 : denP Φ env (some (poff p l, .op .subn [hh, l])) = some (cutOff (denP Φ env p) + (l.den Φ env).asInt.toNat, (hh.den Φ env).asInt.toNat - (l.den Φ env).asInt.toNat) := by
         simp only [denP, poff_den]
         rfl
       simpa [SV.den, SC.den, SSt.upds, e1] using this
     · cases h
   · cases h
 · cases h
theorem good_extract (R : Rel C g (s.den Φ env) a w) {x : Operand} {i : Nat} (ho : o.op = .extract x i) {r : Res} (h : fExtract C.T s x i = some r) : Good Φ env C s a w o r := fun hc => by
 unfold fExtract at h
 split at h
 · rename_i vs hx
   split at h
   · rename_i v hv
     simp only [Option.some.injEq] at h
     subst h
     refine did_extract R ho (us := vs.map (SV.den Φ env)) ?_ (by simp [hv])
     rw [sev_is hx, ← SV.dens_map]; rfl
   · cases h
 · cases h
theorem good_field (R : Rel C g (s.den Φ env) a w) {st : TypeId} {x : Operand} {f : Nat} (ho : o.op = .field st x f) {r : Res} (h : fField C.T s st x f = some r) : Good Φ env C s a w o r := fun hc => by
 unfold fField at h
 split at h
 · rename_i off ft cs hf hx
   obtain ⟨h1, h⟩ := bif_some h
   simp only [Bool.and_eq_true] at h1
   obtain ⟨q1, q2, q3, q4⟩ := h1
   simp only [Option.some.injEq] at h
   subst h
   have := did_field R ho q1 q2 hf q3 (sev_is hx) (by simpa using Nat.le_of_ble_eq_true q4)
   simpa [smkA_den, SSt.upds, List.map_take, List.map_drop] using this
 · cases h
theorem good_nilCheck (R : Rel C g (s.den Φ env) a w) {x : Operand} (ho : o.op = .nilCheck x) {r : Res} (h : fNilCheck C.T s x = some r) : Good Φ env C s a w o r := fun hc => by
 unfold fNilCheck at h
 split at h
 · rename_i y i j hx
   obtain ⟨h1, h⟩ := bif_some h
   simp only [Option.some.injEq] at h
   subst h
   exact did_nilCheck R ho (sev_is hx) (by rw [slive_den]; exact h1)
 · cases h
end
end Go.Vx
namespace Go.Vx
open Go.RowKit (Below)
def szero : K → SC
 | .int k => .dat (.int k) (.int 0)
 | .bool => .dat .bool (.bool false)
 | .str => .dat .str (.str ⟨#[]⟩)
 | .sl e ks => .nil e ks
def szeroE : K → E
 | .int _ => .int 0
 | .bool => .bool false
 | .str => .str ⟨#[]⟩
 | .sl _ _ => .nl
def sabsorb (s : SSt) : List SC → Option (List (Nat × SOb) × List K × List E × Bool)
 | [] => some ([], [], [], true)
 | .dat k d :: cs => match sabsorb s cs with
   | some (l, ks, ds, dp) => some (l, k :: ks, d :: ds, dp && k.plain)
   | none => none
 | .nil e ks' :: cs => match sabsorb s cs with
   | some (l, ks, ds, dp) => some (l, .sl e ks' :: ks, .nl :: ds, dp)
   | none => none
 | .ref y p :: cs => match s.obj y with
   | some (.arr e ks' dp' xs) => match sabsorb (s.setO y (.sealed e ks' xs)) cs with
     | some (l, ks, ds, dp) => some ((y, .sealed e ks' xs) :: l, .sl e ks' :: ks, scut xs p :: ds, dp && (dp' && p.isNone))
     | none => none
   | some (.sealed e ks' xs) => match sabsorb s cs with
     | some (l, ks, ds, dp) => some (l, .sl e ks' :: ks, scut xs p :: ds, false)
     | none => none
   | _ => none
 | .dead :: _ => none
def SV.cells? : SV → Option (List SC)
 | .agg cs => some cs
 | .one c => some [c]
 | _ => none
def sgather (n : Nat) : List SV → Option (List SC)
 | [] => some []
 | u :: us => match u.cells?, sgather n us with
   | some cs, some cs' => bif cs.length == n then some (cs ++ cs') else none
   | _, _ => none
def slay (flds : List (Nat × Nat)) : List SC → List (Nat × SV) → Option (List SC)
 | cs, [] => some cs
 | cs, (i, u) :: rest => match flds[i]?, u.cells? with
   | some (off, n), some cs' => bif cs'.length == n && Nat.ble (off + n) cs.length then slay flds (cs.take off ++ cs' ++ cs.drop (off + n)) rest else none
   | _, _ => none
section
variable {Φ : Fns} {env : List D}
theorem szero_den (k : K) : (szero k).den Φ env = zeroA k := by cases k <;> rfl
theorem szeroE_den (k : K) : (szeroE k).den Φ env = zeroD k := by cases k <;> rfl
theorem SV.cells_den (v : SV) {cs : List SC} (h : v.cells? = some cs) : (v.den Φ env).cells? = some (cs.map (SC.den Φ env)) := by
 cases v <;> simp only [SV.cells?, Option.some.injEq, reduceCtorEq] at h <;> subst h <;> rfl
theorem SSt.upds_append (s : SSt) (l l' : List (Nat × SOb)) : s.upds (l ++ l') = (s.upds l).upds l' := by
 induction l generalizing s with
 | nil => rfl
 | cons p l ih => obtain ⟨x, o⟩ := p; exact ih _
theorem sabsorb_den : ∀ (cs : List SC) {s : SSt} {l : List (Nat × SOb)} {ks : List K} {ds : List E} {dp : Bool}, sabsorb s cs = some (l, ks, ds, dp) →
   absorb (s.den Φ env) (cs.map (SC.den Φ env)) = some ((s.upds l).den Φ env, ks, ds.map (E.den Φ env), dp)
 | [], s, l, ks, ds, dp, h => by
   simp only [sabsorb, Option.some.injEq, Prod.mk.injEq] at h
   obtain ⟨rfl, rfl, rfl, rfl⟩ := h
   rfl
 | .dat k d :: cs, s, l, ks, ds, dp, h => by
   simp only [sabsorb] at h
   split at h
   · rename_i l1 ks1 ds1 dp1 h1
     simp only [Option.some.injEq, Prod.mk.injEq] at h
     obtain ⟨rfl, rfl, rfl, rfl⟩ := h
     simp [SC.den, absorb, sabsorb_den cs h1]
   · cases h
 | .nil e ks' :: cs, s, l, ks, ds, dp, h => by
   simp only [sabsorb] at h
   split at h
   · rename_i l1 ks1 ds1 dp1 h1
     simp only [Option.some.injEq, Prod.mk.injEq] at h
     obtain ⟨rfl, rfl, rfl, rfl⟩ := h
     simp [SC.den, absorb, sabsorb_den cs h1, E.den]
   · cases h
 | .ref y p :: cs, s, l, ks, ds, dp, h => by
   have hp : (denP Φ env p).isNone = p.isNone := by cases p <;> rfl
   simp only [sabsorb] at h
   split at h
   · rename_i e ks' dp' xs ho
     split at h
     · rename_i l1 ks1 ds1 dp1 h1
       simp only [Option.some.injEq, Prod.mk.injEq] at h
       obtain ⟨rfl, rfl, rfl, rfl⟩ := h
       have := sabsorb_den cs h1
       rw [SSt.den_setO] at this
       simp only [SOb.den] at this
       simp [SC.den, absorb, obj_is ho, SOb.den, this, scut_den, hp, SSt.upds]
     · cases h
   · rename_i e ks' xs ho
     split at h
     · rename_i l1 ks1 ds1 dp1 h1
       simp only [Option.some.injEq, Prod.mk.injEq] at h
       obtain ⟨rfl, rfl, rfl, rfl⟩ := h
       simp [SC.den, absorb, obj_is ho, SOb.den, sabsorb_den cs h1, scut_den]
     · cases h
   · cases h
 | .dead :: _, _, _, _, _, _, h => by simp [sabsorb] at h
theorem sabsorb_len : ∀ (cs : List SC) {s : SSt} {l : List (Nat × SOb)} {ks : List K} {ds : List E} {dp : Bool}, sabsorb s cs = some (l, ks, ds, dp) → ks.length = cs.length ∧ ds.length = cs.length
 | [], s, l, ks, ds, dp, h => by
   simp only [sabsorb, Option.some.injEq, Prod.mk.injEq] at h
   obtain ⟨rfl, rfl, rfl, rfl⟩ := h
   simp
 | .dat k d :: cs, s, l, ks, ds, dp, h => by
   simp only [sabsorb] at h
   split at h
   · rename_i l1 ks1 ds1 dp1 h1
     simp only [Option.some.injEq, Prod.mk.injEq] at h
     obtain ⟨rfl, rfl, rfl, rfl⟩ := h
     simpa using sabsorb_len cs h1
   · cases h
 | .nil e ks' :: cs, s, l, ks, ds, dp, h => by
   simp only [sabsorb] at h
   split at h
   · rename_i l1 ks1 ds1 dp1 h1
     simp only [Option.some.injEq, Prod.mk.injEq] at h
     obtain ⟨rfl, rfl, rfl, rfl⟩ := h
     simpa using sabsorb_len cs h1
   · cases h
 | .ref y p :: cs, s, l, ks, ds, dp, h => by
   simp only [sabsorb] at h
   split at h
   · split at h
     · rename_i l1 ks1 ds1 dp1 h1
       simp only [Option.some.injEq, Prod.mk.injEq] at h
       obtain ⟨rfl, rfl, rfl, rfl⟩ := h
       simpa using sabsorb_len cs h1
     · cases h
   · split at h
     · rename_i l1 ks1 ds1 dp1 h1
       simp only [Option.some.injEq, Prod.mk.injEq] at h
       obtain ⟨rfl, rfl, rfl, rfl⟩ := h
       simpa using sabsorb_len cs h1
     · cases h
   · cases h
 | .dead :: _, _, _, _, _, _, h => by simp [sabsorb] at h
theorem sgather_den (n : Nat) : ∀ (us : List SV) {cs : List SC}, sgather n us = some cs → gather n (us.map (SV.den Φ env)) = some (cs.map (SC.den Φ env)) ∧ cs.length = us.length * n
 | [], cs, h => by simp only [sgather, Option.some.injEq] at h; subst h; simp [gather]
 | u :: us, cs, h => by
   simp only [sgather] at h
   split at h
   · rename_i c1 c2 h1 h2
     obtain ⟨h3, h⟩ := bif_some h
     simp only [Option.some.injEq] at h
     subst h
     have h3 : c1.length = n := by simpa using h3
     obtain ⟨q1, q2⟩ := sgather_den n us h2
     simp only [List.map_cons, gather, SV.cells_den u h1, q1, List.length_map, h3, if_true, List.map_append, List.length_append, q2, List.length_cons, Nat.add_mul, true_and]
     omega
   · cases h
theorem slay_den (flds : List (Nat × Nat)) : ∀ (ps : List (Nat × SV)) {cs cs2 : List SC}, slay flds cs ps = some cs2 → layA flds (cs.map (SC.den Φ env)) (ps.map fun p => (p.1, p.2.den Φ env)) = some (cs2.map (SC.den Φ env))
 | [], cs, cs2, h => by simp only [slay, Option.some.injEq] at h; subst h; rfl
 | (i, u) :: ps, cs, cs2, h => by
   simp only [slay] at h
   split at h
   · rename_i off n cs' h1 h2
     obtain ⟨h3, h⟩ := bif_some h
     simp only [Bool.and_eq_true, beq_iff_eq] at h3
     have := slay_den flds ps h
     simp only [List.map_append, List.map_take, List.map_drop] at this
     simp only [List.map_cons, layA, h1, SV.cells_den u h2, List.length_map, h3.1, Nat.le_of_ble_eq_true h3.2, and_self, if_true, this]
   · cases h
end
def fAlloc (T : TypeId → TI) (key : Nat) (t : TypeId) : Option Res :=
 bif (T t).ok then some ⟨[], .ptr key (.int 0) 0, [(key, .box t ((T t).ks.map szero))]⟩ else none
def fBox (T : TypeId → TI) (key : Nat) (s : SSt) (t : TypeId) (y : Operand) : Option Res :=
 match (sev T t s y).cells? with
 | some cs => some ⟨[], .ptr key (.int 0) 0, [(key, .box t cs)]⟩
 | none => none
def fStore (T : TypeId → TI) (s : SSt) (t : TypeId) (x y : Operand) : Option Res :=
 match sev T 0 s x, (sev T t s y).cells? with
 | .ptr k i j, some cs' => bif (T t).ok && cs'.length == (T t).ks.length then match s.obj k with
   | some (.box B cs) => bif Nat.ble (j + cs'.length) cs.length then some ⟨[], .dead, [(k, .box B (cs.take j ++ cs' ++ cs.drop (j + cs'.length)))]⟩ else none
   | some (.arr e ks dp xs) => match sabsorb s cs' with
     | some (l, ks', ds', dp') => match (s.upds l).obj k with
       | some (.arr _ _ _ _) => bif K.eqbs ks' ((ks.drop j).take cs'.length) && (Nat.ble (j + cs'.length) ks.length && l.all fun p => !(p.1 == k)) then
           some ⟨[.op .ltlen [i, xs], .op (.rowlen ks.length) [.op .row [xs, i]]], .dead, l ++ [(k, .arr e ks (dp && dp') (.op .lset [xs, i, .op (.rput j) (.op .row [xs, i] :: ds')]))]⟩ else none
       | _ => none
     | none => none
   | some (.arx e ks xs) => match sev T t s y, ks[j]? with
     | .one (.dat kk d), some k2 => bif K.eqb kk k2 && (kk.plain && (!(T t).agg && okR ks.length 64 (arxR xs i).2)) then
         some ⟨[.op .ltlen [i, (arxR xs i).1], .op (.rowlen ks.length) [baseR 64 (arxR xs i).2]], .dead, [(k, .arx e ks (.op .lset [(arxR xs i).1, i, .op (.rput j) [(arxR xs i).2, d]]))]⟩ else none
     | _, _ => none
   | _ => none
   else none
 | _, _ => none
def fBuild (T : TypeId → TI) (s : SSt) (t : TypeId) (parts : List (Nat × Operand)) : Option Res :=
 bif (T t).ok && ((T t).agg && (T t).flds.all fun p => (T p.2).ok) then
   match slay ((T t).flds.map fun p => (p.1, (T p.2).ks.length)) ((T t).ks.map szero) (parts.map fun p => (p.1, sev T (((T t).flds.getD p.1 (0, 0)).2) s p.2)) with
   | some cs => some ⟨[], .agg cs, []⟩
   | none => none
 else none
def isIota : Nat → List Nat → Bool
 | _, [] => true
 | n, x :: l => x == n && isIota (n + 1) l
def fBuildSlice (T : TypeId → TI) (key : Nat) (s : SSt) (t : TypeId) (n : Nat) (parts : List (Nat × Operand)) : Option Res :=
 match (T t).sl with
 | some e => bif (T t).ok && ((T e).ok && (!((T e).ks.length == 0) && (Nat.ble (n * (T e).ks.length) 16777216 && (parts.length == n && isIota 0 (parts.map Prod.fst))))) then
     match sgather (T e).ks.length (parts.map fun p => sev T e s p.2) with
     | some cs => match sabsorb s cs with
       | some (l, ks', ds, dp) => bif K.eqbs ks' (List.replicate n (T e).ks).flatten then some ⟨[], .one (.ref key none), l ++ [(key, .arr e (T e).ks dp (.op (.rows (T e).ks.length) ds))]⟩ else none
       | none => none
     | none => none
   else none
 | none => none
def fMake (T : TypeId → TI) (key : Nat) (s : SSt) (t : TypeId) (x y : Operand) : Option Res :=
 match (T t).sl, (sev T 0 s x).dn, (sev T 0 s y).dn with
 | some e, .one (.dat (.int _) d), .one (.dat (.int _) d') =>
   bif (T t).ok && ((T e).ok && !((T e).ks.length == 0)) then
     some ⟨[.op .eqi [d', d], .op (.mkfit (T e).bytes) [d]], .one (.ref key none), [(key, .arr e (T e).ks true (.op .rep [d, .op .mk ((T e).ks.map szeroE)]))]⟩
   else none
 | _, _, _ => none
section
variable {Φ : Fns} {env : List D} {C : Cx} {g : Gh} {s : SSt} {a : Act} {w : World} {o : Oper} {key : Nat}
theorem none_den (h : s.obj key = none) : (s.den Φ env).obj key = none := by rw [SSt.den_obj, h]; rfl
theorem good_alloc (R : Rel C g (s.den Φ env) a w) (hk : s.obj key = none) {t : TypeId} (ho : o.op = .alloc t) {r : Res} (h : fAlloc C.T key t = some r) : Good Φ env C s a w o r := fun hc => by
 unfold fAlloc at h
 obtain ⟨ht, h⟩ := bif_some h
 simp only [Option.some.injEq] at h
 subst h
 have := did_alloc R ho ht (none_den hk)
 simpa [SSt.upds, SSt.den_setO, SOb.den, SV.den, E.den, D.n, D.asInt, Function.comp_def, szero_den] using this
theorem good_box (R : Rel C g (s.den Φ env) a w) (hk : s.obj key = none) {t : TypeId} {y : Operand} (ho : o.op = .box t y) {r : Res} (h : fBox C.T key s t y = some r) : Good Φ env C s a w o r := fun hc => by
 unfold fBox at h
 split at h
 · rename_i cs hy
   simp only [Option.some.injEq] at h
   subst h
   have := did_box R ho (by rw [← sev_den (Φ := Φ) (env := env)]; exact SV.cells_den _ hy) (none_den hk)
   simpa [SSt.upds, SSt.den_setO, SOb.den, SV.den, E.den, D.n, D.asInt] using this
 · cases h
theorem upds_obj (x : Nat) : ∀ (l : List (Nat × SOb)) (s : SSt), (l.all fun p => !(p.1 == x)) = true → ((s.upds l).den Φ env).obj x = (s.den Φ env).obj x
 | [], s, _ => rfl
 | (y, o) :: l, s, h => by
   simp only [List.all_cons, Bool.and_eq_true, Bool.not_eq_true', beq_eq_false_iff_ne, ne_eq] at h
   rw [show s.upds ((y, o) :: l) = (s.setO y o).upds l from rfl, upds_obj x l _ h.2, SSt.den_setO, St.obj_setO, if_neg fun e => h.1 e.symm]
theorem good_store (R : Rel C g (s.den Φ env) a w) {t : TypeId} {x y : Operand} (ho : o.op = .store t x y) {r : Res} (h : fStore C.T s t x y = some r) : Good Φ env C s a w o r := fun hc => by
 unfold fStore at h
 split at h
 · rename_i k i j cs' hx hy
   obtain ⟨h1, h⟩ := bif_some h
   simp only [Bool.and_eq_true, beq_iff_eq] at h1
   have ey : (ev C.T t (s.den Φ env) y).cells? = some (cs'.map (SC.den Φ env)) := by rw [← sev_den (Φ := Φ) (env := env)]; exact SV.cells_den _ hy
   split at h
   · rename_i B cs hk
     obtain ⟨h2, h⟩ := bif_some h
     simp only [Option.some.injEq] at h
     subst h
     have := did_store_box R ho h1.1 (sev_is hx) (obj_is hk) ey (by simpa using h1.2) (by simpa using Nat.le_of_ble_eq_true h2)
     simpa [SSt.upds, SSt.den_setO, SOb.den, SV.den, List.map_take, List.map_drop] using this
   · rename_i e ks dp xs hk
     split at h
     · rename_i l ks' ds' dp' hab
       split at h
       · obtain ⟨h2, h⟩ := bif_some h
         simp only [Bool.and_eq_true] at h2
         obtain ⟨q1, q2, q3⟩ := h2
         simp only [Option.some.injEq] at h
         subst h
         obtain ⟨_, hl2⟩ := sabsorb_len cs' hab
         have c0 := hc (.op .ltlen [i, xs]) (by simp)
         have c1 := hc (.op (.rowlen ks.length) [.op .row [xs, i]]) (by simp)
         simp only [E.den, E.dens, opD, D.asBool, decide_eq_true_eq, List.getD_cons_zero, List.getD_cons_succ] at c0 c1
         have := did_store_arr R ho h1.1 (sev_is hx) (obj_is hk) c0 c1 ey (sabsorb_den cs' hab) (by rw [upds_obj k l s q3]; exact obj_is hk) (by simpa using h1.2) (by simpa using hl2) (by simpa using K.eqbs_eq q1) (by simpa using Nat.le_of_ble_eq_true q2)
         simpa [SSt.upds_append, SSt.upds, SSt.den_setO, SOb.den, SV.den, E.den, E.dens, E.dens_map, opD, D.asList, D.row, D.n] using this
       · cases h
     · cases h
   · rename_i e ks xs hk
     split at h
     · rename_i kk d k2 hcs hk2
       obtain ⟨h2, h⟩ := bif_some h
       simp only [Bool.and_eq_true, Bool.not_eq_true'] at h2
       obtain ⟨q1, q2, q3⟩ := h2
       simp only [Option.some.injEq] at h
       subst h
       have e1 := K.eqb_eq q1
       subst e1
       have c0 := hc (.op .ltlen [i, (arxR xs i).1]) (by simp)
       have c1 := hc (.op (.rowlen ks.length) [baseR 64 (arxR xs i).2]) (by simp)
       simp only [E.den, E.dens, opD, D.asBool, decide_eq_true_eq, List.getD_cons_zero, List.getD_cons_succ] at c0 c1
       obtain ⟨x1, x2, x3⟩ := arxR_ok (Φ := Φ) (env := env) xs i c0
       have x4 := okR_len (Φ := Φ) (env := env) 64 (arxR xs i).2 q3.2 c1
       rw [x2] at x4
       have := did_store_arx R ho h1.1 (sev_is hx) (obj_is hk) (by rw [← x1]; exact c0) x4 (sev_is hcs) hk2 q2 q3.1
       simp only [← x3, ← x2] at this
       simpa [SSt.upds, SSt.den_setO, SOb.den, SV.den, E.den, E.dens, E.dens_map, opD, D.asList, D.row, D.n] using this
     · cases h
   · cases h
 · cases h
theorem good_build (R : Rel C g (s.den Φ env) a w) {t : TypeId} {parts : Array (Nat × Operand)} (ho : o.op = .build t parts) {r : Res} (h : fBuild C.T s t parts.toList = some r) : Good Φ env C s a w o r := fun hc => by
 unfold fBuild at h
 obtain ⟨h1, h⟩ := bif_some h
 simp only [Bool.and_eq_true, List.all_eq_true] at h1
 split at h
 · rename_i cs hl
   simp only [Option.some.injEq] at h
   subst h
   have := slay_den (Φ := Φ) (env := env) _ _ hl
   refine did_build R ho h1.1 h1.2.1 h1.2.2 ?_
   simpa [Function.comp_def, szero_den, sev_den] using this
 · cases h
theorem isIota_range : ∀ (l : List Nat) (n : Nat), isIota n l = true → l = List.range' n l.length
 | [], _, _ => rfl
 | x :: l, n, h => by
   simp only [isIota, Bool.and_eq_true, beq_iff_eq] at h
   rw [h.1, List.length_cons, List.range'_succ, ← isIota_range l (n + 1) h.2]
theorem good_buildSlice (R : Rel C g (s.den Φ env) a w) (hk : s.obj key = none) {t : TypeId} {n : Nat} {parts : Array (Nat × Operand)} (ho : o.op = .buildSlice t n parts) {r : Res} (h : fBuildSlice C.T key s t n parts.toList = some r) :
   Good Φ env C s a w o r := fun hc => by
 unfold fBuildSlice at h
 split at h
 · rename_i e he
   obtain ⟨h1, h⟩ := bif_some h
   simp only [Bool.and_eq_true, Bool.not_eq_true', beq_eq_false_iff_ne, ne_eq, beq_iff_eq] at h1
   obtain ⟨q1, q2, q3, q4, q5, q6⟩ := h1
   split at h
   · rename_i cs hg
     split at h
     · rename_i l ks' ds dp hab
       obtain ⟨h2, h⟩ := bif_some h
       simp only [Option.some.injEq] at h
       subst h
       obtain ⟨g1, g2⟩ := sgather_den (Φ := Φ) (env := env) _ _ hg
       obtain ⟨_, hl2⟩ := sabsorb_len cs hab
       have hio : parts.toList.map Prod.fst = List.range n := by
         have := isIota_range _ _ q6
         rw [List.length_map, q5, ← List.range_eq_range'] at this
         exact this
       have := did_buildSlice R ho q1 he q2 (by omega) (Nat.le_of_ble_eq_true q4) hio (by simpa [Function.comp_def, sev_den] using g1) (sabsorb_den cs hab) (K.eqbs_eq h2) (none_den hk)
       have hlen : ds.length / (C.T e).ks.length = n := by
         rw [hl2, g2, List.length_map, q5]
         exact Nat.mul_div_cancel _ (by omega)
       simpa [SSt.upds_append, SSt.upds, SSt.den_setO, SOb.den, SV.den, SC.den, denP, E.den, E.dens_map, opD, D.asList, hlen] using this
     · cases h
   · cases h
 · cases h
theorem good_make (R : Rel C g (s.den Φ env) a w) (hk : s.obj key = none) {t : TypeId} {x y : Operand} (ho : o.op = .makeSlice t x y) {r : Res} (h : fMake C.T key s t x y = some r) : Good Φ env C s a w o r := fun hc => by
 unfold fMake at h
 split at h
 · rename_i e k d k' d' he hx hy
   obtain ⟨h1, h⟩ := bif_some h
   simp only [Bool.and_eq_true, Bool.not_eq_true', beq_eq_false_iff_ne, ne_eq] at h1
   simp only [Option.some.injEq] at h
   subst h
   have c0 := hc (.op .eqi [d', d]) (by simp)
   have c1 := hc (.op (.mkfit (C.T e).bytes) [d]) (by simp)
   simp only [E.den, E.dens, opD, D.asBool, decide_eq_true_eq, List.getD_cons_zero, List.getD_cons_succ, D.n] at c0 c1
   have := did_make R ho h1.1 he h1.2.1 (by omega) (sev_dat hx) (sev_dat hy) c0 c1.1 c1.2.1 (by omega) (none_den hk)
   simpa [SSt.upds, SSt.den_setO, SOb.den, SV.den, SC.den, denP, E.den, E.dens, E.dens_map, opD, D.asList, D.row, D.n, Function.comp_def, szeroE_den] using this
 · cases h
end
end Go.Vx
namespace Go.Vx
open Go.RowKit (Below)
def ssrc (T : TypeId → TI) (s : SSt) (t : TypeId) (ks : List K) (y : Operand) : Option E := match sev T t s y with
 | .one (.ref z q) => match s.obj z with
   | some (.arr _ ks' _ xs) => bif K.eqbs ks' ks then some (scut xs q) else none
   | _ => none
 | v => match v.dn with
   | .one (.dat (.sl _ ks') d) => bif K.eqbs ks' ks then some d else none
   | _ => none
def offC : Option (E × E) → List E
 | none => []
 | some (o, _) => [.op .le [o, .int 0]]
def deepSrc (T : TypeId → TI) (s : SSt) (t : TypeId) (kd : Nat) (ks : List K) (dp : Bool) (y : Operand) : Option (Nat × TypeId × E) :=
 bif dp && !(plainK ks) then match sev T t s y with
   | .one (.ref z none) => bif z == kd then none else match s.obj z with
     | some (.arr e ks' true ys) => bif K.eqbs ks' ks then some (z, e, ys) else none
     | _ => none
   | _ => none
 else none
def fAppCore (T : TypeId → TI) (key : Nat) (s : SSt) (t e : TypeId) (y : Operand) (kd : Nat) (p : Option (E × E)) : Option Res :=
 match s.obj kd with
 | some (.arr e' ks dp xs) => bif e' == e && ks.length == (T e).ks.length then match deepSrc T s t kd ks dp y with
   | some (z, ez, ys) => some ⟨.op (.appfit (T e).bytes) [scut xs p, ys] :: offC p, .one (.ref key none), [(z, .sealed ez ks ys), (kd, .gone), (key, .arr e ks true (.op .lapp [scut xs p, ys]))]⟩
   | none => match ssrc T s t ks y with
   | some ys => some ⟨.op (.appfit (T e).bytes) [scut xs p, ys] :: offC p, .one (.ref key none), [(kd, .gone), (key, .arr e ks (dp && plainK ks) (.op .lapp [scut xs p, ys]))]⟩
   | none => none
   else none
 | _ => none
def fAppend (T : TypeId → TI) (key : Nat) (s : SSt) (t : TypeId) (x y : Operand) : Option Res :=
 match (T t).sl with
 | some e => bif (T t).ok && ((T e).ok && !((T e).ks.length == 0)) then match sev T t s x with
   | .one (.ref kd p) => fAppCore T key s t e y kd p
   | .one (.nil e' ks) => match s.obj (key + 1) with
     | none => match fAppCore T key (s.setO (key + 1) (.arr e' ks true .nl)) t e y (key + 1) none with
       | some r => some { r with upd := (key + 1, .arr e' ks true .nl) :: r.upd }
       | none => none
     | _ => none
   | _ => none
   else none
 | none => none
section
variable {Φ : Fns} {env : List D} {C : Cx} {g : Gh} {s : SSt} {a : Act} {w : World} {o : Oper} {key : Nat}
theorem ssrc_src (R : Rel C g (s.den Φ env) a w) {t : TypeId} {ks : List K} {y : Operand} {ys : E} (h : ssrc C.T s t ks y = some ys) : ∃ vssn, Src w (Me C.M (s.den Φ env).obj g.hd g.fp) ks (a.eval y) (ys.den Φ env).asList vssn := by
 unfold ssrc at h
 split at h
 · rename_i z q hy
   split at h
   · rename_i e ks' dp xs hz
     obtain ⟨h1, h2⟩ := bif_some h
     have h3 := K.eqbs_eq h1
     clear h h1
     subst h3
     simp only [Option.some.injEq] at h2
     subst h2
     have hr := ev_rep R t y
     rw [sev_is hy] at hr
     obtain ⟨vssn, S⟩ := R.src (obj_is hz) hr.1
     exact ⟨vssn, by rw [scut_den]; exact S⟩
   · cases h
 · split at h
   · rename_i v hv e ks' d hy
     obtain ⟨h1, h2⟩ := bif_some h
     have h3 := K.eqbs_eq h1
     clear h h1
     subst h3
     simp only [Option.some.injEq] at h2
     subst h2
     exact Src.of_dat (R.datv (sev_dat hy))
   · cases h
theorem Rel.srcDeep {σ : St} (R : Rel C g σ a w) {y : Nat} {e : TypeId} {ks : List K} {ys : List (List D)} (hy : σ.obj y = some (.arr e ks true ys)) {v : Value} (hr : RefRep (sur C g σ w) y none v) :
   ∃ (vssn : List (List Value)) (fpsn : List (List Nat)), Src w (Me C.M (σ.setO y (.sealed e ks ys)).obj (g.upd y (g.hd y) []).hd (g.upd y (g.hd y) []).fp) ks v ys vssn ∧ fpsn.length = ys.length ∧
     (∀ (i : Nat) (row : List D) (vs : List Value) (f : List Nat), ys[i]? = some row → vssn[i]? = some vs → fpsn[i]? = some f → RepDs w ks vs row f) ∧ fpsn.flatten.Nodup ∧ ∀ c, c ∈ fpsn.flatten → c ∈ g.fp y := by
 obtain ⟨vss, fps, h1, h2, h3, h4, h5, hlen, h6⟩ := R.arrAll hy
 unfold RefRep at hr
 simp only [sur, hy] at hr
 have hv := hr.2
 subst hv
 have hmem : ∀ c, c ∈ fps.flatten → c ∈ g.fp y := fun c hc => by rw [h5]; simp [hc]
 have hnd : fps.flatten.Nodup := by
   have := R.own y
   rw [h5] at this
   exact (List.nodup_append.1 this).2.1
 have hme : ∀ c, c ∈ g.fp y → ∀ o, ¬ Me C.M (σ.setO y (.sealed e ks ys)).obj (g.upd y (g.hd y) []).hd (g.upd y (g.hd y) []).fp c o := fun c hc o => R.notMe hc (fun z hl hb => by
   rw [St.obj_setO] at hl
   split at hl
   · simp [Ob.live] at hl
   · rename_i hz
     exact ⟨hl, hz, by simp [Gh.upd, upd_ne _ _ hz]⟩) (fun z hl hb => by
   rw [St.obj_setO] at hl
   split at hl
   · simp [Ob.isX] at hl
   · rename_i hz
     exact ⟨hz, by simpa [Gh.upd, upd_ne _ _ hz] using hb⟩) o
 refine ⟨vss, fps, ⟨h3, hlen, ?_, fun i row vs e1 e2 => ?_⟩, h4, fun i row vs f e1 e2 e3 => (h6 i row vs f e1 e2 e3).2.1 rfl, hnd, hmem⟩
 · rcases ownsRow_cases h1 with ⟨hh, h00⟩ | ⟨b, cap', hh, hn, _⟩
   · exact ⟨none, 0, by rw [hh, h00], fun h => by omega⟩
   · refine ⟨some ⟨b, 0, none⟩, cap', hh, fun _ => ⟨b, 0, rfl, ?_⟩⟩
     refine row_flatten (sz := ks.length) _ _ fun i vs hi => ?_
     have hr := ownsRow_row h1 hlen (by rw [hh]; rfl : (g.hd y).ownBlock = some b) hi
     rw [Nat.zero_add]
     exact ⟨hr, hlen vs (List.mem_of_getElem? hi)⟩
 · have hi := (List.getElem?_eq_some_iff.1 e2).1
   have hf : fps[i]? = some fps[i] := List.getElem?_eq_getElem (by omega)
   exact ((h6 i row vs _ e1 e2 hf).2.1 rfl).toC fun b hb o => hme b (hmem b (List.mem_flatten.2 ⟨_, List.getElem_mem _, hb⟩)) o
theorem setO_setO_comm_free {σ : St} {x : Nat} {o : Ob} {z : Nat} (h : z ≠ x) : (σ.setO x o).obj z = σ.obj z := by rw [St.obj_setO, if_neg h]
theorem good_appCore (R : Rel C g (s.den Φ env) a w) (hkey : s.obj key = none) {t e : TypeId} {x y : Operand} (ho : o.op = .call { callee := .builtin .append, args := #[x, y], argTypes := #[t, t] })
   (ht : (C.T t).ok = true) (hs : (C.T t).sl = some e) (het : (C.T e).ok = true) (hpos : 0 < (C.T e).ks.length) {kd : Nat} {p : Option (E × E)} (hx : RefRep (sur C g (s.den Φ env) w) kd (denP Φ env p) (a.eval x))
   {r : Res} (h : fAppCore C.T key s t e y kd p = some r) : Good Φ env C s a w o r := fun hc => by
 unfold fAppCore at h
 split at h
 · rename_i e' ks dp xs hk
   obtain ⟨h1, h2⟩ := bif_some h
   clear h
   simp only [Bool.and_eq_true, beq_iff_eq] at h1
   obtain ⟨h3, h4⟩ := h1
   subst h3
   split at h2
   · rename_i z ez ys hys
     simp only [Option.some.injEq] at h2
     subst h2
     unfold deepSrc at hys
     obtain ⟨hb, hys0⟩ := bif_some hys
     clear hys
     have hys := hys0
     clear hys0
     simp only [Bool.and_eq_true] at hb
     split at hys
     · rename_i z' hz'
       cases hzk : z' == kd with
       | true => rw [hzk] at hys; cases hys
       | false =>
         rw [hzk] at hys
         simp only [cond_false] at hys
         split at hys
         · rename_i e2 ks2 ys2 hzo
           obtain ⟨hk2, hys3⟩ := bif_some hys
           clear hys
           have hk3 := K.eqbs_eq hk2
           subst hk3
           have hys4 := Option.some.inj hys3
           clear hys3
           simp only [Prod.mk.injEq] at hys4
           obtain ⟨rfl, rfl, rfl⟩ := hys4
           have hne : z' ≠ kd := by simpa using hzk
           have hdp : dp = true := hb.1
           have hzo' := obj_is (Φ := Φ) (env := env) hzo
           have hrz : RefRep (sur C g (s.den Φ env) w) z' none (a.eval y) := by
             have := ev_rep R t y
             rw [sev_is hz'] at this
             exact this.1
           obtain ⟨vssn, fpsn, S, f1, f2, f3, f4⟩ := R.srcDeep hzo' hrz
           have R1 := R.shutOb hzo'
           have hkd1 : ((s.den Φ env).setO z' (.sealed e2 ks2 (ys2.den Φ env).asList)).obj kd = some (.arr e' ks2 dp (xs.den Φ env).asList) := by
             rw [setO_setO_comm_free (fun e => hne e.symm)]; exact obj_is hk
           have hx1 : RefRep (sur C (g.upd z' (g.hd z') []) ((s.den Φ env).setO z' (.sealed e2 ks2 (ys2.den Φ env).asList)) w) kd (denP Φ env p) (a.eval x) := by
             have hkd0 := obj_is (Φ := Φ) (env := env) hk
             have hhd : (g.upd z' (g.hd z') []).hd kd = g.hd kd := by simp [Gh.upd, upd_ne _ _ (fun e => hne e.symm : kd ≠ z')]
             unfold RefRep at hx ⊢
             simp only [sur] at hx ⊢
             rw [hkd1, hhd]
             rw [hkd0] at hx
             exact hx
           have hkn : ((s.den Φ env).setO z' (.sealed e2 ks2 (ys2.den Φ env).asList)).obj key = none := by
             rw [setO_setO_comm_free (fun e => by rw [e, hzo] at hkey; cases hkey)]
             exact none_den hkey
           have c0 := hc (.op (.appfit (C.T e').bytes) [scut xs p, ys2]) (by simp)
           simp only [E.den, E.dens, opD, D.asBool, decide_eq_true_eq, List.getD_cons_zero, List.getD_cons_succ, scut_den, D.asList] at c0
           have hp0 : cutOff (denP Φ env p) = 0 := by
             cases p with
             | none => rfl
             | some q =>
               obtain ⟨f, l⟩ := q
               have c1 := hc (.op .le [f, .int 0]) (by simp [offC])
               simp [E.den, E.dens, opD, D.asBool, D.asInt] at c1
               simp only [denP, cutOff, D.n]
               have c1' : (f.den Φ env).asInt ≤ 0 := c1
               omega
           have := did_append R1 ho ht hs het hpos hx1 hp0 hkd1 h4 S hkn (dp2 := true) (fun _ => ⟨hdp, fpsn, f1, f2, f3, fun c hcc => by
             have hcy := f4 c hcc
             refine ⟨fun z hz => ?_, R.alw _ c hcy⟩
             by_cases hzz : z = z'
             · subst hzz; simp [Gh.upd, upd_eq] at hz
             · simp only [Gh.upd, upd_ne _ _ hzz] at hz
               exact R.apart z z' hzz c hz hcy⟩) c0.1 c0.2
           simpa [SSt.upds, SSt.den_setO, SOb.den, SV.den, SC.den, denP, E.den, E.dens, opD, D.asList, scut_den] using this
         · cases hys
     · cases hys
   split at h2
   · rename_i ys hys
     simp only [Option.some.injEq] at h2
     subst h2
     obtain ⟨vssn, S⟩ := ssrc_src R hys
     have c0 := hc (.op (.appfit (C.T e').bytes) [scut xs p, ys]) (by simp)
     simp only [E.den, E.dens, opD, D.asBool, decide_eq_true_eq, List.getD_cons_zero, List.getD_cons_succ, scut_den, D.asList] at c0
     have hp0 : cutOff (denP Φ env p) = 0 := by
       cases p with
       | none => rfl
       | some q =>
         obtain ⟨f, l⟩ := q
         have c1 := hc (.op .le [f, .int 0]) (by simp [offC])
         simp [E.den, E.dens, opD, D.asBool, D.asInt] at c1
         simp only [denP, cutOff, D.n]
         have c1' : (f.den Φ env).asInt ≤ 0 := c1
         omega
     have := did_append R ho ht hs het hpos hx hp0 (obj_is hk) h4 S (none_den hkey) (dp2 := dp && plainK ks) (fun hd => by
       simp only [Bool.and_eq_true] at hd
       refine ⟨hd.1, List.replicate (ys.den Φ env).asList.length [], by simp, fun i row vs f e1 e2 e3 => ?_, by simp, fun c hcc => by simp at hcc⟩
       rw [(List.mem_replicate.1 (List.mem_of_getElem? e3)).2]
       exact (S.rows i row vs e1 e2).plain hd.2) c0.1 c0.2
     simpa [SSt.upds, SSt.den_setO, SOb.den, SV.den, SC.den, denP, E.den, E.dens, opD, D.asList, scut_den] using this
   · cases h2
 · cases h
theorem obj_setO_ne {x y : Nat} {ob : SOb} (h : x ≠ y) : (s.setO y ob).obj x = s.obj x := by
 have hd : ∀ l, slook x (sdrop y l) = slook x l := by
   intro l
   induction l with
   | nil => rfl
   | cons q l ih =>
     obtain ⟨z, ob'⟩ := q
     by_cases hz : y = z
     · subst hz
       have : (x == y) = false := by simpa using h
       simp [sdrop, slook, this, ih]
     · have : (y == z) = false := by simpa using hz
       simp [sdrop, slook, this, ih]
 have : (x == y) = false := by simpa using h
 simp [SSt.obj, SSt.setO, slook, this, hd]
theorem good_append (R : Rel C g (s.den Φ env) a w) (hkey : s.obj key = none) {t : TypeId} {x y : Operand} (ho : o.op = .call { callee := .builtin .append, args := #[x, y], argTypes := #[t, t] }) {r : Res}
   (h : fAppend C.T key s t x y = some r) : Good Φ env C s a w o r := by
 unfold fAppend at h
 split at h
 · rename_i e he
   obtain ⟨h1, h2⟩ := bif_some h
   clear h
   simp only [Bool.and_eq_true, Bool.not_eq_true', beq_eq_false_iff_ne, ne_eq] at h1
   have hr := ev_rep R t x
   split at h2
   · rename_i kd p hx
     rw [sev_is hx] at hr
     exact good_appCore R hkey ho h1.1 he h1.2.1 (by omega) hr.1 h2
   · rename_i e' ks hx
     rw [sev_is hx] at hr
     have hv : a.eval x = .slice none 0 0 := hr.1
     split at h2
     · rename_i hk2
       split at h2
       · rename_i r' hr'
         simp only [Option.some.injEq] at h2
         subst h2
         have R' := R.nilArr (none_den (Φ := Φ) (env := env) hk2) e' ks
         have e1 : (s.den Φ env).setO (key + 1) (.arr e' ks true []) = (s.setO (key + 1) (.arr e' ks true .nl)).den Φ env := by rw [SSt.den_setO]; rfl
         rw [e1] at R'
         refine good_appCore R' (by rw [obj_setO_ne (by omega)]; exact hkey) ho h1.1 he h1.2.1 (by omega) ?_ hr'
         unfold RefRep
         simp only [sur, ← e1, St.obj_setO, if_true, Gh.upd, upd_eq]
         exact ⟨trivial, hv⟩
       · cases h2
     · cases h2
   · cases h2
 · cases h
end
def fBytes (T : TypeId → TI) (s : SSt) (st t : TypeId) (x : Operand) : Option Res := match (T st).sl with
 | some e => match (T e).ik with
   | some .u8 => bif (T st).ok && ((T e).ok && ((T t).ok && (T t).isStr)) then match ssrc T s st [.int .u8] x with
     | some ys => some ⟨[.op .le [.op .len [ys], .int 140737488355328]], .one (.dat .str (.op .bstr [ys])), []⟩
     | none => none
     else none
   | _ => none
 | none => none
section
variable {Φ : Fns} {env : List D} {C : Cx} {g : Gh} {s : SSt} {a : Act} {w : World} {o : Oper} {key : Nat}
theorem bytes_flatten {w : World} {me : Nat → Nat → Prop} : ∀ (ys : List (List D)) (vssn : List (List Value)), vssn.length = ys.length → (∀ (i : Nat) (row : List D) (vs : List Value), ys[i]? = some row → vssn[i]? = some vs → RepCs w me [.int .u8] vs row) →
   vssn.flatten = (ys.map fun r => (r.headD default).asInt).map (Value.int .u8)
 | [], [], _, _ => rfl
 | [], _ :: _, h, _ => by simp at h
 | _ :: _, [], h, _ => by simp at h
 | y :: ys, vs :: vss, h, hr => by
   have h0 := hr 0 y vs rfl rfl
   obtain ⟨v, vs', rfl, hc, hn⟩ := h0
   have hn : vs' = [] := hn
   subst hn
   rw [List.flatten_cons, bytes_flatten ys vss (by simpa using h) fun i row vs e1 e2 => hr (i + 1) row vs (by simpa using e1) (by simpa using e2), hc.1]
   rfl
theorem did_bytes {σ : St} (R : Rel C g σ a w) {st t e : TypeId} {x : Operand} (ho : o.op = .convert st t x) (hst : (C.T st).ok = true) (hsl : (C.T st).sl = some e) (he : (C.T e).ok = true) (hik : (C.T e).ik = some .u8)
   (ht : (C.T t).ok = true) (hstr : (C.T t).isStr = true) {me : Nat → Nat → Prop} {ys : List (List D)} {vssn : List (List Value)} (S : Src w me [.int .u8] (a.eval x) ys vssn) (hmax : ys.length ≤ lenMax) :
   Did C a w o (.one (.dat .str (.str (bytesOf ys)))) σ := by
 obtain ⟨_, d1, _, _, hu1, _, _, _, _, h1⟩ := (C.tok st hst).ex
 obtain ⟨_, d2, _, _, hu2, _, _, _, _, h2⟩ := (C.tok e he).ex
 obtain ⟨_, d3, _, _, hu3, _, _, _, _, h3⟩ := (C.tok t ht).ex
 have e1 : d1 = .slice e := by
   cases d1 with
   | slice e' => have := h1.2.1; rw [hsl] at this; simp at this; rw [this]
   | struct fs => have := h1.2.1; rw [hsl] at this; cases this
   | int k => have := h1.2.1; rw [hsl] at this; cases this
   | bool => have := h1.2.1; rw [hsl] at this; cases this
   | string => have := h1.2.1; rw [hsl] at this; cases this
   | _ => exact h1.elim
 have e2 : d2 = .int .u8 := by
   cases d2 with
   | int k => have := h2.2.2.1; rw [hik] at this; simp at this; rw [this]
   | slice e' => have := h2.2.2.1; rw [hik] at this; cases this
   | struct fs => have := h2.2.2.1; rw [hik] at this; cases this
   | bool => have := h2.2.2.1; rw [hik] at this; cases this
   | string => have := h2.2.2.1; rw [hik] at this; cases this
   | _ => exact h2.elim
 have e3 : d3 = .string := by
   cases d3 with
   | string => rfl
   | int k => have := h3.2.2.2.1; rw [hstr] at this; cases this
   | slice e' => have := h3.2.2.2.1; rw [hstr] at this; cases this
   | struct fs => have := h3.2.2.2.1; rw [hstr] at this; cases this
   | bool => have := h3.2.2.2.1; rw [hstr] at this; cases this
   | _ => exact h3.elim
 subst e1 e2 e3
 obtain ⟨ad, cap, ev, hrow⟩ := S.val
 have hfl := bytes_flatten ys vssn S.len S.rows
 have hsz : (bytesOf ys).size ≤ lenMax := by simp [bytesOf, strOfNums_size, hmax]
 have key : (convert st t (.slice ad ys.length cap)).run C.P w = .ok (.string (bytesOf ys)) w := by
   cases ys with
   | nil =>
     rw [run_convert_bytes_string w st t e ad _ cap hu1 hu2 hu3]
     cases ad with
     | none => simp [Conv.bytesToString, bytesOf, strOfNums]; rfl
     | some a0 =>
       have hl : (loadCells a0 0).run C.P w = .ok (([] : List Int).map (Value.int .u8)).toArray w := by
         simpa using run_loadCells_list (P := C.P) w a0 [] (fun j v hj => by simp at hj)
       have := run_bytesToString (P := C.P) w a0 0 cap [] hl
       exact this.trans rfl
   | cons y ys =>
     obtain ⟨b, p, rfl, hr⟩ := hrow (by simp)
     rw [hfl] at hr
     exact run_convert_bytes_arg (P := C.P) w st e hu1 hu2 b p (y :: ys).length cap ((y :: ys).map fun r => (r.headD default).asInt) (by simp) (fun i hi => by
       have hi' : i < ((y :: ys).map fun r => (r.headD default).asInt).length := by simpa using hi
       have := hr.get i (.int .u8 (((y :: ys).map fun r => (r.headD default).asInt)[i])) (by rw [List.getElem?_map, List.getElem?_eq_getElem hi', Option.map_some])
       rw [this, List.getD_eq_getElem?_getD, List.getElem?_eq_getElem hi', Option.getD_some]) t hu3
 exact .quiet R (v := .string (bytesOf ys)) (by simp [execOp, ho, ev, key]) (rep_one ⟨rfl, hsz⟩)
theorem good_bytes (R : Rel C g (s.den Φ env) a w) {st t : TypeId} {x : Operand} (ho : o.op = .convert st t x) {r : Res} (h : fBytes C.T s st t x = some r) : Good Φ env C s a w o r := fun hc => by
 unfold fBytes at h
 split at h
 · rename_i e he
   split at h
   · rename_i hik
     obtain ⟨h1, h2⟩ := bif_some h
     simp only [Bool.and_eq_true] at h1
     split at h2
     · rename_i ys hys
       simp only [Option.some.injEq] at h2
       subst h2
       obtain ⟨vssn, S⟩ := ssrc_src R hys
       have c0 := hc (.op .le [.op .len [ys], .int 140737488355328]) (by simp)
       simp [E.den, E.dens, opD, D.asBool, D.asInt] at c0
       exact did_bytes R ho h1.1 he h1.2.1 hik h1.2.2.1 h1.2.2.2 S (by show (ys.den Φ env).asList.length ≤ 2 ^ 47; omega)
     · cases h2
   · cases h
 · cases h
end
def opF (T : TypeId → TI) (key : Nat) (s : SSt) (o : Oper) : Option Res := match o.op with
 | .move x => some ⟨[], sev T o.type s x, []⟩
 | .assign x => some ⟨[], sev T o.type s x, []⟩
 | .load t x => fLoad T s t x
 | .fieldAddr t x f => fFieldAddr T s t x f
 | .indexAddr t x y => fIndexAddr T s t x y
 | .binOp op t x y u => match fEq T s op t x y u with | some r => some r | none => fBin T s op t x y u
 | .unOp op t x => fUn T s op t x
 | .convert st t x => match fBytes T s st t x with | some r => some r | none => fConv T s st t x
 | .index t x y => fIndex T s t x y
 | .pick c x y => fPick T s o.type c x y
 | .slice t x lo hi none => fSlice T s t x lo hi
 | .extract x i => fExtract T s x i
 | .field st x f => fField T s st x f
 | .nilCheck x => fNilCheck T s x
 | .alloc t => fAlloc T key t
 | .box t y => fBox T key s t y
 | .store t x y => fStore T s t x y
 | .build t parts => fBuild T s t parts.toList
 | .buildSlice t n parts => fBuildSlice T key s t n parts.toList
 | .makeSlice t x y => fMake T key s t x y
 | .call c => match c.callee, c.args.toList, c.argTypes.toList with
   | .builtin .len, [x], [t] => fLen T s t x
   | .builtin .append, [x, y], [t, t'] => bif t == t' then fAppend T key s t x y else none
   | .builtin .min, [x, y], [t, t'] => fMin T s true t t' x y
   | .builtin .max, [x, y], [t, t'] => fMin T s false t t' x y
   | _, _, _ => none
 | _ => none
section
variable {Φ : Fns} {env : List D} {C : Cx} {g : Gh} {s : SSt} {a : Act} {w : World} {o : Oper} {key : Nat}
theorem good_op (R : Rel C g (s.den Φ env) a w) (hkey : s.obj key = none) {r : Res} (h : opF C.T key s o = some r) : Good Φ env C s a w o r := by
 unfold opF at h
 split at h
 case h_1 ho => simp only [Option.some.injEq] at h; subst h; exact good_move R _ (.inl ho)
 case h_2 ho => simp only [Option.some.injEq] at h; subst h; exact good_move R _ (.inr ho)
 case h_3 ho => exact good_load R ho h
 case h_4 ho => exact good_fieldAddr R ho h
 case h_5 ho => exact good_indexAddr R ho h
 case h_6 ho =>
   split at h
   · rename_i r' hr
     simp only [Option.some.injEq] at h
     subst h
     exact good_eq R ho hr
   · exact good_bin R ho h
 case h_7 ho => exact good_un R ho h
 case h_8 ho =>
   split at h
   · rename_i r' hr
     simp only [Option.some.injEq] at h
     subst h
     exact good_bytes R ho hr
   · exact good_conv R ho h
 case h_9 ho => exact good_index R ho h
 case h_10 ho => exact good_pick R ho h
 case h_11 ho => exact good_slice R ho h
 case h_12 ho => exact good_extract R ho h
 case h_13 ho => exact good_field R ho h
 case h_14 ho => exact good_nilCheck R ho h
 case h_15 ho => exact good_alloc R hkey ho h
 case h_16 ho => exact good_box R hkey ho h
 case h_17 ho => exact good_store R ho h
 case h_18 ho => exact good_build R ho h
 case h_19 ho => exact good_buildSlice R hkey ho h
 case h_20 ho => exact good_make R hkey ho h
 case h_21 c ho =>
   split at h
   · rename_i x t h1 h2 h3
     have e1 : c = { callee := .builtin .len, args := #[x], argTypes := #[t] } := by
       obtain ⟨cl, ar, at'⟩ := c
       simp only at h1 h2 h3
       subst h1
       rw [show ar = #[x] from Array.ext' h2, show at' = #[t] from Array.ext' h3]
     rw [e1] at ho
     exact good_len R ho h
   · rename_i x y t t' h1 h2 h3
     obtain ⟨h4, h5⟩ := bif_some h
     clear h
     have h6 : t = t' := by simpa using h4
     clear h4
     subst h6
     have e1 : c = { callee := .builtin .append, args := #[x, y], argTypes := #[t, t] } := by
       obtain ⟨cl, ar, at'⟩ := c
       simp only at h1 h2 h3
       subst h1
       rw [show ar = #[x, y] from Array.ext' h2, show at' = #[t, t] from Array.ext' h3]
     rw [e1] at ho
     exact good_append R hkey ho h5
   · rename_i x y t t' h1 h2 h3
     have e1 : c = { callee := .builtin .min, args := #[x, y], argTypes := #[t, t'] } := by
       obtain ⟨cl, ar, at'⟩ := c
       simp only at h1 h2 h3
       subst h1
       rw [show ar = #[x, y] from Array.ext' h2, show at' = #[t, t'] from Array.ext' h3]
     rw [e1] at ho
     exact good_min (b := true) R ho h
   · rename_i x y t t' h1 h2 h3
     have e1 : c = { callee := .builtin .max, args := #[x, y], argTypes := #[t, t'] } := by
       obtain ⟨cl, ar, at'⟩ := c
       simp only at h1 h2 h3
       subst h1
       rw [show ar = #[x, y] from Array.ext' h2, show at' = #[t, t'] from Array.ext' h3]
     rw [e1] at ho
     exact good_min (b := false) R ho h
   · cases h
 case h_22 => cases h
end
end Go.Vx
namespace Go.Vx
open Go.RowKit (Below)
abbrev New := Nat → Option (Ob × Value × List Nat)
def Gh.many (g : Gh) (N : New) : Gh := ⟨fun x => match N x with | some (_, h, _) => h | none => g.hd x, fun x => match N x with | some (_, _, f) => f | none => g.fp x⟩
theorem Shift.many {C : Cx} {g : Gh} {σ σ' : St} {w w' : World} (hb : Below w.heap.size w w') {N : New} (hN : ∀ x q, N x = some q → σ.obj x = none)
   (hσ : ∀ x, σ'.obj x = match N x with | some (o, _, _) => some o | none => σ.obj x) (hh : ∀ x o h f, N x = some (o, h, f) → ∀ b, blkOf h = some b → w.heap.size ≤ b)
   (hX : ∀ x o h f, N x = some (o, h, f) → ∀ b, b ∈ f → w.heap.size ≤ b) :
   Shift (sur C g σ w) (sur C (g.many N) σ' w') := by
 have hk : Keeps w (Me C.M σ.obj g.hd g.fp) w' (Me C.M σ'.obj (g.many N).hd (g.many N).fp) := fun b p v hc hn => by
   have hlt := cell_lt hc
   refine ⟨by rw [hb.cell (p := ⟨b, p, none⟩) hlt]; exact hc, ?_⟩
   rintro (hM | ⟨y, hl, hbk⟩ | ⟨y, hl, hbk⟩)
   · exact hn (.inl hM)
   · cases hy : N y with
     | some q =>
       obtain ⟨o, h, f⟩ := q
       simp only [Gh.many, hy] at hbk
       have := hh y o h f hy b hbk
       omega
     | none =>
       rw [hσ, hy] at hl
       simp only [Gh.many, hy] at hbk
       exact hn (.inr (.inl ⟨y, hl, hbk⟩))
   · cases hy : N y with
     | some q =>
       obtain ⟨o, h, f⟩ := q
       simp only [Gh.many, hy] at hbk
       have := hX y o h f hy b hbk
       omega
     | none =>
       rw [hσ, hy] at hl
       simp only [Gh.many, hy] at hbk
       exact hn (.inr (.inr ⟨y, hl, hbk⟩))
 refine ⟨hk, fun y q v hr => ?_, fun y i j v hp => ?_, fun y i j v hl => ?_, fun y o' hy' => ?_⟩
 rotate_left 2
 · cases hy : N y with
   | some q => simp [LodRep, sur, hN y q hy] at hl
   | none =>
     refine hl.keep (by simp only [sur, hσ, hy]) (by simp only [sur, Gh.many, hy]) fun b p u hu _ => ?_
     show w'.cell? _ = _
     rw [hb.cell (p := ⟨b, p, none⟩) (cell_lt hu)]; exact hu
 · cases hy : N y with
   | some q => simp only [sur, hN y q hy] at hy'; cases hy'
   | none => exact ⟨o', by simp only [sur, hσ, hy]; exact hy', fun e ks xs' e1 => ⟨⟨xs', e1⟩, by simp only [sur, Gh.many, hy]⟩⟩
 · cases hy : N y with
   | some q' => unfold RefRep at hr; simp only [sur, hN y q' hy] at hr
   | none =>
     have h1 : σ'.obj y = σ.obj y := by rw [hσ, hy]
     have h2 : (g.many N).hd y = g.hd y := by simp only [Gh.many, hy]
     unfold RefRep at hr ⊢
     simp only [sur, h1, h2] at hr ⊢
     cases he : σ.obj y with
     | none => rw [he] at hr; exact hr
     | some q =>
       rw [he] at hr
       cases q with
       | «sealed» e ks xs => exact ⟨hr.1, hr.2.keeps hk⟩
       | _ => exact hr
 · cases hy : N y with
   | some q' => unfold PtrRep at hp; simp only [sur, hN y q' hy] at hp
   | none =>
     have h1 : σ'.obj y = σ.obj y := by rw [hσ, hy]
     have h2 : (g.many N).hd y = g.hd y := by simp only [Gh.many, hy]
     unfold PtrRep at hp ⊢
     simp only [sur, h1, h2] at hp ⊢
     exact hp
theorem Rel.many {C : Cx} {g : Gh} {σ σ' : St} {a : Act} {w w' : World} (R : Rel C g σ a w) (hb : Below w.heap.size w w') {N : New} (ht : σ'.tmps = σ.tmps) (hN : ∀ x q, N x = some q → σ.obj x = none)
   (hσ : ∀ x, σ'.obj x = match N x with | some (o, _, _) => some o | none => σ.obj x) (hh : ∀ x o h f, N x = some (o, h, f) → ∀ b, blkOf h = some b → w.heap.size ≤ b)
   (hf : ∀ x o h f, N x = some (o, h, f) → f.Nodup ∧ ∀ b, b ∈ f → w.heap.size ≤ b ∧ b < w'.heap.size)
   (hd : ∀ x y o h f o' h' f', x ≠ y → N x = some (o, h, f) → N y = some (o', h', f') → ∀ b, b ∈ f → b ∉ f')
   (ho : ∀ x q, N x = some q → RepOb (sur C (g.many N) σ' w') (g.many N).fp x) : Rel C (g.many N) σ' a w' := by
 have hs := Shift.many (C := C) (g := g) hb hN hσ hh fun x o h f hq b hbm => ((hf x o h f hq).2 b hbm).1
 have old : ∀ y b, b ∈ g.fp y → b < w.heap.size := fun y b hm => (R.alw y b hm).2
 have fpo : ∀ y, N y = none → (g.many N).fp y = g.fp y := fun y hy => by simp only [Gh.many, hy]
 have fpn : ∀ y o h f, N y = some (o, h, f) → (g.many N).fp y = f := fun y o h f hy => by simp only [Gh.many, hy]
 refine R.move ht hs (fun y => ?_) (fun y => ?_) (fun y z hyz b hy hz => ?_) (fun y b hy => ?_) (R.fr.below hb)
 · cases hy : N y with
   | some q => exact ho y q hy
   | none =>
     refine (R.objs y).shift hs ?_ ?_ (fpo y hy) fun b hm => hb.block b (old y b hm)
     · show σ'.obj y = σ.obj y
       rw [hσ, hy]
     · show (g.many N).hd y = g.hd y
       simp only [Gh.many, hy]
 · cases hy : N y with
   | some q => obtain ⟨o, h, f⟩ := q; rw [fpn y o h f hy]; exact (hf y o h f hy).1
   | none => rw [fpo y hy]; exact R.own y
 · cases hy' : N y with
   | some q =>
     obtain ⟨o, h, f⟩ := q
     rw [fpn y o h f hy'] at hy
     cases hz' : N z with
     | some q' =>
       obtain ⟨o', h', f'⟩ := q'
       rw [fpn z o' h' f' hz'] at hz
       exact hd y z o h f o' h' f' hyz hy' hz' b hy hz
     | none =>
       rw [fpo z hz'] at hz
       have := ((hf y o h f hy').2 b hy).1
       have := old z b hz
       omega
   | none =>
     rw [fpo y hy'] at hy
     cases hz' : N z with
     | some q' =>
       obtain ⟨o', h', f'⟩ := q'
       rw [fpn z o' h' f' hz'] at hz
       have := ((hf z o' h' f' hz').2 b hz).1
       have := old y b hy
       omega
     | none =>
       rw [fpo z hz'] at hz
       exact R.apart y z hyz b hy hz
 · cases hy' : N y with
   | some q =>
     obtain ⟨o, h, f⟩ := q
     rw [fpn y o h f hy'] at hy
     have := (hf y o h f hy').2 b hy
     exact ⟨.inl (Nat.le_trans R.fr.size this.1), this.2⟩
   | none =>
     rw [fpo y hy'] at hy
     exact ⟨(R.alw y b hy).1, Nat.lt_of_lt_of_le (R.alw y b hy).2 hb.size⟩
theorem Rel.below {C : Cx} {g : Gh} {σ : St} {a : Act} {w w' : World} (R : Rel C g σ a w) (hb : Below w.heap.size w w') : Rel C g σ a w' :=
 R.many (N := fun _ => none) hb rfl (fun _ _ h => by cases h) (fun _ => rfl) (fun _ _ _ _ h => by cases h) (fun _ _ _ _ h => by cases h) (fun _ _ _ _ _ _ _ _ _ h => by cases h) (fun _ _ h => by cases h)
def OwnRep (w : World) (M : Nat → Nat → Prop) (e : TypeId) (ks : List K) (dp : Bool) (v : Value) (xs : List (List D)) (F : List Nat) : Prop :=
 ∃ (vss : List (List Value)) (fps : List (List Nat)), w.ownsRow 0 e ks.length v xs.length vss.flatten ∧ xs.length ≤ lenMax ∧
     vss.length = xs.length ∧ fps.length = xs.length ∧ F = v.ownBlock.toList ++ fps.flatten ∧
     (∀ (i : Nat) (row : List D) (vs : List Value) (f : List Nat), xs[i]? = some row → vss[i]? = some vs → fps[i]? = some f →
       if dp then RepDs w ks vs row f else (RepCs w M ks vs row ∧ f = []))
inductive RC where
 | im (k : K)
 | own (e : TypeId) (ks : List K) (dp : Bool)
 deriving Inhabited
def RetCs (w : World) (M : Nat → Nat → Prop) : List RC → List Value → List D → List (List Nat) → Prop
 | [], vs, _, Fs => vs = [] ∧ Fs = []
 | .im k :: cs, vs, ds, Fs => ∃ v vs', vs = v :: vs' ∧ RepC w M k v (ds.headD default) ∧ RetCs w M cs vs' ds.tail Fs
 | .own e ks dp :: cs, vs, ds, Fs => ∃ v vs' F Fs', vs = v :: vs' ∧ Fs = F :: Fs' ∧ OwnRep w M e ks dp v (ds.headD default).asList F ∧ RetCs w M cs vs' ds.tail Fs'
inductive ASh where
 | one (k : K)
 | agg (ks : List K)
 /-- a pointer to a row that nobody writes -/
 | pim (ks : List K)
 deriving Inhabited
inductive RSh where
 | one (c : RC)
 | agg (cs : List RC)
 deriving Inhabited
def ArgRep (w : World) (M : Nat → Nat → Prop) : ASh → Value → D → Prop
 | .one k, v, d => RepC w M k v d
 | .agg ks, v, d => ∃ vs, v = .agg (List.toArray vs) ∧ RepCs w M ks vs d.row
 | .pim ks, v, d => ∃ b o vs, v = .pointer (some ⟨b, o, none⟩) ∧ Row w b o vs ∧ (∀ j, j < ks.length → ¬ M b (o + j)) ∧ RepCs w M ks vs d.row
def ArgReps (w : World) (M : Nat → Nat → Prop) : List ASh → List Value → List D → Prop
 | [], vs, ds => vs = [] ∧ ds = []
 | s :: ss, vs, ds => ∃ v vs' d ds', vs = v :: vs' ∧ ds = d :: ds' ∧ ArgRep w M s v d ∧ ArgReps w M ss vs' ds'
end Go.Vx
namespace Go.Vx
open Go.RowKit (Below)
theorem RepC.mono {w : World} {M M' : Nat → Nat → Prop} (h : ∀ b o, M' b o → M b o) {k : K} {v : Value} {d : D} (hr : RepC w M k v d) : RepC w M' k v d :=
 hr.keeps (fun _ _ _ hc hn => ⟨hc, fun hm => hn (h _ _ hm)⟩)
theorem RepCs.mono {w : World} {M M' : Nat → Nat → Prop} (h : ∀ b o, M' b o → M b o) {ks : List K} {vs : List Value} {ds : List D} (hr : RepCs w M ks vs ds) : RepCs w M' ks vs ds :=
 hr.keeps (fun _ _ _ hc hn => ⟨hc, fun hm => hn (h _ _ hm)⟩)
def RC.head : RC → Value → List Nat
 | .own _ _ _, v => v.ownBlock.toList
 | .im _, _ => []
def retHeads : List RC → List Value → List Nat
 | c :: cs, v :: vs => c.head v ++ retHeads cs vs
 | _, _ => []
def MeH (M : Nat → Nat → Prop) (hs : List Nat) (b o : Nat) : Prop := M b o ∨ b ∈ hs
def RSh.cells : RSh → List RC
 | .one c => [c]
 | .agg cs => cs
def RSh.mk : RSh → List Value → Value
 | .one _, vs => vs.headD undef
 | .agg _, vs => .agg vs.toArray
def RSh.ds (r : RSh) (d : D) : List D := match r with
 | .one _ => [d]
 | .agg cs => (List.range cs.length).map fun j => d.row.getD j default
def mkRets : List RSh → List Value → List Value
 | [], _ => []
 | r :: rs, vs => r.mk (vs.take r.cells.length) :: mkRets rs (vs.drop r.cells.length)
def mkRet (rets : List RSh) (vs : List Value) : Value := match rets with
 | [r] => r.mk vs
 | rs => .tuple (mkRets rs vs).toArray
def retDs (φ : Nat → D) : Nat → List RSh → List D
 | _, [] => []
 | c, r :: rs => r.ds (φ c) ++ retDs φ (c + 1) rs
def FunR (P : Program) (f : FuncId) (args : List ASh) (rets : List RSh) (φ : Nat → List D → D) : Prop :=
 ∀ (w : World) (M : Nat → Nat → Prop) (vs : List Value) (ds : List D), (∀ b o, M b o → b < w.heap.size) → glob P w → ArgReps w M args vs ds → (φ 1000 ds).asBool = true →
   Calls P f vs.toArray w fun e w' => ∃ us Fs, e = .returned (mkRet rets us) ∧ Below w.heap.size w w' ∧
     RetCs w' (MeH M (retHeads (rets.flatMap RSh.cells) us)) (rets.flatMap RSh.cells) us (retDs (fun c => φ c ds) 0 rets) Fs ∧
     Fs.flatten.Nodup ∧ ∀ b, b ∈ Fs.flatten → w.heap.size ≤ b ∧ b < w'.heap.size
def Does (C : Cx) (a : Act) (w : World) (o : Oper) (u : AV) (σ' : St) : Prop :=
 ∀ (next : Act → World → Prop) (Q : Exit → Act → World → Prop), (∀ v w' g', RepAV (sur C g' σ' w') u v → Rel C g' σ' a w' → next (a.put o.dst v) w') → o.wp C.P a w next Q
theorem Did.does {C : Cx} {a : Act} {w : World} {o : Oper} {u : AV} {σ' : St} (h : Did C a w o u σ') : Does C a w o u σ' := fun next Q hn => by
 obtain ⟨nx, w', g', h1, h2, h3⟩ := h
 unfold Oper.wp
 rw [h1]
 rcases h2 with ⟨v, rfl, h2⟩ | ⟨rfl, rfl⟩
 · exact hn v w' g' h2 h3
 · exact hn undef w' g' trivial h3
theorem does_call {C : Cx} {g : Gh} {σ : St} {a : Act} {w : World} {o : Oper} (R : Rel C g σ a w) {f : FuncId} {c : Call} {fn : Func} (hfn : C.P.funcs[f]? = some fn) (hb : fn.body ≠ none)
   (hname : fn.name ≠ "runtime.NumGoroutine") (ho : o.op = .call c) (hc : c.callee = .value (.func f)) {u : AV} {σ' : St}
   (h : Calls C.P f (c.args.map a.eval) w fun e w' => ∃ v g', e = .returned v ∧ RepAV (sur C g' σ' w') u v ∧ Rel C g' σ' a w') : Does C a w o u σ' := fun next Q hn => by
 unfold Oper.wp
 have he : (execOp a.eval o).run C.P w = .ok (.enter f (c.args.map a.eval)) w := by
   simp [execOp, ho, resolve, hc, Act.eval, Deferred.ofValue, invoke, callFunc, hfn, hb, hname]
 rw [he, Oper.upon_enter]
 refine h.mono fun e w' ⟨v, g', he, h1, h2⟩ => ?_
 subst he
 exact hn v w' g' h1 h2
def WFD : K → D → Prop
 | .int k, d => inR k d.asInt
 | .bool, _ => True
 | .str, d => d.asStr.size ≤ lenMax
 | .sl _ _, d => d.asList.length ≤ lenMax
theorem RepC.wf {w : World} {M : Nat → Nat → Prop} {k : K} {v : Value} {d : D} (h : RepC w M k v d) : WFD k d := by
 cases k with
 | int k => exact h.2
 | bool => trivial
 | str => exact h.2
 | sl e ks => obtain ⟨_, _, _, _, h, _⟩ := h; exact h
inductive XSh where
 | im (s : ASh)
 | one (c : RC)
 | agg (cs : List RC)
 deriving Inhabited
def XReps (w : World) (M : Nat → Nat → Prop) : List XSh → List Value → List D → List (List Nat) → Prop
 | [], vs, ds, Fs => vs = [] ∧ ds = [] ∧ Fs = []
 | .im sh :: ss, vs, ds, Fs => ∃ v vs' d ds', vs = v :: vs' ∧ ds = d :: ds' ∧ ArgRep w M sh v d ∧ XReps w M ss vs' ds' Fs
 | .one c :: ss, vs, ds, Fs => ∃ v vs' d ds' F Fs', vs = v :: vs' ∧ ds = d :: ds' ∧ Fs = F ++ Fs' ∧ RetCs w M [c] [v] [d] F ∧ XReps w M ss vs' ds' Fs'
 | .agg cs :: ss, vs, ds, Fs => ∃ us vs' d ds' F Fs', vs = .agg (List.toArray us) :: vs' ∧ ds = d :: ds' ∧ Fs = F ++ Fs' ∧ RetCs w M cs us d.row F ∧ XReps w M ss vs' ds' Fs'
def ioCs : List RC → List Value → List (TypeId × List K × Value)
 | .own t ks _ :: cs, v :: vs => (t, ks, v) :: ioCs cs vs
 | .im _ :: cs, _ :: vs => ioCs cs vs
 | _, _ => []
def ioOf : List XSh → List Value → List (TypeId × List K × Value)
 | .im _ :: ss, _ :: vs => ioOf ss vs
 | .one c :: ss, v :: vs => ioCs [c] [v] ++ ioOf ss vs
 | .agg cs :: ss, .agg us :: vs => ioCs cs us.toList ++ ioOf ss vs
 | _, _ => []
def OwnOuts (w w' : World) : Nat → List (TypeId × List K × Value) → (Nat → D) → List (List Nat) → Prop
 | _, [], _, Gs => Gs = []
 | n, (t, ks, v) :: l, φ, Gs => ∃ G Gs', Gs = G :: Gs' ∧ RepD w' (.sl t ks) v (.sl (φ n).asList) G ∧ (∀ i j u, LodAt w ks v i j u → LodAt w' ks v i j u) ∧ OwnOuts w w' (n + 1) l φ Gs'
def XSh.deep : XSh → Bool
 | .im _ => true
 | .one c => match c with | .own _ _ dp => dp | _ => true
 | .agg cs => cs.all fun c => match c with | .own _ _ dp => dp | _ => true
def FunX (P : Program) (f : FuncId) (args : List XSh) (rets : List RSh) (φ : Nat → List D → D) : Prop :=
 ∀ (w : World) (M : Nat → Nat → Prop) (vs : List Value) (ds : List D) (Fs : List (List Nat)), (∀ b o, M b o → b < w.heap.size ∧ b ∉ Fs.flatten) → (∀ w', Fr w Fs.flatten w' → glob P w') → XReps w (fun b o => M b o ∨ b ∈ Fs.flatten) args vs ds Fs →
   Fs.flatten.Nodup → (∀ b, b ∈ Fs.flatten → b < w.heap.size) → (φ 1000 ds).asBool = true →
   Calls P f vs.toArray w fun e w' => ∃ us Gs, e = .returned (mkRet rets us) ∧ Fr w Fs.flatten w' ∧ RetCs w' (fun _ _ => False) (rets.flatMap RSh.cells) us (retDs (fun c => φ c ds) 0 rets) [] ∧
     OwnOuts w w' 0 (ioOf args vs) (fun n => φ (2000 + n) ds) Gs ∧ Gs.flatten.Nodup ∧ ∀ b, b ∈ Gs.flatten → (w.heap.size ≤ b ∨ b ∈ Fs.flatten) ∧ b < w'.heap.size
end Go.Vx
namespace Go.Vx
open Go.RowKit (Below)
def sargC (s : SSt) (k : K) (c : SC) : Option (E × Bool) := match c with
 | .dat k' e => bif K.eqb k' k then some (e, false) else none
 | .nil t ks => bif K.eqb (.sl t ks) k then some (.nl, false) else none
 | .ref z p => match s.obj z with
   | some (.arr t ks _ xs) => bif K.eqb (.sl t ks) k then some (scut xs p, true) else none
   | some (.sealed t ks xs) => bif K.eqb (.sl t ks) k then some (scut xs p, false) else none
   | some (.arx t ks xs) => bif K.eqb (.sl t ks) k && p.isNone then some (.op .asl [xs], true) else none
   | _ => none
 | .dead => none
def sargCs (s : SSt) : List K → List SC → Option (List E × Bool)
 | [], [] => some ([], false)
 | k :: ks, c :: cs => match sargC s k c, sargCs s ks cs with
   | some (e, b), some (es, b') => some (e :: es, b || b')
   | _, _ => none
 | _, _ => none
def isFlds (e : E) : Nat → List E → Bool
 | _, [] => true
 | j, .op (.fld i) [e'] :: es => i == j && (E.eqb e e' && isFlds e (j + 1) es)
 | _, _ => false
def etaE (es : List E) : E := match es with
 | .op (.fld 0) [e] :: _ => bif isFlds e 0 es then e else .op .mk es
 | _ => .op .mk es
def sarg (T : TypeId → TI) (s : SSt) (ty : TypeId) (x : Operand) : ASh → Option (E × Bool)
 | .one k => match sev T ty s x with
   | .one c => sargC s k c
   | _ => none
 | .agg ks => match sev T ty s x with
   | .agg cs => match sargCs s ks cs with
     | some (es, b) => some (etaE es, b)
     | none => none
   | _ => none
 | .pim _ => none
def sargs (T : TypeId → TI) (s : SSt) : List ASh → List TypeId → List Operand → Option (List E × Bool)
 | [], [], [] => some ([], false)
 | h :: hs, t :: ts, x :: xs => match sarg T s t x h, sargs T s hs ts xs with
   | some (e, b), some (es, b') => some (e :: es, b || b')
   | _, _ => none
 | _, _, _ => none
def calleeM (live : Bool) (me : Nat → Nat → Prop) (b o : Nat) : Prop := live = false ∧ me b o
theorem calleeM_or {l l' : Bool} {me : Nat → Nat → Prop} {b o : Nat} (h : calleeM (l || l') me b o) : calleeM l me b o ∧ calleeM l' me b o := by
 obtain ⟨h1, h2⟩ := h
 simp only [Bool.or_eq_false_iff] at h1
 exact ⟨⟨h1.1, h2⟩, ⟨h1.2, h2⟩⟩
theorem ArgRep.mono {w : World} {M M' : Nat → Nat → Prop} (h : ∀ b o, M' b o → M b o) {sh : ASh} {v : Value} {d : D} (hr : ArgRep w M sh v d) : ArgRep w M' sh v d := by
 cases sh with
 | one k => exact RepC.mono h hr
 | agg ks => obtain ⟨vs, e, hr⟩ := hr; exact ⟨vs, e, hr.mono h⟩
 | pim ks => obtain ⟨b, o, vs, e, h1, h2, hr⟩ := hr; exact ⟨b, o, vs, e, h1, fun j hj hm => h2 j hj (h _ _ hm), hr.mono h⟩
theorem ArgReps.mono {w : World} {M M' : Nat → Nat → Prop} (h : ∀ b o, M' b o → M b o) : ∀ {ss : List ASh} {vs : List Value} {ds : List D}, ArgReps w M ss vs ds → ArgReps w M' ss vs ds
 | [], _, _, hr => hr
 | _ :: _, _, _, ⟨v, vs', d, ds', e1, e2, h1, h2⟩ => ⟨v, vs', d, ds', e1, e2, h1.mono h, ArgReps.mono h h2⟩
section
variable {Φ : Fns} {env : List D} {C : Cx} {g : Gh} {s : SSt} {a : Act} {w : World} {o : Oper}
theorem sargC_rep (R : Rel C g (s.den Φ env) a w) {k : K} {c : SC} {v : Value} (hv : RepAC (sur C g (s.den Φ env) w) (c.den Φ env) v) {e : E} {b : Bool} (h : sargC s k c = some (e, b)) :
   RepC w (calleeM b (Me C.M (s.den Φ env).obj g.hd g.fp)) k v (e.den Φ env) := by
 have weak : ∀ (b : Bool) (c o : Nat), calleeM b (Me C.M (s.den Φ env).obj g.hd g.fp) c o → Me C.M (s.den Φ env).obj g.hd g.fp c o := fun _ _ _ h => h.2
 cases c with
 | dat k' e' =>
   obtain ⟨h1, h2⟩ := bif_some h
   have h3 := K.eqb_eq h1
   subst h3
   simp only [Option.some.injEq, Prod.mk.injEq] at h2
   obtain ⟨rfl, rfl⟩ := h2
   exact RepC.mono (weak _) hv
 | nil t ks =>
   obtain ⟨h1, h2⟩ := bif_some h
   have h3 := K.eqb_eq h1
   subst h3
   simp only [Option.some.injEq, Prod.mk.injEq] at h2
   obtain ⟨rfl, rfl⟩ := h2
   have := RepAC.dn hv
   exact RepC.mono (weak _) this
 | ref z p =>
   simp only [sargC] at h
   have hr : RefRep (sur C g (s.den Φ env) w) z (denP Φ env p) v := hv
   split at h
   · rename_i t ks dp xs hz
     obtain ⟨h1, h2⟩ := bif_some h
     have h3 := K.eqb_eq h1
     subst h3
     simp only [Option.some.injEq, Prod.mk.injEq] at h2
     obtain ⟨rfl, rfl⟩ := h2
     rw [scut_den]
     exact R.sealRep (obj_is hz) hr _ (fun _ _ _ hc hn => ⟨hc, fun hm => by cases hm.1⟩) (fun _ _ _ hm => by cases hm.1)
   · rename_i t ks xs hz
     obtain ⟨h1, h2⟩ := bif_some h
     have h3 := K.eqb_eq h1
     subst h3
     simp only [Option.some.injEq, Prod.mk.injEq] at h2
     obtain ⟨rfl, rfl⟩ := h2
     rw [scut_den]
     unfold RefRep at hr
     have ho : (sur C g (s.den Φ env) w).obj z = _ := obj_is (Φ := Φ) (env := env) hz
     rw [ho] at hr
     exact RepC.mono (weak _) hr.2
   · rename_i t ks xs hz
     obtain ⟨h1, h2⟩ := bif_some h
     simp only [Bool.and_eq_true] at h1
     have h3 := K.eqb_eq h1.1
     subst h3
     have hp : p = none := by simpa using h1.2
     subst hp
     simp only [Option.some.injEq, Prod.mk.injEq] at h2
     obtain ⟨rfl, rfl⟩ := h2
     have ho : (sur C g (s.den Φ env) w).obj z = _ := obj_is (Φ := Φ) (env := env) hz
     unfold RefRep at hr
     rw [ho] at hr
     have hv : v = g.hd z := hr
     subst hv
     exact (R.arxRep (obj_is hz)).toC fun _ _ _ hm => by cases hm.1
   · cases h
 | dead => simp [sargC] at h
theorem sargCs_rep (R : Rel C g (s.den Φ env) a w) : ∀ {ks : List K} {cs : List SC} {vs : List Value} {es : List E} {b : Bool}, RepACs (sur C g (s.den Φ env) w) (cs.map (SC.den Φ env)) vs → sargCs s ks cs = some (es, b) →
   RepCs w (calleeM b (Me C.M (s.den Φ env).obj g.hd g.fp)) ks vs (es.map (E.den Φ env))
 | [], [], vs, es, b, hv, h => by simp only [sargCs, Option.some.injEq, Prod.mk.injEq] at h; obtain ⟨rfl, rfl⟩ := h; exact hv
 | [], _ :: _, _, _, _, _, h => by simp [sargCs] at h
 | _ :: _, [], _, _, _, _, h => by simp [sargCs] at h
 | k :: ks, c :: cs, vs, es, b, hv, h => by
   obtain ⟨v, vs', rfl, _, hc, hr⟩ := hv
   simp only [sargCs] at h
   split at h
   · rename_i e b1 es1 b2 h1 h2
     simp only [Option.some.injEq, Prod.mk.injEq] at h
     obtain ⟨rfl, rfl⟩ := h
     exact ⟨v, vs', rfl, RepC.mono (fun _ _ hm => (calleeM_or hm).1) (sargC_rep R hc h1), RepCs.mono (fun _ _ hm => (calleeM_or hm).2) (sargCs_rep R hr h2)⟩
   · cases h
theorem RepCs.ext {w : World} {M : Nat → Nat → Prop} : ∀ {ks : List K} {vs : List Value} {ds ds' : List D}, RepCs w M ks vs ds → (∀ j, j < ks.length → ds.getD j default = ds'.getD j default) → RepCs w M ks vs ds'
 | [], _, _, _, h, _ => h
 | k :: ks, vs, ds, ds', h, he => by
   obtain ⟨v, vs', e, hc, hr⟩ := h
   have h0 : ds.headD default = ds'.headD default := by
     have := he 0 (by simp)
     simp only [List.headD_eq_head?_getD, List.getD_eq_getElem?_getD, List.head?_eq_getElem?] at this ⊢
     exact this
   refine ⟨v, vs', e, by rw [← h0]; exact hc, hr.ext fun j hj => ?_⟩
   have := he (j + 1) (by simpa using hj)
   simp only [List.getD_eq_getElem?_getD, List.getElem?_tail] at this ⊢
   exact this
theorem sargCs_len : ∀ {ks : List K} {cs : List SC} {es : List E} {b : Bool}, sargCs s ks cs = some (es, b) → es.length = ks.length
 | [], [], es, b, h => by simp only [sargCs, Option.some.injEq, Prod.mk.injEq] at h; obtain ⟨rfl, rfl⟩ := h; rfl
 | [], _ :: _, _, _, h => by simp [sargCs] at h
 | _ :: _, [], _, _, h => by simp [sargCs] at h
 | k :: ks, c :: cs, es, b, h => by
   simp only [sargCs] at h
   split at h
   · rename_i e b1 es1 b2 h1 h2
     simp only [Option.some.injEq, Prod.mk.injEq] at h
     obtain ⟨rfl, rfl⟩ := h
     simp [sargCs_len h2]
   · cases h
theorem isFlds_get {e : E} : ∀ {es : List E} {j : Nat}, isFlds e j es = true → ∀ i, i < es.length → (es.map (E.den Φ env)).getD i default = (e.den Φ env).row.getD (j + i) default
 | [], _, _, i, hi => by simp at hi
 | x :: es, j, h, i, hi => by
   unfold isFlds at h
   split at h
   · rename_i heq; cases heq
   · rename_i j' i' e' es' heq
     simp only [List.cons.injEq] at heq
     obtain ⟨rfl, rfl⟩ := heq
     simp only [Bool.and_eq_true, beq_iff_eq] at h
     obtain ⟨rfl, h2, h3⟩ := h
     have h4 := E.eqb_eq h2
     subst h4
     cases i with
     | zero => simp [E.den, E.dens, opD]
     | succ i =>
       have := isFlds_get h3 i (by simpa using hi)
       simp only [List.map_cons, List.getD_cons_succ]
       rw [this]
       congr 1
       omega
   · cases h
theorem etaE_get (es : List E) (i : Nat) (hi : i < es.length) : (es.map (E.den Φ env)).getD i default = ((etaE es).den Φ env).row.getD i default := by
 unfold etaE
 split
 · rename_i e es'
   cases hf : isFlds e 0 (.op (.fld 0) [e] :: es') with
   | true =>
     simp only [cond_true]
     have := isFlds_get (Φ := Φ) (env := env) hf i hi
     rwa [Nat.zero_add] at this
   | false => simp [E.den, E.dens_map, opD, D.row, D.asList]
 · simp [E.den, E.dens_map, opD, D.row, D.asList]
theorem sarg_rep (R : Rel C g (s.den Φ env) a w) {ty : TypeId} {x : Operand} {sh : ASh} {e : E} {b : Bool} (h : sarg C.T s ty x sh = some (e, b)) :
   ArgRep w (calleeM b (Me C.M (s.den Φ env).obj g.hd g.fp)) sh (a.eval x) (e.den Φ env) := by
 have hr := ev_rep R ty x
 cases sh with
 | one k =>
   simp only [sarg] at h
   split at h
   · rename_i c hx
     rw [sev_is hx] at hr
     exact sargC_rep R hr.1 h
   · cases h
 | agg ks =>
   simp only [sarg] at h
   split at h
   · rename_i cs hx
     rw [sev_is hx] at hr
     obtain ⟨vs, e1, hr⟩ := hr
     split at h
     · rename_i es b1 h1
       simp only [Option.some.injEq, Prod.mk.injEq] at h
       obtain ⟨rfl, rfl⟩ := h
       refine ⟨vs, e1, ?_⟩
       have := sargCs_rep R hr h1
       exact this.ext fun j hj => etaE_get es j (by rw [sargCs_len h1]; exact hj)
     · cases h
   · cases h
 | pim ks => simp [sarg] at h
theorem sargs_rep (R : Rel C g (s.den Φ env) a w) : ∀ {hs : List ASh} {ts : List TypeId} {xs : List Operand} {es : List E} {b : Bool}, sargs C.T s hs ts xs = some (es, b) →
   ArgReps w (calleeM b (Me C.M (s.den Φ env).obj g.hd g.fp)) hs (xs.map a.eval) (es.map (E.den Φ env))
 | [], [], [], es, b, h => by simp only [sargs, Option.some.injEq, Prod.mk.injEq] at h; obtain ⟨rfl, rfl⟩ := h; exact ⟨rfl, rfl⟩
 | h :: hs, t :: ts, x :: xs, es, b, hh => by
   simp only [sargs] at hh
   split at hh
   · rename_i e b1 es1 b2 h1 h2
     simp only [Option.some.injEq, Prod.mk.injEq] at hh
     obtain ⟨rfl, rfl⟩ := hh
     exact ⟨_, _, _, _, rfl, rfl, ArgRep.mono (fun _ _ hm => (calleeM_or hm).1) (sarg_rep R h1), ArgReps.mono (fun _ _ hm => (calleeM_or hm).2) (sargs_rep R h2)⟩
   · cases hh
 | [], [], _ :: _, _, _, h => by simp [sargs] at h
 | [], _ :: _, _, _, _, h => by simp [sargs] at h
 | _ :: _, [], _, _, _, h => by simp [sargs] at h
 | _ :: _, _ :: _, [], _, _, h => by simp [sargs] at h
end
end Go.Vx
namespace Go.Vx
open Go.RowKit (Below)
def scells : Nat → List RC → List E → List SC
 | key, .im k :: cs, e :: es => .dat k e :: scells (key + 1) cs es
 | key, .own _ _ _ :: cs, _ :: es => .ref key none :: scells (key + 1) cs es
 | _, _, _ => []
def mkO (ex : Bool) (t : TypeId) (ks : List K) (dp : Bool) (e : E) : SOb := bif ex && dp then .arx t ks e else .arr t ks dp e
def mkOb (ex : Bool) (t : TypeId) (ks : List K) (dp : Bool) (xs : List (List D)) : Ob := bif ex && dp then .arx t ks xs else .arr t ks dp xs
def supds (ex : Bool) : Nat → List RC → List E → List (Nat × SOb)
 | key, .im _ :: cs, _ :: es => supds ex (key + 1) cs es
 | key, .own t ks dp :: cs, e :: es => (key, mkO ex t ks dp e) :: supds ex (key + 1) cs es
 | _, _, _ => []
def newN (ex : Bool) : Nat → List RC → List Value → List D → List (List Nat) → New
 | key, .im _ :: cs, _ :: vs, ds, Fs, x => newN ex (key + 1) cs vs ds.tail Fs x
 | key, .own t ks dp :: cs, v :: vs, ds, F :: Fs, x => if x = key then some (mkOb ex t ks dp (ds.headD default).asList, v, F) else newN ex (key + 1) cs vs ds.tail Fs x
 | _, _, _, _, _, _ => none
theorem mkO_den (ex : Bool) (t : TypeId) (ks : List K) (dp : Bool) (e : E) {Φ : Fns} {env : List D} : (mkO ex t ks dp e).den Φ env = mkOb ex t ks dp (e.den Φ env).asList := by
 unfold mkO mkOb
 cases ex && dp <;> rfl
theorem newN_spec {ex : Bool} {w : World} {M : Nat → Nat → Prop} : ∀ (cs : List RC) {key : Nat} {vs : List Value} {ds : List D} {Fs : List (List Nat)}, RetCs w M cs vs ds Fs → ∀ {x : Nat} {o : Ob} {h : Value} {f : List Nat},
   newN ex key cs vs ds Fs x = some (o, h, f) → key ≤ x ∧ (∃ t ks dp xs, o = mkOb ex t ks dp xs ∧ OwnRep w M t ks dp h xs f) ∧ f ∈ Fs ∧ ∀ b, h.ownBlock = some b → b ∈ retHeads cs vs
 | [], key, vs, ds, Fs, _, x, o, h, f, hn => by simp [newN] at hn
 | .im k :: cs, key, vs, ds, Fs, hr, x, o, h, f, hn => by
   obtain ⟨v, vs', rfl, _, hr⟩ := hr
   simp only [newN] at hn
   obtain ⟨q1, q2, q3, q4⟩ := newN_spec cs hr hn
   exact ⟨by omega, q2, q3, fun b hb => by simpa [retHeads, RC.head] using q4 b hb⟩
 | .own t ks dp :: cs, key, vs, ds, Fs, hr, x, o, h, f, hn => by
   obtain ⟨v, vs', F, Fs', rfl, rfl, ho, hr⟩ := hr
   simp only [newN] at hn
   split at hn
   · rename_i hx
     simp only [Option.some.injEq, Prod.mk.injEq] at hn
     obtain ⟨rfl, rfl, rfl⟩ := hn
     exact ⟨by omega, ⟨t, ks, dp, _, rfl, ho⟩, by simp, fun b hb => by simp [retHeads, RC.head, hb]⟩
   · obtain ⟨q1, q2, q3, q4⟩ := newN_spec cs hr hn
     exact ⟨by omega, q2, by simp [q3], fun b hb => by simp only [retHeads, List.mem_append]; exact .inr (q4 b hb)⟩
theorem newN_apart {ex : Bool} {w : World} {M : Nat → Nat → Prop} : ∀ (cs : List RC) {key : Nat} {vs : List Value} {ds : List D} {Fs : List (List Nat)}, RetCs w M cs vs ds Fs → Fs.flatten.Nodup → ∀ {x y : Nat} {o o' : Ob} {h h' : Value} {f f' : List Nat},
   x ≠ y → newN ex key cs vs ds Fs x = some (o, h, f) → newN ex key cs vs ds Fs y = some (o', h', f') → ∀ b, b ∈ f → b ∉ f'
 | [], key, vs, ds, Fs, _, _, x, y, o, o', h, h', f, f', _, hn, _ => by simp [newN] at hn
 | .im k :: cs, key, vs, ds, Fs, hr, hd, x, y, o, o', h, h', f, f', hxy, hn, hn' => by
   obtain ⟨v, vs', rfl, _, hr⟩ := hr
   simp only [newN] at hn hn'
   exact newN_apart cs hr hd hxy hn hn'
 | .own t ks dp :: cs, key, vs, ds, Fs, hr, hd, x, y, o, o', h, h', f, f', hxy, hn, hn' => by
   obtain ⟨v, vs', F, Fs', rfl, rfl, ho, hr⟩ := hr
   rw [List.flatten_cons] at hd
   obtain ⟨d1, d2, d3⟩ := List.nodup_append.1 hd
   simp only [newN] at hn hn'
   split at hn
   · rename_i hx
     simp only [Option.some.injEq, Prod.mk.injEq] at hn
     obtain ⟨rfl, rfl, rfl⟩ := hn
     rw [if_neg (by omega)] at hn'
     have := (newN_spec cs hr hn').2.2.1
     exact fun b hb hb' => d3 b hb b (List.mem_flatten.2 ⟨_, this, hb'⟩) rfl
   · split at hn'
     · simp only [Option.some.injEq, Prod.mk.injEq] at hn'
       obtain ⟨rfl, rfl, rfl⟩ := hn'
       have := (newN_spec cs hr hn).2.2.1
       exact fun b hb hb' => d3 b hb' b (List.mem_flatten.2 ⟨_, this, hb⟩) rfl
     · exact newN_apart cs hr d2 hxy hn hn'
theorem supds_keys {ex : Bool} : ∀ (cs : List RC) (key : Nat) (es : List E) (x : Nat), x < key → ((supds ex key cs es).all fun p => !(p.1 == x)) = true
 | [], _, _, _, _ => by simp [supds]
 | .im k :: cs, key, [], _, _ => by simp [supds]
 | .own t ks dp :: cs, key, [], _, _ => by simp [supds]
 | .im k :: cs, key, e :: es, x, h => by simp only [supds]; exact supds_keys cs (key + 1) es x (by omega)
 | .own t ks dp :: cs, key, e :: es, x, h => by
   simp only [supds, List.all_cons, Bool.and_eq_true, Bool.not_eq_true', beq_eq_false_iff_ne, ne_eq]
   exact ⟨by omega, supds_keys cs (key + 1) es x (by omega)⟩
theorem SSt.upds_tmps : ∀ (l : List (Nat × SOb)) (s : SSt), (s.upds l).tmps = s.tmps
 | [], _ => rfl
 | (x, o) :: l, s => by rw [show s.upds ((x, o) :: l) = (s.setO x o).upds l from rfl, SSt.upds_tmps l]; rfl
section
variable {Φ : Fns} {env : List D}
theorem supds_obj {ex : Bool} {w : World} {M : Nat → Nat → Prop} : ∀ (cs : List RC) {key : Nat} {vs : List Value} {es : List E} {Fs : List (List Nat)} (s : SSt), RetCs w M cs vs (es.map (E.den Φ env)) Fs → es.length = cs.length → ∀ x,
   ((s.upds (supds ex key cs es)).den Φ env).obj x = match newN ex key cs vs (es.map (E.den Φ env)) Fs x with | some (o, _, _) => some o | none => (s.den Φ env).obj x
 | [], key, vs, es, Fs, s, _, _, x => by simp [supds, newN, SSt.upds]
 | .im k :: cs, key, vs, [], Fs, s, _, hl, x => by simp at hl
 | .own t ks dp :: cs, key, vs, [], Fs, s, _, hl, x => by simp at hl
 | .im k :: cs, key, vs, e :: es, Fs, s, hr, hl, x => by
   obtain ⟨v, vs', rfl, _, hr⟩ := hr
   simp only [supds, newN, List.map_cons, List.tail_cons]
   exact supds_obj cs s hr (by simpa using hl) x
 | .own t ks dp :: cs, key, vs, e :: es, Fs, s, hr, hl, x => by
   obtain ⟨v, vs', F, Fs', rfl, rfl, ho, hr⟩ := hr
   simp only [supds, newN, List.map_cons, List.tail_cons, List.headD_cons]
   rw [show s.upds ((key, mkO ex t ks dp e) :: supds ex (key + 1) cs es) = (s.setO key (mkO ex t ks dp e)).upds (supds ex (key + 1) cs es) from rfl]
   by_cases hx : x = key
   · subst hx
     rw [if_pos rfl, upds_obj _ _ _ (supds_keys cs (x + 1) es x (by omega)), SSt.den_setO, St.obj_setO, if_pos rfl, mkO_den]
   · rw [if_neg hx, supds_obj cs _ hr (by simpa using hl) x, SSt.den_setO, St.obj_setO, if_neg hx]
theorem scells_rep {ex : Bool} {w : World} {M : Nat → Nat → Prop} {S : Sur} (hw : S.w = w) (hM : S.me = M) : ∀ (cs : List RC) {key : Nat} {vs : List Value} {es : List E} {Fs : List (List Nat)}, RetCs w M cs vs (es.map (E.den Φ env)) Fs → es.length = cs.length →
   (∀ x o h f, newN ex key cs vs (es.map (E.den Φ env)) Fs x = some (o, h, f) → S.obj x = some o ∧ S.hd x = h) → RepACs S ((scells key cs es).map (SC.den Φ env)) vs
 | [], key, vs, es, Fs, hr, hl, _ => by
   have : es = [] := List.eq_nil_of_length_eq_zero hl
   subst this
   simp only [scells, List.map_nil]
   exact hr.1
 | .im k :: cs, key, vs, [], Fs, _, hl, _ => by simp at hl
 | .own t ks dp :: cs, key, vs, [], Fs, _, hl, _ => by simp at hl
 | .im k :: cs, key, vs, e :: es, Fs, hr, hl, hN => by
   obtain ⟨v, vs', rfl, hc, hr⟩ := hr
   simp only [newN, List.map_cons, List.tail_cons] at hN
   refine ⟨v, vs', rfl, hc.oneCell, ?_, scells_rep hw hM cs hr (by simpa using hl) hN⟩
   show RepC S.w S.me k v _
   rw [hw, hM]
   exact hc
 | .own t ks dp :: cs, key, vs, e :: es, Fs, hr, hl, hN => by
   obtain ⟨v, vs', F, Fs', rfl, rfl, ho, hr⟩ := hr
   simp only [newN, List.map_cons, List.tail_cons, List.headD_cons] at hN
   obtain ⟨h1, h2⟩ := hN key _ _ _ (if_pos rfl)
   refine ⟨v, vs', rfl, ?_, ?_, scells_rep (ex := ex) hw hM cs hr (by simpa using hl) fun x o h f hx => ?_⟩
   · obtain ⟨vss, fps, hown, _⟩ := ho
     rcases ownsRow_cases hown with ⟨e1, _⟩ | ⟨b, c, e1, _⟩ <;> rw [e1] <;> rfl
   · show RefRep S key none v
     unfold RefRep
     rw [h1]
     unfold mkOb
     cases ex && dp with
     | true => exact h2.symm
     | false => exact ⟨trivial, h2.symm⟩
   · refine hN x o h f ?_
     have := (newN_spec cs hr hx).1
     rw [if_neg (by omega)]
     exact hx
end
def RC.solid : RC → Bool
 | .im k => k.plain
 | .own _ ks dp => dp || plainK ks
theorem RepC.plain' {w : World} {M M' : Nat → Nat → Prop} {k : K} {v : Value} {d : D} (h : RepC w M k v d) (hp : k.plain = true) : RepC w M' k v d := by
 cases k with
 | sl _ _ => simp [K.plain] at hp
 | _ => exact h
theorem OwnRep.to {w : World} {M M' : Nat → Nat → Prop} {t : TypeId} {ks : List K} {dp : Bool} {v : Value} {xs : List (List D)} {F : List Nat} (h : OwnRep w M t ks dp v xs F)
   (hm : (∀ b o, M' b o → M b o) ∨ (dp || plainK ks) = true) : OwnRep w M' t ks dp v xs F := by
 obtain ⟨vss, fps, h1, h2, h3, h4, h5, h6⟩ := h
 refine ⟨vss, fps, h1, h2, h3, h4, h5, fun i row vs f e1 e2 e3 => ?_⟩
 have := h6 i row vs f e1 e2 e3
 split at this
 · rename_i hd; rw [if_pos hd]; exact this
 · rename_i hd
   rw [if_neg hd]
   refine ⟨?_, this.2⟩
   rcases hm with hm | hm
   · exact this.1.mono hm
   · simp only [Bool.not_eq_true] at hd
     rw [hd, Bool.false_or] at hm
     exact (this.1.plain hm).toC (fun b hb => by simp at hb)
theorem RetCs.to {w : World} {M M' : Nat → Nat → Prop} : ∀ {cs : List RC} {vs : List Value} {ds : List D} {Fs : List (List Nat)}, RetCs w M cs vs ds Fs → ((∀ b o, M' b o → M b o) ∨ cs.all RC.solid = true) → RetCs w M' cs vs ds Fs
 | [], _, _, _, h, _ => h
 | .im k :: cs, _, _, _, ⟨v, vs', e, hc, hr⟩, hm => ⟨v, vs', e, by
     rcases hm with hm | hm
     · exact hc.mono hm
     · simp only [List.all_cons, Bool.and_eq_true] at hm
       exact hc.plain' hm.1, hr.to (hm.imp id fun h => by simp only [List.all_cons, Bool.and_eq_true] at h; exact h.2)⟩
 | .own t ks dp :: cs, _, _, _, ⟨v, vs', F, Fs', e1, e2, ho, hr⟩, hm => ⟨v, vs', F, Fs', e1, e2, ho.to (hm.imp id fun h => by simp only [List.all_cons, Bool.and_eq_true] at h; exact h.1),
     hr.to (hm.imp id fun h => by simp only [List.all_cons, Bool.and_eq_true] at h; exact h.2)⟩
end Go.Vx
namespace Go.Vx
open Go.RowKit (Below)
theorem Fr.trans {w0 w w' : World} {X F : List Nat} (h : Fr w0 X w) (h' : Fr w F w') (hF : ∀ b, b ∈ F → w0.heap.size ≤ b ∨ b ∈ X) : Fr w0 X w' :=
 ⟨h'.os.trans h.os, h'.tape.trans h.tape, h'.output.trans h.output, Nat.le_trans h.size h'.size, fun k hk hx => by
   have : k ∉ F := fun hf => by
     rcases hF k hf with q | q
     · omega
     · exact hx q
   rw [h'.block k (Nat.lt_of_lt_of_le hk h.size) this]
   exact h.block k hk hx⟩
inductive Turn (σ : St) (g : Gh) (σ' : St) (g' : Gh) (w w' : World) (x : Nat) : Prop where
 | new (h : σ.obj x = none) (o : Ob) (h' : σ'.obj x = some o)
 | gone (h : σ'.obj x = some .gone)
 | box (T : TypeId) (cs : List AC) (h : σ.obj x = some (.box T cs)) (T' : TypeId) (cs' : List AC) (h' : σ'.obj x = some (.box T' cs')) (hh : g'.hd x = g.hd x)
 | arr (t : TypeId) (ks : List K) (dp : Bool) (xs : List (List D)) (h : σ.obj x = some (.arr t ks dp xs)) (xs' : List (List D)) (h' : σ'.obj x = some (.arr t ks dp xs')) (hh : g'.hd x = g.hd x) (hl : xs'.length = xs.length)
 | pin (t : TypeId) (ks : List K) (xs : List (List D)) (h : σ.obj x = some (.arx t ks xs)) (xs' : List (List D)) (h' : σ'.obj x = some (.arx t ks xs')) (hh : g'.hd x = g.hd x)
     (hl : ∀ i j u, LodAt w ks (g.hd x) i j u → LodAt w' ks (g.hd x) i j u)
section
variable {C : Cx} {g : Gh} {σ : St} {a : Act} {w : World}
theorem Rel.turn (R : Rel C g σ a w) {σ' : St} {g' : Gh} {w' : World} {X : List Nat} (Z : Nat → Prop) (hfr : Fr w X w') (ht : σ'.tmps = σ.tmps)
   (hX : ∀ b, b ∈ X → (∀ o, Me C.M σ.obj g.hd g.fp b o) ∧ (C.w0.heap.size ≤ b ∨ b ∈ C.X))
   (hout : ∀ x, ¬ Z x → σ'.obj x = σ.obj x ∧ g'.hd x = g.hd x ∧ g'.fp x = g.fp x ∧ ∀ b, b ∈ g.fp x → b ∉ X)
   (hin : ∀ x, Z x → Turn σ g σ' g' w w' x)
   (hrep : Shift (sur C g σ w) (sur C g' σ' w') → ∀ x, Z x → RepOb (sur C g' σ' w') g'.fp x)
   (hme : ∀ x, Z x → ∀ b o, (Ob.live (σ'.obj x) = true ∧ blkOf (g'.hd x) = some b ∨ Ob.isX (σ'.obj x) = true ∧ b ∈ g'.fp x) → Me C.M σ.obj g.hd g.fp b o ∨ w.heap.size ≤ b)
   (hnd : ∀ x, Z x → (g'.fp x).Nodup)
   (hfp : ∀ x, Z x → ∀ b, b ∈ g'.fp x → ((∃ z, Z z ∧ b ∈ g.fp z) ∨ w.heap.size ≤ b) ∧ b < w'.heap.size)
   (hap : ∀ x y, Z x → Z y → x ≠ y → ∀ b, b ∈ g'.fp x → b ∉ g'.fp y) : Rel C g' σ' a w' := by
 have hcell : ∀ b o, b < w.heap.size → b ∉ X → w'.cell? ⟨b, o, none⟩ = w.cell? ⟨b, o, none⟩ := fun b o hb hn => World.cell?_of_block (w := w) (a := ⟨b, o, none⟩) (hfr.block b hb hn)
 have hkeep : Keeps w (Me C.M σ.obj g.hd g.fp) w' (Me C.M σ'.obj g'.hd g'.fp) := fun b o v hc hn => by
   have hlt := cell_lt hc
   have hnX : b ∉ X := fun hb => hn ((hX b hb).1 o)
   refine ⟨by rw [hcell b o hlt hnX]; exact hc, ?_⟩
   rintro (hM | ⟨x, hl, hx⟩ | ⟨x, hl, hx⟩)
   · exact hn (.inl hM)
   · by_cases hz : Z x
     · rcases hme x hz b o (.inl ⟨hl, hx⟩) with q | q
       · exact hn q
       · omega
     · obtain ⟨h1, h2, _⟩ := hout x hz
       rw [h1] at hl; rw [h2] at hx
       exact hn (.inr (.inl ⟨x, hl, hx⟩))
   · by_cases hz : Z x
     · rcases hme x hz b o (.inr ⟨hl, hx⟩) with q | q
       · exact hn q
       · omega
     · obtain ⟨h1, _, h2, _⟩ := hout x hz
       rw [h1] at hl; rw [h2] at hx
       exact hn (.inr (.inr ⟨x, hl, hx⟩))
 have hs : Shift (sur C g σ w) (sur C g' σ' w') := by
   refine ⟨hkeep, fun x p v h => ?_, fun x i j v h => ?_, fun x i j v h => ?_, fun x o h => ?_⟩
   · unfold RefRep at h ⊢
     simp only [sur] at h ⊢
     by_cases hz : Z x
     · cases hin x hz with
       | new h0 o h' => rw [h0] at h; exact h.elim
       | gone h' => rw [h']; trivial
       | box T cs h0 T' cs' h' hh => rw [h0] at h; exact h.elim
       | arr t ks dp xs h0 xs' h' hh hl =>
         rw [h0] at h
         rw [h', hh]
         refine ⟨?_, h.2⟩
         cases p with
         | none => trivial
         | some p => simp only [cutOk, hl]; exact h.1
       | pin t ks xs h0 xs' h' hh hl =>
         rw [h0] at h
         rw [h']
         cases p with
         | none => simp only at h ⊢; rw [hh]; exact h
         | some p => trivial
     · obtain ⟨h1, h2, _⟩ := hout x hz
       rw [h1, h2]
       cases he : σ.obj x with
       | none => rw [he] at h; exact h
       | some q =>
         rw [he] at h
         cases q with
         | «sealed» _ _ _ => exact ⟨h.1, h.2.keeps hkeep⟩
         | _ => exact h
   · unfold PtrRep at h ⊢
     simp only [sur] at h ⊢
     by_cases hz : Z x
     · cases hin x hz with
       | new h0 o h' => rw [h0] at h; exact h.elim
       | gone h' => rw [h']; trivial
       | box T cs h0 T' cs' h' hh => rw [h0] at h; rw [h', hh]; exact h
       | arr t ks dp xs h0 xs' h' hh hl => rw [h0] at h; rw [h', hh]; exact h
       | pin t ks xs h0 xs' h' hh hl => rw [h0] at h; rw [h', hh]; exact h
     · obtain ⟨h1, h2, _⟩ := hout x hz
       rw [h1, h2]; exact h
   · by_cases hz : Z x
     · unfold LodRep at h ⊢
       simp only [sur] at h ⊢
       cases hin x hz with
       | new h0 o h' => rw [h0] at h; exact h.elim
       | gone h' => rw [h']; trivial
       | box T cs h0 T' cs' h' hh => rw [h']; trivial
       | arr t ks dp xs h0 xs' h' hh hl => rw [h']; trivial
       | pin t ks xs h0 xs' h' hh hl => rw [h0] at h; rw [h', hh]; exact hl i j v h
     · obtain ⟨h1, h2, _, h4⟩ := hout x hz
       unfold LodRep at h ⊢
       simp only [sur] at h ⊢
       rw [h1, h2]
       cases he : σ.obj x with
       | none => rw [he] at h; exact h
       | some q =>
         rw [he] at h
         cases q with
         | arx t ks xs =>
           refine LodAt.keep h fun b o u hu hb => ?_
           have hm : b ∈ g.fp x := R.xBlk (by rw [he]; rfl) hb
           rw [hcell b o (cell_lt hu) (h4 b hm)]
           exact hu
         | _ => trivial
   · simp only [sur] at h
     by_cases hz : Z x
     · cases hin x hz with
       | new h0 o' h' => rw [h0] at h; cases h
       | gone h' => exact ⟨_, by simp only [sur]; exact h', fun e ks xs' e1 => by cases e1⟩
       | box T cs h0 T' cs' h' hh => exact ⟨_, by simp only [sur]; exact h', fun e ks xs' e1 => by cases e1⟩
       | arr t ks dp xs h0 xs' h' hh hl => exact ⟨_, by simp only [sur]; exact h', fun e ks xs' e1 => by cases e1⟩
       | pin t ks xs h0 xs' h' hh hl =>
         rw [h0] at h
         simp only [Option.some.injEq] at h
         subst h
         refine ⟨_, by simp only [sur]; exact h', fun e ks2 ys e1 => ⟨⟨xs, ?_⟩, hh⟩⟩
         simp only [Ob.arx.injEq] at e1
         obtain ⟨rfl, rfl, rfl⟩ := e1
         rfl
     · obtain ⟨h1, h2, _⟩ := hout x hz
       exact ⟨o, by simp only [sur]; rw [h1]; exact h, fun e ks xs' e1 => ⟨⟨xs', e1⟩, h2⟩⟩
 have hold : ∀ z b, b ∈ g.fp z → b < w.heap.size := fun z b hb => (R.alw z b hb).2
 refine R.move ht hs (fun x => ?_) (fun x => ?_) (fun x y hxy b hb hb' => ?_) (fun x b hb => ?_) (R.fr.trans hfr fun b hb => (hX b hb).2)
 · by_cases hz : Z x
   · exact hrep hs x hz
   · obtain ⟨h1, h2, h3, h4⟩ := hout x hz
     exact (R.objs x).shift hs h1 h2 h3 fun b hb => hfr.block b (hold x b hb) (h4 b hb)
 · by_cases hz : Z x
   · exact hnd x hz
   · rw [(hout x hz).2.2.1]; exact R.own x
 · by_cases hz : Z x
   · by_cases hy : Z y
     · exact hap x y hz hy hxy b hb hb'
     · rw [(hout y hy).2.2.1] at hb'
       rcases (hfp x hz b hb).1 with ⟨z, hZ, hbz⟩ | q
       · exact R.apart z y (fun e => hy (e ▸ hZ)) b hbz hb'
       · have := hold y b hb'; omega
   · rw [(hout x hz).2.2.1] at hb
     by_cases hy : Z y
     · rcases (hfp y hy b hb').1 with ⟨z, hZ, hbz⟩ | q
       · exact R.apart z x (fun e => hz (e ▸ hZ)) b hbz hb
       · have := hold x b hb; omega
     · rw [(hout y hy).2.2.1] at hb'
       exact R.apart x y hxy b hb hb'
 · by_cases hz : Z x
   · obtain ⟨h5, h6⟩ := hfp x hz b hb
     refine ⟨?_, h6⟩
     rcases h5 with ⟨z, _, hbz⟩ | q
     · exact (R.alw z b hbz).1
     · exact .inl (Nat.le_trans R.fr.size q)
   · obtain ⟨h1, h2, h3, h4⟩ := hout x hz
     rw [h3] at hb
     exact ⟨(R.alw x b hb).1, Nat.lt_of_lt_of_le (hold x b hb) hfr.size⟩
end
structure Itm where
 key : Nat
 ob : SOb
 hd : Value
 fp : List Nat
def ilook (x : Nat) : List Itm → Option Itm
 | [] => none
 | i :: l => if x = i.key then some i else ilook x l
def Gh.itms (g : Gh) (l : List Itm) : Gh := ⟨fun x => match ilook x l with | some i => i.hd | none => g.hd x, fun x => match ilook x l with | some i => i.fp | none => g.fp x⟩
theorem ilook_of {i : Itm} : ∀ {l : List Itm}, (l.map Itm.key).Nodup → i ∈ l → ilook i.key l = some i
 | j :: l, hn, h => by
   simp only [List.map_cons] at hn
   obtain ⟨n1, n2⟩ := List.nodup_cons.1 hn
   simp only [ilook]
   rcases List.mem_cons.1 h with rfl | h
   · rw [if_pos rfl]
   · rw [if_neg fun (e : i.key = j.key) => n1 (by rw [← e]; exact List.mem_map.2 ⟨i, h, rfl⟩)]
     exact ilook_of n2 h
theorem ilook_none {x : Nat} : ∀ {l : List Itm}, ilook x l = none ↔ x ∉ l.map Itm.key
 | [] => by simp [ilook]
 | j :: l => by
   simp only [ilook]
   split
   · rename_i e; simp [e]
   · rename_i e
     rw [ilook_none]
     simp only [List.map_cons, List.mem_cons, not_or]
     exact ⟨fun h => ⟨e, h⟩, fun h => h.2⟩
section
variable {Φ : Fns} {env : List D} {C : Cx} {g : Gh} {s : SSt} {a : Act} {w : World}
theorem itms_obj (x : Nat) : ∀ (l : List Itm) (s : SSt), (l.map Itm.key).Nodup → ((s.upds (l.map fun i => (i.key, i.ob))).den Φ env).obj x = match ilook x l with | some i => some (i.ob.den Φ env) | none => (s.den Φ env).obj x
 | [], s, _ => rfl
 | i :: l, s, h => by
   simp only [List.map_cons] at h
   obtain ⟨n1, n2⟩ := List.nodup_cons.1 h
   rw [List.map_cons, show s.upds ((i.key, i.ob) :: l.map fun i => (i.key, i.ob)) = (s.setO i.key i.ob).upds (l.map fun i => (i.key, i.ob)) from rfl, itms_obj x l _ n2]
   simp only [ilook]
   by_cases hx : x = i.key
   · rw [if_pos hx, ilook_none.2 (hx ▸ n1)]
     simp only [SSt.den_setO, St.obj_setO, if_pos hx]
   · rw [if_neg hx]
     cases ilook x l with
     | some j => rfl
     | none => simp only [SSt.den_setO, St.obj_setO, if_neg hx]
theorem Rel.turnL (R : Rel C g (s.den Φ env) a w) {w' : World} {X : List Nat} (l : List Itm) (hfr : Fr w X w') (hn : (l.map Itm.key).Nodup)
   (hX : ∀ b, b ∈ X → (∀ o, Me C.M (s.den Φ env).obj g.hd g.fp b o) ∧ ∃ z, z ∈ l.map Itm.key ∧ b ∈ g.fp z)
   (hin : ∀ i, i ∈ l → Turn (s.den Φ env) g ((s.upds (l.map fun i => (i.key, i.ob))).den Φ env) (g.itms l) w w' i.key)
   (hrep : Shift (sur C g (s.den Φ env) w) (sur C (g.itms l) ((s.upds (l.map fun i => (i.key, i.ob))).den Φ env) w') → ∀ i, i ∈ l → RepOb (sur C (g.itms l) ((s.upds (l.map fun i => (i.key, i.ob))).den Φ env) w') (g.itms l).fp i.key)
   (hme : ∀ i, i ∈ l → ∀ b, (Ob.live (some (i.ob.den Φ env)) = true ∧ blkOf i.hd = some b ∨ Ob.isX (some (i.ob.den Φ env)) = true ∧ b ∈ i.fp) → b ∈ X ∨ w.heap.size ≤ b)
   (hnd : (l.flatMap Itm.fp).Nodup) (hfp : ∀ b, b ∈ l.flatMap Itm.fp → (b ∈ X ∨ w.heap.size ≤ b) ∧ b < w'.heap.size) :
   Rel C (g.itms l) ((s.upds (l.map fun i => (i.key, i.ob))).den Φ env) a w' := by
 have hobj : ∀ i, i ∈ l → ((s.upds (l.map fun i => (i.key, i.ob))).den Φ env).obj i.key = some (i.ob.den Φ env) := fun i hi => by rw [itms_obj _ _ _ hn, ilook_of hn hi]
 have hfpe : ∀ i, i ∈ l → (g.itms l).fp i.key = i.fp := fun i hi => by simp only [Gh.itms, ilook_of hn hi]
 have hhde : ∀ i, i ∈ l → (g.itms l).hd i.key = i.hd := fun i hi => by simp only [Gh.itms, ilook_of hn hi]
 have hpw := List.pairwise_flatten.1 (by rw [← List.flatMap_def]; exact hnd : (l.map Itm.fp).flatten.Nodup)
 refine R.turn (fun x => x ∈ l.map Itm.key) hfr (by simp [SSt.den, SSt.upds_tmps]) (fun b hb => ⟨(hX b hb).1, ?_⟩) (fun x hx => ?_) (fun x hx => ?_) (fun hs x hx => ?_) (fun x hx b o h => ?_) (fun x hx => ?_) (fun x hx b hb => ?_) (fun x y hx hy hxy b hb hb' => ?_)
 · obtain ⟨z, _, hz⟩ := (hX b hb).2
   exact (R.alw z b hz).1
 · have h0 := ilook_none.2 hx
   refine ⟨by rw [itms_obj _ _ _ hn, h0], by simp only [Gh.itms, h0], by simp only [Gh.itms, h0], fun b hb hbX => ?_⟩
   obtain ⟨z, hz, hbz⟩ := (hX b hbX).2
   exact R.apart x z (fun e => hx (by rw [e]; exact hz)) b hb hbz
 · obtain ⟨i, hi, rfl⟩ := List.mem_map.1 hx
   exact hin i hi
 · obtain ⟨i, hi, rfl⟩ := List.mem_map.1 hx
   exact hrep hs i hi
 · obtain ⟨i, hi, rfl⟩ := List.mem_map.1 hx
   rw [hobj i hi, hfpe i hi, hhde i hi] at h
   rcases hme i hi b h with q | q
   · exact .inl ((hX b q).1 o)
   · exact .inr q
 · obtain ⟨i, hi, rfl⟩ := List.mem_map.1 hx
   rw [hfpe i hi]
   exact hpw.1 _ (List.mem_map.2 ⟨i, hi, rfl⟩)
 · obtain ⟨i, hi, rfl⟩ := List.mem_map.1 hx
   rw [hfpe i hi] at hb
   obtain ⟨h1, h2⟩ := hfp b (List.mem_flatMap.2 ⟨i, hi, hb⟩)
   refine ⟨?_, h2⟩
   rcases h1 with h1 | h1
   · obtain ⟨z, hz, hbz⟩ := (hX b h1).2
     exact .inl ⟨z, hz, hbz⟩
   · exact .inr h1
 · obtain ⟨i, hi, rfl⟩ := List.mem_map.1 hx
   obtain ⟨j, hj, rfl⟩ := List.mem_map.1 hy
   rw [hfpe i hi] at hb
   rw [hfpe j hj] at hb'
   obtain ⟨p, hp, rfl⟩ := List.getElem_of_mem hi
   obtain ⟨q, hq, rfl⟩ := List.getElem_of_mem hj
   have hpq : p ≠ q := fun e => hxy (by subst e; rfl)
   have hP := List.pairwise_iff_getElem.1 hpw.2
   rcases Nat.lt_or_gt_of_ne hpq with h | h
   · exact hP p q (by simpa using hp) (by simpa using hq) h b (by simpa using hb) b (by simpa using hb') rfl
   · exact hP q p (by simpa using hq) (by simpa using hp) h b (by simpa using hb') b (by simpa using hb) rfl
end
end Go.Vx
namespace Go.Vx
open Go.RowKit (Below)
inductive BC where
 | keep (k : K)
 | im (k : K)
 | own (e : TypeId) (ks : List K)
 /-- pinned: its head stays -/
 | ex (e : TypeId) (ks : List K) (pin : Bool)
 deriving Inhabited
inductive BSh where
 | im (s : ASh)
 | one (c : BC)
 | agg (cs : List BC)
 /-- a pointer to a box -/
 | box (T : TypeId) (cs : List BC)
 deriving Inhabited
def BC.rc : BC → RC
 | .keep k => .im k
 | .im k => .im k
 | .own e ks => .own e ks false
 | .ex e ks _ => .own e ks true
def BReps (w : World) (M : Nat → Nat → Prop) : List BSh → List Value → List D → List (List Nat) → Prop
 | [], vs, ds, Fs => vs = [] ∧ ds = [] ∧ Fs = []
 | .im sh :: ss, vs, ds, Fs => ∃ v vs' d ds', vs = v :: vs' ∧ ds = d :: ds' ∧ ArgRep w M sh v d ∧ BReps w M ss vs' ds' Fs
 | .one c :: ss, vs, ds, Fs => ∃ v vs' d ds' F Fs', vs = v :: vs' ∧ ds = d :: ds' ∧ Fs = F ++ Fs' ∧ RetCs w M [c.rc] [v] [d] F ∧ BReps w M ss vs' ds' Fs'
 | .agg cs :: ss, vs, ds, Fs => ∃ us vs' d ds' F Fs', vs = .agg (List.toArray us) :: vs' ∧ ds = d :: ds' ∧ Fs = F ++ Fs' ∧ RetCs w M (cs.map BC.rc) us d.row F ∧ BReps w M ss vs' ds' Fs'
 | .box T cs :: ss, vs, ds, Fs => ∃ b us vs' d ds' F Fs', vs = .pointer (some ⟨b, 0, none⟩) :: vs' ∧ ds = d :: ds' ∧ Fs = [b] :: (F ++ Fs') ∧ w.heap[b]? = some (.cells (List.toArray us) T (0, 0)) ∧
     RetCs w M (cs.map BC.rc) us d.row F ∧ BReps w M ss vs' ds' Fs'
def BOutCs (w w' : World) (M : Nat → Nat → Prop) : List BC → List Value → List Value → List D → List (List Nat) → Prop
 | [], _, us, _, Gs => us = [] ∧ Gs = []
 | .keep _ :: cs, vs, us, ds, Gs => ∃ v vs' us', vs = v :: vs' ∧ us = v :: us' ∧ BOutCs w w' M cs vs' us' ds.tail Gs
 | .im k :: cs, vs, us, ds, Gs => ∃ v vs' u us', vs = v :: vs' ∧ us = u :: us' ∧ RepC w' M k u (ds.headD default) ∧ BOutCs w w' M cs vs' us' ds.tail Gs
 | .own e ks :: cs, vs, us, ds, Gs => ∃ v vs' u us' G Gs', vs = v :: vs' ∧ us = u :: us' ∧ Gs = G :: Gs' ∧ OwnRep w' M e ks false u (ds.headD default).asList G ∧ BOutCs w w' M cs vs' us' ds.tail Gs'
 | .ex e ks pin :: cs, vs, us, ds, Gs => ∃ v vs' u us' G Gs', vs = v :: vs' ∧ us = u :: us' ∧ Gs = G :: Gs' ∧ OwnRep w' M e ks true u (ds.headD default).asList G ∧
     (pin = true → u = v ∧ ∀ i j x, LodAt w ks v i j x → LodAt w' ks v i j x) ∧ BOutCs w w' M cs vs' us' ds.tail Gs'
def cHD : List BC → List Value → List (List Nat) → List Nat
 | .keep _ :: cs, _ :: us, Gs => cHD cs us Gs
 | .im _ :: cs, _ :: us, Gs => cHD cs us Gs
 | .own _ _ :: cs, u :: us, _ :: Gs => u.ownBlock.toList ++ cHD cs us Gs
 | .ex _ _ _ :: cs, _ :: us, G :: Gs => G ++ cHD cs us Gs
 | _, _, _ => []
def BOuts (w w' : World) (M : Nat → Nat → Prop) : Nat → List BSh → List Value → (Nat → D) → List (List Value) → List (List (List Nat)) → Prop
 | _, [], _, _, Bs, Gs => Bs = [] ∧ Gs = []
 | n, .box T cs :: ss, vs, φ, Bs, Gs => ∃ b us0 vs' us Bs' G Gs', vs = .pointer (some ⟨b, 0, none⟩) :: vs' ∧ w.heap[b]? = some (.cells (List.toArray us0) T (0, 0)) ∧ Bs = us :: Bs' ∧ Gs = G :: Gs' ∧
     w'.heap[b]? = some (.cells (List.toArray us) T (0, 0)) ∧ BOutCs w w' M cs us0 us (φ n).row G ∧ BOuts w w' M (n + 1) ss vs' φ Bs' Gs'
 | n, .im _ :: ss, vs, φ, Bs, Gs => BOuts w w' M n ss vs.tail φ Bs Gs
 | n, .one _ :: ss, vs, φ, Bs, Gs => BOuts w w' M n ss vs.tail φ Bs Gs
 | n, .agg _ :: ss, vs, φ, Bs, Gs => BOuts w w' M n ss vs.tail φ Bs Gs
def bHD : List BSh → List Value → List (List Value) → List (List (List Nat)) → List Nat
 | .box _ cs :: ss, v :: vs, us :: Bs, G :: Gs => (blkOf v).toList ++ (cHD cs us G ++ bHD ss vs Bs Gs)
 | .im _ :: ss, _ :: vs, Bs, Gs => bHD ss vs Bs Gs
 | .one _ :: ss, _ :: vs, Bs, Gs => bHD ss vs Bs Gs
 | .agg _ :: ss, _ :: vs, Bs, Gs => bHD ss vs Bs Gs
 | _, _, _, _ => []
def bFp : List BSh → List Value → List (List (List Nat)) → List Nat
 | .box _ _ :: ss, v :: vs, G :: Gs => (blkOf v).toList ++ (G.flatten ++ bFp ss vs Gs)
 | .im _ :: ss, _ :: vs, Gs => bFp ss vs Gs
 | .one _ :: ss, _ :: vs, Gs => bFp ss vs Gs
 | .agg _ :: ss, _ :: vs, Gs => bFp ss vs Gs
 | _, _, _ => []
def FunB (P : Program) (f : FuncId) (args : List BSh) (rets : List RSh) (φ : Nat → List D → D) : Prop :=
 ∀ (w : World) (M : Nat → Nat → Prop) (vs : List Value) (ds : List D) (Fs : List (List Nat)), (∀ b o, M b o → b < w.heap.size ∧ b ∉ Fs.flatten) → (∀ w', Fr w Fs.flatten w' → glob P w') → BReps w (fun b o => M b o ∨ b ∈ Fs.flatten) args vs ds Fs →
   Fs.flatten.Nodup → (∀ b, b ∈ Fs.flatten → b < w.heap.size) → (φ 1000 ds).asBool = true →
   Calls P f vs.toArray w fun e w' => ∃ us Rs Bs Gs, e = .returned (mkRet rets us) ∧ Fr w Fs.flatten w' ∧
     RetCs w' (MeH M (retHeads (rets.flatMap RSh.cells) us ++ bHD args vs Bs Gs)) (rets.flatMap RSh.cells) us (retDs (fun c => φ c ds) 0 rets) Rs ∧
     BOuts w w' (MeH M (retHeads (rets.flatMap RSh.cells) us ++ bHD args vs Bs Gs)) 0 args vs (fun n => φ (2000 + n) ds) Bs Gs ∧
     (Rs.flatten ++ bFp args vs Gs).Nodup ∧ ∀ b, b ∈ Rs.flatten ++ bFp args vs Gs → (w.heap.size ≤ b ∨ b ∈ Fs.flatten) ∧ b < w'.heap.size
def FunS (P : Program) (f : FuncId) (t : TypeId) (ks : List K) (φ : Nat → List D → D) : Prop :=
 ∀ (w : World) (M : Nat → Nat → Prop) (dp : Bool) (v : Value) (xs : List (List D)) (F : List Nat), (∀ b, v.ownBlock = some b → ∀ o, M b o) → (∀ w', Fr w v.ownBlock.toList w' → glob P w') → OwnRep w M t ks dp v xs F → F.Nodup → (∀ b, b ∈ F → b < w.heap.size) → (φ 1000 [.sl xs]).asBool = true →
   Calls P f #[v] w fun e w' => e = .returned v ∧ Fr w v.ownBlock.toList w' ∧ (φ 0 [.sl xs]).asList.length = xs.length ∧ ∃ F', OwnRep w' M t ks dp v (φ 0 [.sl xs]).asList F' ∧ F'.Perm F
def FunN (P : Program) (f : FuncId) (args : List ASh) (T : TypeId) (ks : List K) (φ : Nat → List D → D) : Prop :=
 ∀ (w : World) (M : Nat → Nat → Prop) (vs : List Value) (ds : List D), (∀ b o, M b o → b < w.heap.size) → glob P w → ArgReps w M args vs ds → (φ 1000 ds).asBool = true →
   Calls P f vs.toArray w fun e w' => ∃ b us, e = .returned (.pointer (some ⟨b, 0, none⟩)) ∧ Below w.heap.size w w' ∧ w.heap.size ≤ b ∧ w'.heap[b]? = some (.cells (List.toArray us) T (0, 0)) ∧ RepCs w' (fun c o => M c o ∨ c = b) ks us (φ 0 ds).row
end Go.Vx
namespace Go.Vx
open Go.RowKit (Below)
structure Sig where
 args : List ASh
 rets : List RSh
 /-- nobody else is to look into what it makes -/
 ex : Bool := false
 /-- it writes what it is handed -/
 xs : Option (List XSh) := none
 /-- it is handed boxes, or arrays to keep -/
 bs : Option (List BSh) := none
 /-- it puts rows into another order -/
 so : Option (TypeId × List K) := none
 /-- .. but for these -/
 exn : List Nat := []
 /-- it makes a variable and hands back a pointer to it -/
 nb : Option (TypeId × List K) := none
 deriving Inhabited
def Sig.exAt (sg : Sig) (key : Nat) : Bool := sg.ex && !(sg.exn.any fun k => k == key)
def RSh.smk : RSh → List SC → SV
 | .one _, cs => .one (cs.headD .dead)
 | .agg _, cs => .agg cs
def smkRets : List RSh → List SC → List SV
 | [], _ => []
 | r :: rs, cs => r.smk (cs.take r.cells.length) :: smkRets rs (cs.drop r.cells.length)
def smkRet (rets : List RSh) (cs : List SC) : SV := match rets with
 | [r] => r.smk cs
 | rs => .tup (smkRets rs cs)
def RSh.es (r : RSh) (e : E) : List E := match r with
 | .one _ => [e]
 | .agg cs => (List.range cs.length).map fun j => .op (.fld j) [e]
def sretE (f : Nat) (es : List E) : Nat → List RSh → List E
 | _, [] => []
 | c, r :: rs => r.es (.op (.fn f c) es) ++ sretE f es (c + 1) rs
def fCall (T : TypeId → TI) (CT : Nat → Option Sig) (key : Nat) (s : SSt) (f : Nat) (ts : List TypeId) (xs : List Operand) : Option Res :=
 match CT f with
 | some sg => match sargs T s sg.args ts xs with
   | some (es, live) => bif ((!live && !sg.exAt key) || (sg.rets.flatMap RSh.cells).all RC.solid) && (supds (sg.exAt key) key (sg.rets.flatMap RSh.cells) (sretE f es 0 sg.rets)).all fun p => (s.obj p.1).isNone then
       some ⟨[.op (.fn f 1000) es], smkRet sg.rets (scells key (sg.rets.flatMap RSh.cells) (sretE f es 0 sg.rets)), supds (sg.exAt key) key (sg.rets.flatMap RSh.cells) (sretE f es 0 sg.rets)⟩
     else none
   | none => none
 | none => none
theorem scells_length : ∀ (cs : List RC) (key : Nat) (es : List E), es.length = cs.length → (scells key cs es).length = cs.length
 | [], _, [], _ => rfl
 | [], _, _ :: _, h => by simp at h
 | .im _ :: cs, key, [], h => by simp at h
 | .own _ _ _ :: cs, key, [], h => by simp at h
 | .im _ :: cs, key, e :: es, h => by simp [scells, scells_length cs (key + 1) es (by simpa using h)]
 | .own _ _ _ :: cs, key, e :: es, h => by simp [scells, scells_length cs (key + 1) es (by simpa using h)]
theorem sretE_length (f : Nat) (es : List E) : ∀ (rs : List RSh) (c : Nat), (sretE f es c rs).length = (rs.flatMap RSh.cells).length
 | [], _ => rfl
 | r :: rs, c => by
   simp only [sretE, List.length_append, sretE_length f es rs (c + 1), List.flatMap_cons]
   cases r <;> simp [RSh.es, RSh.cells]
section
variable {Φ : Fns} {env : List D}
theorem sretE_den (f : Nat) (es : List E) : ∀ (rs : List RSh) (c : Nat), (sretE f es c rs).map (E.den Φ env) = retDs (fun c => Φ f c (es.map (E.den Φ env))) c rs
 | [], _ => rfl
 | r :: rs, c => by
   simp only [sretE, retDs, List.map_append, sretE_den f es rs (c + 1)]
   congr 1
   cases r <;> simp [RSh.es, RSh.ds, E.den, E.dens, E.dens_map, opD, Function.comp_def]
theorem newN_mem {ex : Bool} : ∀ (cs : List RC) {key : Nat} {vs : List Value} {es : List E} {Fs : List (List Nat)} {x : Nat} {q : Ob × Value × List Nat}, es.length = cs.length → newN ex key cs vs (es.map (E.den Φ env)) Fs x = some q → ∃ o, (x, o) ∈ supds ex key cs es
 | [], _, _, _, _, _, _, _, h => by simp [newN] at h
 | .im _ :: cs, key, vs, [], _, _, _, hl, _ => by simp at hl
 | .own _ _ _ :: cs, key, vs, [], _, _, _, hl, _ => by simp at hl
 | .im _ :: cs, key, [], e :: es, Fs, x, q, hl, h => by simp [newN] at h
 | .im _ :: cs, key, v :: vs, e :: es, Fs, x, q, hl, h => by
   simp only [newN, List.map_cons, List.tail_cons] at h
   simp only [supds]
   exact newN_mem cs (by simpa using hl) h
 | .own _ _ _ :: cs, key, [], e :: es, Fs, x, q, hl, h => by simp [newN] at h
 | .own _ _ _ :: cs, key, v :: vs, e :: es, [], x, q, hl, h => by simp [newN] at h
 | .own _ _ _ :: cs, key, v :: vs, e :: es, F :: Fs, x, q, hl, h => by
   simp only [newN, List.map_cons, List.tail_cons] at h
   simp only [supds, List.mem_cons, Prod.mk.injEq]
   split at h
   · rename_i hx; exact ⟨_, .inl ⟨hx, rfl⟩⟩
   · obtain ⟨o, ho⟩ := newN_mem cs (by simpa using hl) h
     exact ⟨o, .inr ho⟩
theorem RSh.smk_rep {S : Sur} (r : RSh) {cs : List SC} {vs : List Value} (h : RepACs S (cs.map (SC.den Φ env)) vs) (hl : cs.length = r.cells.length) : RepAV S ((r.smk cs).den Φ env) (r.mk vs) := by
 cases r with
 | one c =>
   obtain ⟨c', rfl⟩ := List.length_eq_one_iff.1 (show cs.length = 1 from hl)
   obtain ⟨v, vs', rfl, ho, hc, _⟩ := h
   exact ⟨hc, ho⟩
 | agg rc => exact ⟨vs, rfl, h⟩
theorem smkRets_rep {S : Sur} : ∀ (rs : List RSh) {cs : List SC} {vs : List Value}, RepACs S (cs.map (SC.den Φ env)) vs → cs.length = (rs.flatMap RSh.cells).length → RepAVs S ((smkRets rs cs).map (SV.den Φ env)) (mkRets rs vs)
 | [], _, _, _, _ => rfl
 | r :: rs, cs, vs, h, hl => by
   simp only [List.flatMap_cons, List.length_append] at hl
   refine ⟨_, _, rfl, RSh.smk_rep r (by rw [List.map_take]; exact RepACs.take _ h) (by rw [List.length_take]; omega), smkRets_rep rs (by rw [List.map_drop]; exact RepACs.drop _ h) (by rw [List.length_drop]; omega)⟩
theorem smkRet_rep {S : Sur} (rs : List RSh) {cs : List SC} {vs : List Value} (h : RepACs S (cs.map (SC.den Φ env)) vs) (hl : cs.length = (rs.flatMap RSh.cells).length) : RepAV S ((smkRet rs cs).den Φ env) (mkRet rs vs) := by
 rcases rs with _ | ⟨r, _ | ⟨r2, rs⟩⟩
 · exact ⟨_, rfl, by rw [SV.dens_map]; exact smkRets_rep [] h hl⟩
 · exact RSh.smk_rep r h (by simpa using hl)
 · exact ⟨_, rfl, by rw [SV.dens_map]; exact smkRets_rep (r :: r2 :: rs) h hl⟩
end
section
variable {Φ : Fns} {env : List D} {C : Cx} {g : Gh} {s : SSt} {a : Act} {w : World} {o : Oper} {key : Nat}
theorem good_call (R : Rel C g (s.den Φ env) a w) {CT : Nat → Option Sig} {f : FuncId} (hCT : ∀ sg, CT f = some sg → FunR C.P f sg.args sg.rets (Φ f) ∧ ∃ fn, C.P.funcs[f]? = some fn ∧ fn.body ≠ none ∧ fn.name ≠ "runtime.NumGoroutine")
   {c : Call} (ho : o.op = .call c) (hc : c.callee = .value (.func f)) {r : Res} (h : fCall C.T CT key s f c.argTypes.toList c.args.toList = some r) (hr : holds Φ env r.cs) :
   Does C a w o (r.v.den Φ env) ((s.upds r.upd).den Φ env) := by
 unfold fCall at h
 split at h
 · rename_i sg hsg
   split at h
   · rename_i es live hes
     obtain ⟨h1, h2⟩ := bif_some h
     clear h
     simp only [Option.some.injEq] at h2
     subst h2
     simp only [Bool.and_eq_true, Bool.or_eq_true, Bool.not_eq_true'] at h1
     obtain ⟨hlive, hfree⟩ := h1
     obtain ⟨hF, fn, hfn, hb, hname⟩ := hCT sg hsg
     generalize hcells : sg.rets.flatMap RSh.cells = cells at *
     have hel : (sretE f es 0 sg.rets).length = cells.length := by rw [sretE_length, hcells]
     have hden := sretE_den (Φ := Φ) (env := env) f es sg.rets 0
     generalize sretE f es 0 sg.rets = rE at *
     have hpre := hr (.op (.fn f 1000) es) (by simp)
     simp only [E.den, E.dens_map, opD] at hpre
     have hMe : ∀ b o, Me C.M (s.den Φ env).obj g.hd g.fp b o → b < w.heap.size := by
       rintro b o (hM | ⟨x, hl, hx⟩ | ⟨x, hl, hx⟩)
       · exact Nat.lt_of_lt_of_le (C.mold b o hM).1 R.fr.size
       · exact (R.alw x b (R.liveBlk hl hx)).2
       · exact (R.alw x b hx).2
     have hcall := hF w (calleeM live (Me C.M (s.den Φ env).obj g.hd g.fp)) _ _ (fun b o hm => hMe b o hm.2) (C.gl w R.fr) (sargs_rep R hes) hpre
     refine does_call R hfn hb hname ho hc ?_
     have harr : (c.args.toList.map a.eval).toArray = c.args.map a.eval := by apply Array.ext'; simp
     rw [harr] at hcall
     refine hcall.mono fun e w' ⟨us, Fs, he, hbel, hret, hnd, hfresh⟩ => ?_
     rw [hcells, ← hden] at hret
     have hNfree : ∀ x q, newN (sg.exAt key) key cells us (rE.map (E.den Φ env)) Fs x = some q → (s.den Φ env).obj x = none := fun x q hq => by
       obtain ⟨ob, hm⟩ := newN_mem cells hel hq
       have := List.all_eq_true.1 hfree (x, ob) hm
       exact none_den (by simpa using this)
     have hσ := supds_obj (ex := sg.exAt key) (Φ := Φ) (env := env) cells (key := key) s hret hel
     have hown : ∀ x ob h f, newN (sg.exAt key) key cells us (rE.map (E.den Φ env)) Fs x = some (ob, h, f) → blkOf h = h.ownBlock ∧ ∀ b, h.ownBlock = some b → b ∈ f := fun x ob h f hq => by
       obtain ⟨_, ⟨t, ks, dp, xs, _, ho⟩, _, _⟩ := newN_spec cells hret hq
       obtain ⟨vss, fps, h1, _, _, _, h5, _⟩ := ho
       exact ⟨blk_own h1, fun b hb => by rw [h5, hb]; simp⟩
     have hsub : sg.exAt key = false → ∀ b o, Me C.M ((s.upds (supds (sg.exAt key) key cells rE)).den Φ env).obj (g.many (newN (sg.exAt key) key cells us (rE.map (E.den Φ env)) Fs)).hd (g.many (newN (sg.exAt key) key cells us (rE.map (E.den Φ env)) Fs)).fp b o → MeH (Me C.M (s.den Φ env).obj g.hd g.fp) (retHeads cells us) b o := by
       rintro hex b o (hM | ⟨x, hl, hx⟩ | ⟨x, hl, hx⟩)
       · exact .inl (.inl hM)
       · cases hq : newN (sg.exAt key) key cells us (rE.map (E.den Φ env)) Fs x with
         | none =>
           rw [hσ, hq] at hl
           simp only [Gh.many, hq] at hx
           exact .inl (.inr (.inl ⟨x, hl, hx⟩))
         | some q =>
           obtain ⟨ob, h, f⟩ := q
           simp only [Gh.many, hq] at hx
           rw [(hown x ob h f hq).1] at hx
           exact .inr ((newN_spec cells hret hq).2.2.2 b hx)
       · cases hq : newN (sg.exAt key) key cells us (rE.map (E.den Φ env)) Fs x with
         | none =>
           rw [hσ, hq] at hl
           simp only [Gh.many, hq] at hx
           exact .inl (.inr (.inr ⟨x, hl, hx⟩))
         | some q =>
           obtain ⟨ob, h, f⟩ := q
           rw [hσ, hq] at hl
           obtain ⟨_, ⟨t, ks, dp, xs, rfl, _⟩, _, _⟩ := newN_spec cells hret hq
           simp only [mkOb, hex, Bool.false_and, cond_false] at hl
           simp [Ob.isX] at hl
     have hret' : RetCs w' (Me C.M ((s.upds (supds (sg.exAt key) key cells rE)).den Φ env).obj (g.many (newN (sg.exAt key) key cells us (rE.map (E.den Φ env)) Fs)).hd (g.many (newN (sg.exAt key) key cells us (rE.map (E.den Φ env)) Fs)).fp) cells us (rE.map (E.den Φ env)) Fs := by
       refine hret.to ?_
       rcases hlive with hl | hl
       · left
         intro b o hm
         rcases hsub hl.2 b o hm with q | q
         · exact .inl ⟨hl.1, q⟩
         · exact .inr q
       · exact .inr hl
     have hN : Rel C (g.many (newN (sg.exAt key) key cells us (rE.map (E.den Φ env)) Fs)) ((s.upds (supds (sg.exAt key) key cells rE)).den Φ env) a w' := by
       refine R.many hbel (by simp [SSt.den, SSt.upds_tmps]) hNfree hσ (fun x ob h f hq b hb => ?_) (fun x ob h f hq => ?_) (fun x y ob h f ob' h' f' hxy hq hq' => newN_apart cells hret hnd hxy hq hq') (fun x q hq => ?_)
       · obtain ⟨e1, e2⟩ := hown x ob h f hq
         rw [e1] at hb
         exact (hfresh b (List.mem_flatten.2 ⟨f, (newN_spec cells hret hq).2.2.1, e2 b hb⟩)).1
       · have hm := (newN_spec cells hret hq).2.2.1
         exact ⟨(List.pairwise_flatten.1 hnd).1 _ hm, fun b hb => hfresh b (List.mem_flatten.2 ⟨f, hm, hb⟩)⟩
       · obtain ⟨ob, h, f⟩ := q
         obtain ⟨_, ⟨t, ks, dp, xs, rfl, hO⟩, _, _⟩ := newN_spec cells hret' hq
         unfold RepOb
         simp only [sur, hσ, hq]
         obtain ⟨vss, fps, h1, h2, h3, h4, h5, h6⟩ := hO
         unfold mkOb
         cases hed : sg.exAt key && dp with
         | true =>
           have hdp : dp = true := by simp only [Bool.and_eq_true] at hed; exact hed.2
           subst hdp
           refine ⟨vss, fps, ?_, h2, h3, h4, ?_, fun i row vs f e1 e2 e3 => by have := h6 i row vs f e1 e2 e3; rwa [if_pos rfl] at this⟩
           · simp only [Gh.many, hq]; exact h1
           · simp only [Gh.many, hq]; exact h5
         | false =>
           refine ⟨vss, fps, ?_, h2, h3, h4, ?_, h6⟩
           · simp only [Gh.many, hq]; exact h1
           · simp only [Gh.many, hq]; exact h5
     refine ⟨_, _, he, ?_, hN⟩
     refine smkRet_rep sg.rets (scells_rep (ex := sg.exAt key) rfl rfl cells hret' hel fun x ob h f hq => ⟨?_, ?_⟩) (by rw [scells_length _ _ _ hel, hcells])
     · show ((s.upds (supds (sg.exAt key) key cells rE)).den Φ env).obj x = _
       rw [hσ, hq]
     · show (g.many _).hd x = h
       simp only [Gh.many, hq]
   · cases h
 · cases h
end
section
variable {C : Cx} {g : Gh} {σ : St} {a : Act} {w : World}
theorem Rel.poke (R : Rel C g σ a w) {σ' : St} {g' : Gh} {w' : World} {F : List Nat} (hfr : Fr w F w') (ht : σ'.tmps = σ.tmps) (hhd : ∀ x, g'.hd x = g.hd x)
   (hF : ∀ b, b ∈ F → ∃ x, Ob.isX (σ.obj x) = true ∧ b ∈ g.fp x)
   (hob : ∀ x, (σ'.obj x = σ.obj x ∧ g'.fp x = g.fp x ∧ ∀ b, b ∈ g.fp x → b ∉ F) ∨
     ∃ t ks xs xs', σ.obj x = some (.arx t ks xs) ∧ σ'.obj x = some (.arx t ks xs') ∧ RepD w' (.sl t ks) (g.hd x) (.sl xs') (g'.fp x) ∧ (g'.fp x).Nodup ∧
       (∀ b, b ∈ g'.fp x → (b ∈ g.fp x ∨ b ∈ F ∨ w.heap.size ≤ b) ∧ b < w'.heap.size) ∧ ∀ i j u, LodAt w ks (g.hd x) i j u → LodAt w' ks (g.hd x) i j u)
   (hap : ∀ x y, x ≠ y → ∀ b, b ∈ g'.fp x → b ∉ g'.fp y) : Rel C g' σ' a w' := by
 have hcell : ∀ b o, b < w.heap.size → b ∉ F → w'.cell? ⟨b, o, none⟩ = w.cell? ⟨b, o, none⟩ := fun b o hb hn => World.cell?_of_block (w := w) (a := ⟨b, o, none⟩) (hfr.block b hb hn)
 have hlive : ∀ x, Ob.live (σ'.obj x) = true → Ob.live (σ.obj x) = true ∧ σ'.obj x = σ.obj x := fun x hl => by
   rcases hob x with ⟨h, _, _⟩ | ⟨t, ks, xs, xs', h1, h2, _⟩
   · rw [h] at hl; exact ⟨hl, h⟩
   · rw [h2] at hl; simp [Ob.live] at hl
 have hkeep : Keeps w (Me C.M σ.obj g.hd g.fp) w' (Me C.M σ'.obj g'.hd g'.fp) := fun b o v hc hn => by
   have hlt := cell_lt hc
   have hnF : b ∉ F := fun hf => by
     obtain ⟨x, h1, h2⟩ := hF b hf
     exact hn (.inr (.inr ⟨x, h1, h2⟩))
   refine ⟨by rw [hcell b o hlt hnF]; exact hc, ?_⟩
   rintro (hM | ⟨x, hl, hx⟩ | ⟨x, hl, hx⟩)
   · exact hn (.inl hM)
   · rw [hhd] at hx
     exact hn (.inr (.inl ⟨x, (hlive x hl).1, hx⟩))
   · rcases hob x with ⟨h, hf, _⟩ | ⟨t, ks, xs, xs', h1, h2, _, _, h3, _⟩
     · rw [h] at hl; rw [hf] at hx
       exact hn (.inr (.inr ⟨x, hl, hx⟩))
     · rcases (h3 b hx).1 with q | q | q
       · exact hn (.inr (.inr ⟨x, by rw [h1]; rfl, q⟩))
       · exact hnF q
       · omega
 have hs : Shift (sur C g σ w) (sur C g' σ' w') := by
   refine ⟨hkeep, fun x p v h => ?_, fun x i j v h => ?_, fun x i j v h => ?_, fun x o h => ?_⟩
   · unfold RefRep at h ⊢
     simp only [sur, hhd] at h ⊢
     rcases hob x with ⟨e, _, _⟩ | ⟨t, ks, xs, xs', h1, h2, _⟩
     · rw [e]
       cases he : σ.obj x with
       | none => rw [he] at h; exact h
       | some q =>
         rw [he] at h
         cases q with
         | «sealed» _ _ _ => exact ⟨h.1, h.2.keeps hkeep⟩
         | _ => exact h
     · rw [h2]; rw [h1] at h; exact h
   · unfold PtrRep at h ⊢
     simp only [sur, hhd] at h ⊢
     rcases hob x with ⟨e, _, _⟩ | ⟨t, ks, xs, xs', h1, h2, _⟩
     · rw [e]; exact h
     · rw [h2]; rw [h1] at h; exact h
   · rcases hob x with ⟨e, _, hd⟩ | ⟨t, ks, xs, xs', h1, h2, _, _, _, hL⟩
     · unfold LodRep at h ⊢
       simp only [sur, hhd] at h ⊢
       rw [e]
       cases he : σ.obj x with
       | none => rw [he] at h; exact h
       | some q =>
         rw [he] at h
         cases q with
         | arx t ks xs =>
           refine LodAt.keep h fun b o u hu hb => ?_
           have hm : b ∈ g.fp x := R.xBlk (by rw [he]; rfl) hb
           rw [hcell b o (cell_lt hu) (hd b hm)]
           exact hu
         | _ => trivial
     · unfold LodRep at h ⊢
       simp only [sur, hhd] at h ⊢
       rw [h2]; rw [h1] at h
       exact hL i j v h
   · simp only [sur] at h
     rcases hob x with ⟨e, _, _⟩ | ⟨t, ks, xs, xs', h1, h2, _⟩
     · exact ⟨o, by simp only [sur]; rw [e]; exact h, fun e' ks' ys' e1 => ⟨⟨ys', e1⟩, hhd x⟩⟩
     · refine ⟨_, by simp only [sur]; exact h2, fun e' ks' ys' e1 => ⟨⟨xs, ?_⟩, hhd x⟩⟩
       rw [h1] at h
       simp only [Option.some.injEq] at h
       subst h
       simp only [Ob.arx.injEq] at e1
       obtain ⟨rfl, rfl, rfl⟩ := e1
       rfl
 have hFold : ∀ b, b ∈ F → C.w0.heap.size ≤ b ∨ b ∈ C.X := fun b hb => by
   obtain ⟨x, _, h2⟩ := hF b hb
   exact (R.alw x b h2).1
 refine R.move ht hs (fun x => ?_) (fun x => ?_) hap (fun x b hb => ?_) (R.fr.trans hfr hFold)
 · rcases hob x with ⟨e, hf, hd⟩ | ⟨t, ks, xs, xs', h1, h2, h3, _⟩
   · exact (R.objs x).shift hs e (hhd x) hf fun b hb => hfr.block b (R.alw x b hb).2 (hd b hb)
   · unfold RepOb
     simp only [sur, h2, hhd]
     obtain ⟨vss, fps, q1, q2, q3, q4, q5, q6⟩ := h3
     exact ⟨vss, fps, q1, q2, q3, q4, q5, q6⟩
 · rcases hob x with ⟨e, hf, hd⟩ | ⟨t, ks, xs, xs', h1, h2, h3, h4, _⟩
   · rw [hf]; exact R.own x
   · exact h4
 · rcases hob x with ⟨e, hf, hd⟩ | ⟨t, ks, xs, xs', h1, h2, h3, _, h4, _⟩
   · rw [hf] at hb
     exact ⟨(R.alw x b hb).1, Nat.lt_of_lt_of_le (R.alw x b hb).2 hfr.size⟩
   · obtain ⟨h5, h6⟩ := h4 b hb
     refine ⟨?_, h6⟩
     rcases h5 with h5 | h5 | h5
     · exact (R.alw x b h5).1
     · exact hFold b h5
     · exact .inl (Nat.le_trans R.fr.size h5)
end
abbrev Tgts := List (Nat × TypeId × List K)
def xcell (s : SSt) : RC → SC → Option (E × Tgts)
 | .im k, c => match sargC s k c with
   | some (e, false) => some (e, [])
   | _ => none
 | .own t ks dp, .ref z none => match s.obj z with
   | some (.arx t' ks' xs) => bif dp && (t' == t && K.eqbs ks' ks) then some (.op .asl [xs], [(z, t, ks)]) else none
   | _ => none
 | _, _ => none
def xcells (s : SSt) : List RC → List SC → Option (List E × Tgts)
 | [], [] => some ([], [])
 | c :: cs, x :: xs => match xcell s c x, xcells s cs xs with
   | some (e, z), some (es, zs) => some (e :: es, z ++ zs)
   | _, _ => none
 | _, _ => none
def xarg (T : TypeId → TI) (s : SSt) (ty : TypeId) (x : Operand) : XSh → Option (E × Tgts)
 | .im sh => match sarg T s ty x sh with
   | some (e, false) => some (e, [])
   | _ => none
 | .one c => match sev T ty s x with
   | .one d => xcell s c d
   | _ => none
 | .agg cs => match sev T ty s x with
   | .agg ds => match xcells s cs ds with
     | some (es, zs) => some (etaE es, zs)
     | none => none
   | _ => none
def xargs (T : TypeId → TI) (s : SSt) : List XSh → List TypeId → List Operand → Option (List E × Tgts)
 | [], [], [] => some ([], [])
 | h :: hs, t :: ts, x :: xs => match xarg T s t x h, xargs T s hs ts xs with
   | some (e, z), some (es, zs) => some (e :: es, z ++ zs)
   | _, _ => none
 | _, _, _ => none
def xupds (f : Nat) (es : List E) : Nat → Tgts → List (Nat × SOb)
 | _, [] => []
 | n, (z, t, ks) :: zs => (z, .arx t ks (.op (.fn f (2000 + n)) es)) :: xupds f es (n + 1) zs
def RC.flatIm : RC → Bool
 | .im k => k.plain
 | _ => false
section
variable {Φ : Fns} {env : List D} {C : Cx} {g : Gh} {s : SSt} {a : Act} {w : World} {o : Oper}
theorem XReps.mono {w : World} {M M' : Nat → Nat → Prop} (h : ∀ b o, M' b o → M b o) : ∀ {ss : List XSh} {vs : List Value} {ds : List D} {Fs : List (List Nat)}, XReps w M ss vs ds Fs → XReps w M' ss vs ds Fs
 | [], _, _, _, hr => hr
 | .im sh :: _, _, _, _, ⟨v, vs', d, ds', e1, e2, h1, h2⟩ => ⟨v, vs', d, ds', e1, e2, h1.mono h, XReps.mono h h2⟩
 | .one c :: _, _, _, _, ⟨v, vs', d, ds', F, Fs', e1, e2, e3, h1, h2⟩ => ⟨v, vs', d, ds', F, Fs', e1, e2, e3, h1.to (.inl h), XReps.mono h h2⟩
 | .agg cs :: _, _, _, _, ⟨us, vs', d, ds', F, Fs', e1, e2, e3, h1, h2⟩ => ⟨us, vs', d, ds', F, Fs', e1, e2, e3, h1.to (.inl h), XReps.mono h h2⟩
theorem RetCs.ext {w : World} {M : Nat → Nat → Prop} : ∀ {cs : List RC} {vs : List Value} {ds ds' : List D} {Fs : List (List Nat)}, RetCs w M cs vs ds Fs → (∀ j, j < cs.length → ds.getD j default = ds'.getD j default) → RetCs w M cs vs ds' Fs
 | [], _, _, _, _, h, _ => h
 | c :: cs, vs, ds, ds', Fs, h, he => by
   have h0 : ds.headD default = ds'.headD default := by
     have := he 0 (by simp)
     simp only [List.headD_eq_head?_getD, List.getD_eq_getElem?_getD, List.head?_eq_getElem?] at this ⊢
     exact this
   have h1 : ∀ j, j < cs.length → ds.tail.getD j default = ds'.tail.getD j default := fun j hj => by
     have := he (j + 1) (by simpa using hj)
     simp only [List.getD_eq_getElem?_getD, List.getElem?_tail] at this ⊢
     exact this
   cases c with
   | im k =>
     obtain ⟨v, vs', e, hc, hr⟩ := h
     exact ⟨v, vs', e, by rw [← h0]; exact hc, hr.ext h1⟩
   | own t ks dp =>
     obtain ⟨v, vs', F, Fs', e1, e2, hc, hr⟩ := h
     exact ⟨v, vs', F, Fs', e1, e2, by rw [← h0]; exact hc, hr.ext h1⟩
abbrev tgF (g : Gh) (zs : Tgts) : List (List Nat) := zs.map fun q => g.fp q.1
abbrev tgV (g : Gh) (zs : Tgts) : List (TypeId × List K × Value) := zs.map fun q => (q.2.1, q.2.2, g.hd q.1)
def Tg (σ : St) (zs : Tgts) : Prop := ∀ q ∈ zs, ∃ xs, σ.obj q.1 = some (.arx q.2.1 q.2.2 xs)
theorem calleeM_false {me : Nat → Nat → Prop} {b o : Nat} (h : me b o) : calleeM false me b o := ⟨rfl, h⟩
theorem xcells_rep (R : Rel C g (s.den Φ env) a w) : ∀ {cs : List RC} {xs : List SC} {vs : List Value} {es : List E} {zs : Tgts}, RepACs (sur C g (s.den Φ env) w) (xs.map (SC.den Φ env)) vs → xcells s cs xs = some (es, zs) →
   RetCs w (Me C.M (s.den Φ env).obj g.hd g.fp) cs vs (es.map (E.den Φ env)) (tgF g zs) ∧ ioCs cs vs = tgV g zs ∧ Tg (s.den Φ env) zs ∧ es.length = cs.length
 | [], [], vs, es, zs, hv, h => by
   simp only [xcells, Option.some.injEq, Prod.mk.injEq] at h
   obtain ⟨rfl, rfl⟩ := h
   have hv : vs = [] := hv
   subst hv
   exact ⟨⟨rfl, rfl⟩, rfl, fun q hq => by simp at hq, rfl⟩
 | [], _ :: _, _, _, _, _, h => by simp [xcells] at h
 | _ :: _, [], _, _, _, _, h => by simp [xcells] at h
 | c :: cs, x :: xs, vs, es, zs, hv, h => by
   obtain ⟨v, vs', rfl, _, hc, hr⟩ := hv
   simp only [xcells] at h
   split at h
   · rename_i e z es1 zs1 h1 h2
     simp only [Option.some.injEq, Prod.mk.injEq] at h
     obtain ⟨rfl, rfl⟩ := h
     obtain ⟨i1, i2, i3, i4⟩ := xcells_rep R hr h2
     cases c with
     | im k =>
       simp only [xcell] at h1
       split at h1
       · rename_i e' hs
         simp only [Option.some.injEq, Prod.mk.injEq] at h1
         obtain ⟨rfl, rfl⟩ := h1
         exact ⟨⟨v, vs', rfl, RepC.mono (fun _ _ => calleeM_false) (sargC_rep R hc hs), i1⟩, i2, i3, by simp [i4]⟩
       · cases h1
     | own t ks dp =>
       cases x with
       | ref z p =>
         cases p with
         | some p => simp [xcell] at h1
         | none =>
           simp only [xcell] at h1
           split at h1
           · rename_i t' ks' ys hz
             obtain ⟨h3, h4⟩ := bif_some h1
             simp only [Bool.and_eq_true, beq_iff_eq] at h3
             obtain ⟨rfl, rfl, h5⟩ := h3
             have h6 := K.eqbs_eq h5
             subst h6
             simp only [Option.some.injEq, Prod.mk.injEq] at h4
             obtain ⟨rfl, rfl⟩ := h4
             have hz' := obj_is (Φ := Φ) (env := env) hz
             have hr' : RefRep (sur C g (s.den Φ env) w) z none v := hc
             unfold RefRep at hr'
             simp only [sur, hz', SOb.den] at hr'
             subst hr'
             obtain ⟨vss, fps, q1, q2, q3, q4, q5, q6⟩ := R.arxRep hz'
             refine ⟨⟨_, vs', _, _, rfl, rfl, ⟨vss, fps, q1, q2, q3, q4, q5, fun i row us f e1 e2 e3 => by rw [if_pos rfl]; exact q6 i row us f e1 e2 e3⟩, i1⟩, ?_, ?_, by simp [i4]⟩
             · simp only [ioCs, i2, tgV, List.cons_append, List.nil_append, List.map_cons]
             · intro q hq
               rcases List.mem_append.1 hq with hq | hq
               · simp only [List.mem_singleton] at hq
                 subst hq
                 exact ⟨_, hz'⟩
               · exact i3 q hq
           · cases h1
       | _ => simp [xcell] at h1
   · cases h
theorem xargs_rep (R : Rel C g (s.den Φ env) a w) : ∀ {hs : List XSh} {ts : List TypeId} {xs : List Operand} {es : List E} {zs : Tgts}, xargs C.T s hs ts xs = some (es, zs) →
   XReps w (Me C.M (s.den Φ env).obj g.hd g.fp) hs (xs.map a.eval) (es.map (E.den Φ env)) (tgF g zs) ∧ ioOf hs (xs.map a.eval) = tgV g zs ∧ Tg (s.den Φ env) zs
 | [], [], [], es, zs, h => by
   simp only [xargs, Option.some.injEq, Prod.mk.injEq] at h
   obtain ⟨rfl, rfl⟩ := h
   exact ⟨⟨rfl, rfl, rfl⟩, rfl, fun q hq => by simp at hq⟩
 | h :: hs, t :: ts, x :: xs, es, zs, hh => by
   simp only [xargs] at hh
   split at hh
   · rename_i e z es1 zs1 h1 h2
     simp only [Option.some.injEq, Prod.mk.injEq] at hh
     obtain ⟨rfl, rfl⟩ := hh
     obtain ⟨i1, i2, i3⟩ := xargs_rep R h2
     have hr := ev_rep R t x
     have hT : ∀ {z : Tgts}, Tg (s.den Φ env) z → Tg (s.den Φ env) (z ++ zs1) := fun hz q hq => by
       rcases List.mem_append.1 hq with hq | hq
       · exact hz q hq
       · exact i3 q hq
     cases h with
     | im sh =>
       simp only [xarg] at h1
       split at h1
       · rename_i e' hs'
         simp only [Option.some.injEq, Prod.mk.injEq] at h1
         obtain ⟨rfl, rfl⟩ := h1
         exact ⟨⟨_, _, _, _, rfl, rfl, ArgRep.mono (fun _ _ => calleeM_false) (sarg_rep R hs'), i1⟩, i2, i3⟩
       · cases h1
     | one c =>
       simp only [xarg] at h1
       split at h1
       · rename_i d hx
         rw [sev_is hx] at hr
         have h1' : xcells s [c] [d] = some ([e], z) := by simp [xcells, h1]
         obtain ⟨j1, j2, j3, _⟩ := xcells_rep (xs := [d]) (vs := [a.eval x]) R ⟨_, _, rfl, hr.2, hr.1, rfl⟩ h1'
         refine ⟨⟨_, _, _, _, _, _, rfl, rfl, ?_, j1, i1⟩, ?_, hT j3⟩
         · simp [tgF]
         · simp only [List.map_cons, ioOf, j2, i2, tgV, List.map_append]
       · cases h1
     | agg cs =>
       simp only [xarg] at h1
       split at h1
       · rename_i ds hx
         rw [sev_is hx] at hr
         obtain ⟨us, e1, hr⟩ := hr
         split at h1
         · rename_i es2 zs2 h3
           simp only [Option.some.injEq, Prod.mk.injEq] at h1
           obtain ⟨rfl, rfl⟩ := h1
           obtain ⟨j1, j2, j3, j4⟩ := xcells_rep R hr h3
           refine ⟨⟨us, _, _, _, _, _, by rw [List.map_cons, e1], rfl, ?_, j1.ext fun j hj => etaE_get es2 j (by omega), i1⟩, ?_, hT j3⟩
           · simp [tgF]
           · simp only [List.map_cons, e1, ioOf, j2, i2, tgV, List.map_append]
         · cases h1
       · cases h1
   · cases hh
 | [], [], _ :: _, _, _, h => by simp [xargs] at h
 | [], _ :: _, _, _, _, h => by simp [xargs] at h
 | _ :: _, [], _, _, _, h => by simp [xargs] at h
 | _ :: _, _ :: _, [], _, _, h => by simp [xargs] at h
def putF : Tgts → List (List Nat) → (Nat → List Nat) → Nat → List Nat
 | (z, _, _) :: zs, G :: Gs, f, x => if x = z then G else putF zs Gs f x
 | _, _, f, x => f x
theorem outs_len {w w' : World} {φ : Nat → D} : ∀ {l : List (TypeId × List K × Value)} {n : Nat} {Gs : List (List Nat)}, OwnOuts w w' n l φ Gs → Gs.length = l.length
 | [], _, _, h => by rw [show _ = [] from h]; rfl
 | (t, ks, v) :: l, n, _, h => by
   obtain ⟨G, Gs', rfl, _, _, h'⟩ := h
   simp [outs_len h']
theorem outs_obj {w' : World} {f : Nat} {es : List E} : ∀ {zs : Tgts} {n : Nat} {Gs : List (List Nat)} (s : SSt), OwnOuts w w' n (tgV g zs) (fun n => Φ f (2000 + n) (es.map (E.den Φ env))) Gs → (zs.map (·.1)).Nodup → ∀ x,
   (x ∉ zs.map (·.1) ∧ ((s.upds (xupds f es n zs)).den Φ env).obj x = (s.den Φ env).obj x ∧ putF zs Gs g.fp x = g.fp x) ∨
   ∃ t ks d, (x, t, ks) ∈ zs ∧ ((s.upds (xupds f es n zs)).den Φ env).obj x = some (.arx t ks d) ∧ RepD w' (.sl t ks) (g.hd x) (.sl d) (putF zs Gs g.fp x) ∧ (∀ i j u, LodAt w ks (g.hd x) i j u → LodAt w' ks (g.hd x) i j u) ∧ putF zs Gs g.fp x ∈ Gs
 | [], n, Gs, s, h, _, x => .inl ⟨by simp, rfl, rfl⟩
 | (z, t, ks) :: zs, n, _, s, h, hnd, x => by
   obtain ⟨G, Gs', rfl, h1, h2, h3⟩ := h
   simp only [List.map_cons] at hnd
   obtain ⟨n1, n2⟩ := List.nodup_cons.1 hnd
   have ih := outs_obj (s.setO z (.arx t ks (.op (.fn f (2000 + n)) es))) h3 n2 x
   have e0 : s.upds (xupds f es n ((z, t, ks) :: zs)) = (s.setO z (.arx t ks (.op (.fn f (2000 + n)) es))).upds (xupds f es (n + 1) zs) := rfl
   rw [e0]
   by_cases hx : x = z
   · subst hx
     right
     rcases ih with ⟨_, e1, _⟩ | ⟨t', ks', d, hm, _⟩
     · refine ⟨t, ks, (Φ f (2000 + n) (es.map (E.den Φ env))).asList, by simp, ?_, ?_, h2, by simp [putF]⟩
       · rw [e1, SSt.den_setO, St.obj_setO, if_pos rfl]
         simp only [SOb.den, E.den, E.dens_map, opD]
       · simp only [putF, if_pos]
         exact h1
     · exact absurd (List.mem_map.2 ⟨_, hm, rfl⟩) n1
   · rcases ih with ⟨e0, e1, e2⟩ | ⟨t', ks', d, hm, e1, e2, e3, e4⟩
     · left
       refine ⟨by simp only [List.map_cons, List.mem_cons, not_or]; exact ⟨hx, e0⟩, ?_, ?_⟩
       · rw [e1, SSt.den_setO, St.obj_setO, if_neg hx]
       · simp only [putF, if_neg hx]; exact e2
     · right
       refine ⟨t', ks', d, by simp [hm], e1, ?_, e3, ?_⟩
       · simp only [putF, if_neg hx]; exact e2
       · simp only [putF, if_neg hx]; exact List.mem_cons_of_mem _ e4
theorem putF_apart {fp : Nat → List Nat} : ∀ {zs : Tgts} {Gs : List (List Nat)}, Gs.length = zs.length → Gs.flatten.Nodup → ∀ {x y : Nat}, x ≠ y → x ∈ zs.map (·.1) → y ∈ zs.map (·.1) → ∀ b, b ∈ putF zs Gs fp x → b ∉ putF zs Gs fp y
 | [], _, _, _, x, y, _, hx, _ => by simp at hx
 | (z, t, ks) :: zs, [], hl, _, _, _, _, _, _ => by simp at hl
 | (z, t, ks) :: zs, G :: Gs, hl, hnd, x, y, hxy, hx, hy => by
   rw [List.flatten_cons] at hnd
   obtain ⟨d1, d2, d3⟩ := List.nodup_append.1 hnd
   have hl' : Gs.length = zs.length := by simpa using hl
   have hin : ∀ {zs : Tgts} {Gs : List (List Nat)} {x : Nat}, Gs.length = zs.length → x ∈ zs.map (·.1) → putF zs Gs fp x ∈ Gs := by
     intro zs
     induction zs with
     | nil => intro Gs x _ hx; simp at hx
     | cons q zs ih =>
       intro Gs x hl hx
       cases Gs with
       | nil => simp at hl
       | cons G Gs =>
         simp only [putF]
         split
         · simp
         · rename_i hn
           simp only [List.map_cons, List.mem_cons] at hx
           exact List.mem_cons_of_mem _ (ih (by simpa using hl) (hx.resolve_left hn))
   simp only [List.map_cons, List.mem_cons] at hx hy
   simp only [putF]
   intro b hb hb'
   split at hb
   · rename_i e
     rw [if_neg (by omega)] at hb'
     exact d3 b hb b (List.mem_flatten.2 ⟨_, hin hl' (hy.resolve_left (by omega)), hb'⟩) rfl
   · rename_i e
     split at hb'
     · exact d3 b hb' b (List.mem_flatten.2 ⟨_, hin hl' (hx.resolve_left e), hb⟩) rfl
     · rename_i e'
       exact putF_apart hl' d2 hxy (hx.resolve_left e) (hy.resolve_left e') b hb hb'
end
def nodupB : List Nat → Bool
 | [] => true
 | x :: l => (l.all fun y => !(y == x)) && nodupB l
theorem nodupB_iff : ∀ {l : List Nat}, nodupB l = true → l.Nodup
 | [], _ => List.nodup_nil
 | x :: l, h => by
   simp only [nodupB, Bool.and_eq_true, List.all_eq_true, Bool.not_eq_true', beq_eq_false_iff_ne] at h
   exact List.nodup_cons.2 ⟨fun hm => h.1 x hm rfl, nodupB_iff h.2⟩
def fCallX (T : TypeId → TI) (args : List XSh) (rets : List RSh) (s : SSt) (f : Nat) (ts : List TypeId) (xs : List Operand) : Option Res :=
 bif (rets.flatMap RSh.cells).all RC.flatIm then match xargs T s args ts xs with
   | some (es, zs) => bif nodupB (zs.map (·.1)) then some ⟨[.op (.fn f 1000) es], smkRet rets (scells 0 (rets.flatMap RSh.cells) (sretE f es 0 rets)), xupds f es 0 zs⟩ else none
   | none => match args, ts, xs with
     | .one (.own t ks dp) :: ss, ty :: ts, x :: xs => match sev T ty s x with
       | .lod y i j => match s.obj y with
         | some (.arx t0 ks0 e0) => match ks0[j]?, xargs T s ss ts xs with
           | some k, some (es, []) => bif dp && (K.eqb k (.sl t ks) && okR ks0.length 64 (arxR e0 i).2) then
               some ⟨[.op .ltlen [i, (arxR e0 i).1], .op (.rowlen ks0.length) [baseR 64 (arxR e0 i).2], .op (.fn f 1000) (.op .asl [fldR j 64 (arxR e0 i).2] :: es)],
                 smkRet rets (scells 0 (rets.flatMap RSh.cells) (sretE f (.op .asl [fldR j 64 (arxR e0 i).2] :: es) 0 rets)),
                 [(y, .arx t0 ks0 (.op .lset [(arxR e0 i).1, i, .op (.rput j) [(arxR e0 i).2, .op (.fn f 2000) (.op .asl [fldR j 64 (arxR e0 i).2] :: es)]]))]⟩ else none
           | _, _ => none
         | _ => none
       | _ => none
     | _, _, _ => none
   else none
section
variable {Φ : Fns} {env : List D} {C : Cx} {g : Gh} {s : SSt} {a : Act} {w : World} {o : Oper}
theorem tgF_nodup (R : Rel C g (s.den Φ env) a w) : ∀ {zs : Tgts}, (zs.map (·.1)).Nodup → (tgF g zs).flatten.Nodup
 | [], _ => List.nodup_nil
 | q :: zs, h => by
   simp only [List.map_cons] at h
   obtain ⟨h1, h2⟩ := List.nodup_cons.1 h
   simp only [tgF, List.map_cons, List.flatten_cons]
   refine List.nodup_append.2 ⟨R.own q.1, tgF_nodup R h2, fun b hb c hc e => ?_⟩
   subst e
   obtain ⟨F, hF, hb'⟩ := List.mem_flatten.1 hc
   obtain ⟨y, hy, rfl⟩ := List.mem_map.1 hF
   exact R.apart q.1 y.1 (fun e => h1 (e ▸ List.mem_map.2 ⟨y, hy, rfl⟩)) b hb hb'
theorem newN_nil {ex : Bool} : ∀ (cs : List RC) {key : Nat} {vs : List Value} {ds : List D} {x : Nat}, newN ex key cs vs ds [] x = none
 | [], _, _, _, _ => rfl
 | .im _ :: cs, _, [], _, _ => rfl
 | .im _ :: cs, key, v :: vs, ds, x => newN_nil cs
 | .own _ _ _ :: cs, _, [], _, _ => rfl
 | .own _ _ _ :: cs, _, _ :: _, _, _ => rfl
theorem flatIm_solid {cs : List RC} (h : cs.all RC.flatIm = true) : cs.all RC.solid = true := by
 rw [List.all_eq_true] at h ⊢
 intro c hc
 have := h c hc
 cases c with
 | im k => exact this
 | own _ _ _ => simp [RC.flatIm] at this
theorem xret_rep {S : Sur} {w' : World} (hw : S.w = w') {rets : List RSh} (hfl : (rets.flatMap RSh.cells).all RC.flatIm = true) {f : Nat} {es : List E} {us : List Value}
   (h : RetCs w' (fun _ _ => False) (rets.flatMap RSh.cells) us (retDs (fun c => Φ f c (es.map (E.den Φ env))) 0 rets) []) :
   RepAV S ((smkRet rets (scells 0 (rets.flatMap RSh.cells) (sretE f es 0 rets))).den Φ env) (mkRet rets us) := by
 have hel : (sretE f es 0 rets).length = (rets.flatMap RSh.cells).length := sretE_length f es rets 0
 rw [← sretE_den] at h
 have h2 := h.to (M' := S.me) (.inr (flatIm_solid hfl))
 exact smkRet_rep rets (scells_rep (ex := false) hw rfl _ h2 hel fun x ob h f hx => by rw [newN_nil] at hx; cases hx) (scells_length _ _ _ hel)
theorem good_callX_objs (R : Rel C g (s.den Φ env) a w) {f : FuncId} {args : List XSh} {rets : List RSh} (hF : FunX C.P f args rets (Φ f)) (hfn : ∃ fn, C.P.funcs[f]? = some fn ∧ fn.body ≠ none ∧ fn.name ≠ "runtime.NumGoroutine")
   {c : Call} (ho : o.op = .call c) (hc : c.callee = .value (.func f)) {es : List E} {zs : Tgts} (hx : xargs C.T s args c.argTypes.toList c.args.toList = some (es, zs)) (hnd : nodupB (zs.map (·.1)) = true)
   (hfl : (rets.flatMap RSh.cells).all RC.flatIm = true) (hpre : (E.den Φ env (.op (.fn f 1000) es)).asBool = true) :
   Does C a w o ((smkRet rets (scells 0 (rets.flatMap RSh.cells) (sretE f es 0 rets))).den Φ env) ((s.upds (xupds f es 0 zs)).den Φ env) := by
 obtain ⟨fn, hfn, hb, hname⟩ := hfn
 obtain ⟨x1, x2, x3⟩ := xargs_rep R hx
 have hnd' := nodupB_iff hnd
 have hFn := tgF_nodup R hnd'
 have hFx : ∀ b, b ∈ (tgF g zs).flatten → ∃ x, x ∈ zs.map (·.1) ∧ Ob.isX ((s.den Φ env).obj x) = true ∧ b ∈ g.fp x := fun b hbm => by
   obtain ⟨F, hF, hb'⟩ := List.mem_flatten.1 hbm
   obtain ⟨q, hq, rfl⟩ := List.mem_map.1 hF
   obtain ⟨xs, hxs⟩ := x3 q hq
   exact ⟨q.1, List.mem_map.2 ⟨q, hq, rfl⟩, by rw [hxs]; rfl, hb'⟩
 have hMe : ∀ b o, Me C.M (s.den Φ env).obj g.hd g.fp b o → b < w.heap.size := by
   rintro b o (hM | ⟨x, hl, hx⟩ | ⟨x, hl, hx⟩)
   · exact Nat.lt_of_lt_of_le (C.mold b o hM).1 R.fr.size
   · exact (R.alw x b (R.liveBlk hl hx)).2
   · exact (R.alw x b hx).2
 simp only [E.den, E.dens_map, opD] at hpre
 have hcall := hF w (fun b o => Me C.M (s.den Φ env).obj g.hd g.fp b o ∧ b ∉ (tgF g zs).flatten) _ _ _ (fun b o hm => ⟨hMe b o hm.1, hm.2⟩) (fun w' hfr => C.gl w' (R.fr.trans hfr fun b hb => by
     obtain ⟨x, _, _, h2⟩ := hFx b hb
     exact (R.alw x b h2).1)) (x1.mono fun b o hm => by
   rcases hm with hm | hm
   · exact hm.1
   · obtain ⟨x, _, h1, h2⟩ := hFx b hm
     exact .inr (.inr ⟨x, h1, h2⟩)) hFn (fun b hb => by
     obtain ⟨x, _, _, h2⟩ := hFx b hb
     exact (R.alw x b h2).2) hpre
 refine does_call R hfn hb hname ho hc ?_
 have harr : (c.args.toList.map a.eval).toArray = c.args.map a.eval := by apply Array.ext'; simp
 rw [harr] at hcall
 refine hcall.mono fun e w' ⟨us, Gs, he, hfr, hret, hout, hGn, hGb⟩ => ?_
 rw [x2] at hout
 have hob := outs_obj (Φ := Φ) (env := env) (f := f) (es := es) s hout hnd'
 have hGl : Gs.length = zs.length := by rw [outs_len hout]; simp
 refine ⟨_, ⟨g.hd, putF zs Gs g.fp⟩, he, xret_rep rfl hfl hret, ?_⟩
 refine R.poke hfr (by simp [SSt.den, SSt.upds_tmps]) (fun _ => rfl) (fun b hb => by obtain ⟨x, _, h1, h2⟩ := hFx b hb; exact ⟨x, h1, h2⟩) (fun x => ?_) (fun x y hxy b hb hb' => ?_)
 · rcases hob x with ⟨h0, h1, h2⟩ | ⟨t, ks, d, hm, h1, h2, h3, h4⟩
   · refine .inl ⟨h1, h2, fun b hb hbF => ?_⟩
     obtain ⟨y, hy, _, hb'⟩ := hFx b hbF
     exact R.apart x y (fun e => h0 (e ▸ hy)) b hb hb'
   · obtain ⟨xs, hxs⟩ := x3 _ hm
     refine .inr ⟨t, ks, xs, d, hxs, h1, h2, (List.pairwise_flatten.1 hGn).1 _ h4, fun b hb => ?_, h3⟩
     obtain ⟨q1, q2⟩ := hGb b (List.mem_flatten.2 ⟨_, h4, hb⟩)
     refine ⟨?_, q2⟩
     rcases q1 with q1 | q1
     · exact .inr (.inr q1)
     · exact .inr (.inl q1)
 · -- apart
   have one : ∀ {x y : Nat}, x ≠ y → (∃ G, G ∈ Gs ∧ putF zs Gs g.fp x = G) → x ∈ zs.map (·.1) → y ∉ zs.map (·.1) → ∀ b, b ∈ putF zs Gs g.fp x → b ∉ g.fp y := fun {x y} hxy ⟨G, hG, e⟩ hx hy b hb hb' => by
     rw [e] at hb
     rcases (hGb b (List.mem_flatten.2 ⟨G, hG, hb⟩)).1 with q | q
     · have := (R.alw y b hb').2
       omega
     · obtain ⟨z, hz, _, hbz⟩ := hFx b q
       exact R.apart z y (fun e => hy (e ▸ hz)) b hbz hb'
   rcases hob x with ⟨h0, h1, h2⟩ | ⟨t, ks, d, hm, h1, h2, h3, h4⟩
   · rcases hob y with ⟨k0, k1, k2⟩ | ⟨t', ks', d', km, k1, k2, k3, k4⟩
     · simp only [h2] at hb
       simp only [k2] at hb'
       exact R.apart x y hxy b hb hb'
     · simp only [h2] at hb
       exact one (Ne.symm hxy) ⟨_, k4, rfl⟩ (List.mem_map.2 ⟨_, km, rfl⟩) h0 b hb' hb
   · rcases hob y with ⟨k0, k1, k2⟩ | ⟨t', ks', d', km, k1, k2, k3, k4⟩
     · simp only [k2] at hb'
       exact one hxy ⟨_, h4, rfl⟩ (List.mem_map.2 ⟨_, hm, rfl⟩) k0 b hb hb'
     · exact putF_apart hGl hGn hxy (List.mem_map.2 ⟨_, hm, rfl⟩) (List.mem_map.2 ⟨_, km, rfl⟩) b hb hb'
theorem good_callX_cell (R : Rel C g (s.den Φ env) a w) {f : FuncId} {args : List XSh} {rets : List RSh} (hF : FunX C.P f args rets (Φ f)) (hfn : ∃ fn, C.P.funcs[f]? = some fn ∧ fn.body ≠ none ∧ fn.name ≠ "runtime.NumGoroutine")
   {c : Call} (ho : o.op = .call c) (hc : c.callee = .value (.func f)) {t : TypeId} {ks : List K} {ss : List XSh} (hsg : args = .one (.own t ks true) :: ss) {ty : TypeId} {ts : List TypeId} {x : Operand} {xs : List Operand}
   (hts : c.argTypes.toList = ty :: ts) (hxs : c.args.toList = x :: xs) {y : Nat} {i : E} {j : Nat} (hsx : sev C.T ty s x = .lod y i j) {t0 : TypeId} {ks0 : List K} {e0 : E} (hy : s.obj y = some (.arx t0 ks0 e0))
   (hk : ks0[j]? = some (.sl t ks)) {es : List E} (hes : xargs C.T s ss ts xs = some (es, [])) (hfl : (rets.flatMap RSh.cells).all RC.flatIm = true)
   {dE nE : E} (hdE : dE.den Φ env = ((e0.den Φ env).asList.getD (i.den Φ env).n []).getD j default) (hnE : (nE.den Φ env).asList = (e0.den Φ env).asList.set (i.den Φ env).n (((e0.den Φ env).asList.getD (i.den Φ env).n []).take j ++ [Φ f 2000 ((E.op .asl [dE] :: es).map (E.den Φ env))] ++ ((e0.den Φ env).asList.getD (i.den Φ env).n []).drop (j + 1)))
   (hi : (i.den Φ env).n < (e0.den Φ env).asList.length) (hrow : ((e0.den Φ env).asList.getD (i.den Φ env).n []).length = ks0.length)
   (hpre : (E.den Φ env (.op (.fn f 1000) (.op .asl [dE] :: es))).asBool = true) :
   Does C a w o ((smkRet rets (scells 0 (rets.flatMap RSh.cells) (sretE f (.op .asl [dE] :: es) 0 rets))).den Φ env)
     ((s.upds [(y, .arx t0 ks0 nE)]).den Φ env) := by
 obtain ⟨fn, hfn, hb, hname⟩ := hfn
 generalize hI : (i.den Φ env).n = I at hi hrow hdE hnE
 generalize hL : (e0.den Φ env).asList = L at hi hrow hdE hnE
 have hy' := obj_is (Φ := Φ) (env := env) hy
 simp only [SOb.den, hL] at hy'
 have hr := ev_rep R ty x
 rw [sev_is hsx] at hr
 simp only [SV.den, hI] at hr
 have hr : LodRep (sur C g (s.den Φ env) w) y I j (a.eval x) := hr
 unfold LodRep at hr
 simp only [sur, hy'] at hr
 obtain ⟨bb, nn, cap, hhd, _, hcell⟩ := hr
 obtain ⟨vss, fps, h1, h2, h3, h4, h5, hlen, h6⟩ := R.arxAll hy'
 have hvi : vss[I]? = some vss[I] := List.getElem?_eq_getElem (by omega)
 have hfi : fps[I]? = some fps[I] := List.getElem?_eq_getElem (by omega)
 have hxi : L[I]? = some (L.getD I []) := by simp [List.getD, hi]
 have c2 := h6 I _ _ _ hxi hvi hfi
 have hlvi : vss[I].length = ks0.length := c2.length
 have hjl := (List.getElem?_eq_some_iff.1 hk).1
 obtain ⟨F1, F2, hF12, r1, r2⟩ := RepDs.split j c2
 have hkd : ks0.drop j = .sl t ks :: ks0.drop (j + 1) := by
   rw [List.drop_eq_getElem_cons hjl]
   rw [List.getElem?_eq_getElem hjl] at hk
   simp only [Option.some.injEq] at hk
   rw [hk]
 rw [hkd] at r2
 obtain ⟨v, vs', f1, f2, ev1, ef, rc, rc'⟩ := r2
 have hvj : v = vss[I][j]'(by omega) := by
   rw [List.drop_eq_getElem_cons (by omega : j < vss[I].length)] at ev1
   simp only [List.cons.injEq] at ev1
   exact ev1.1.symm
 have hrowm : Row w bb (I * ks0.length) vss[I] := ownsRow_row h1 hlen (by rw [hhd]; rfl) hvi
 have hav : a.eval x = v := by
   have := hrowm.get j _ (List.getElem?_eq_getElem (by omega))
   rw [hcell] at this
   simp only [Option.some.injEq] at this
   rw [this, hvj]
 have hd0 : ((L.getD I []).drop j).headD default = (L.getD I []).getD j default := by simp [List.getD_eq_getElem?_getD, List.headD_eq_head?_getD]
 rw [hd0] at rc
 have hfsub : ∀ b, b ∈ f1 → b ∈ fps[I] := fun b hb => by rw [hF12, ef]; simp [hb]
 have hfflat : ∀ b, b ∈ f1 → b ∈ fps.flatten := fun b hb => List.mem_flatten.2 ⟨_, List.mem_of_getElem? hfi, hfsub b hb⟩
 have hffp : ∀ b, b ∈ f1 → b ∈ g.fp y := fun b hb => by rw [h5]; exact List.mem_append.2 (.inr (hfflat b hb))
 have hown := R.own y
 rw [h5] at hown
 obtain ⟨o1, o2, o3⟩ := List.nodup_append.1 hown
 have hni := (List.pairwise_flatten.1 o2).1 _ (List.mem_of_getElem? hfi)
 rw [hF12, ef] at hni
 obtain ⟨m1, m2, m3⟩ := List.nodup_append.1 hni
 obtain ⟨m4, m5, m6⟩ := List.nodup_append.1 m2
 have hMe : ∀ b o, Me C.M (s.den Φ env).obj g.hd g.fp b o → b < w.heap.size := by
   rintro b o (hM | ⟨x, hl, hx⟩ | ⟨x, hl, hx⟩)
   · exact Nat.lt_of_lt_of_le (C.mold b o hM).1 R.fr.size
   · exact (R.alw x b (R.liveBlk hl hx)).2
   · exact (R.alw x b hx).2
 have hyX : Ob.isX ((s.den Φ env).obj y) = true := by rw [hy']; rfl
 obtain ⟨x1, x2, x3⟩ := xargs_rep R hes
 simp only [tgF, List.map_nil] at x1
 have hrcS := rc
 obtain ⟨vssI, fpsI, k1, k2, k3, k4, k5, k6⟩ := hrcS
 have hfld : E.den Φ env (.op .asl [dE]) = .sl ((L.getD I []).getD j default).asList := by
   simp only [E.den, E.dens, opD, List.getD_cons_zero, hdE]
 have hX : XReps w (fun b o => (Me C.M (s.den Φ env).obj g.hd g.fp b o ∧ b ∉ [f1].flatten) ∨ b ∈ [f1].flatten) args (c.args.toList.map a.eval) ((.op .asl [dE] :: es).map (E.den Φ env)) [f1] := by
   rw [hsg, hxs]
   refine ⟨a.eval x, _, _, _, [f1], [], rfl, rfl, rfl, ⟨_, _, _, _, rfl, rfl, ?_, rfl, rfl⟩, x1.mono fun b o hm => ?_⟩
   · rw [hfld, hav]
     exact ⟨vssI, fpsI, k1, k2, k3, k4, k5, fun q row us f' e1 e2 e3 => by rw [if_pos rfl]; exact k6 q row us f' e1 e2 e3⟩
   · rcases hm with hm | hm
     · exact hm.1
     · simp only [List.flatten_cons, List.flatten_nil, List.append_nil] at hm
       exact .inr (.inr ⟨y, hyX, hffp b hm⟩)
 simp only [E.den, E.dens_map, opD] at hpre
 have hcall := hF w (fun b o => Me C.M (s.den Φ env).obj g.hd g.fp b o ∧ b ∉ [f1].flatten) _ _ _ (fun b o hm => ⟨hMe b o hm.1, hm.2⟩) (fun w' hfr => C.gl w' (R.fr.trans hfr fun b hb => (R.alw y b (hffp b (by simpa using hb))).1)) hX (by simpa using m4) (fun b hb => (R.alw y b (hffp b (by simpa using hb))).2) (by simpa [E.den, E.dens, E.dens_map, opD] using hpre)
 refine does_call R hfn hb hname ho hc ?_
 have harr : (c.args.toList.map a.eval).toArray = c.args.map a.eval := by apply Array.ext'; simp
 rw [harr] at hcall
 refine hcall.mono fun e w' ⟨us, Gs, he, hfr, hret, hout, hGn, hGb⟩ => ?_
 rw [hsg, hxs, show ioOf (.one (.own t ks true) :: ss) ((x :: xs).map a.eval) = (t, ks, a.eval x) :: ioOf ss (xs.map a.eval) from rfl, x2] at hout
 simp only [tgV, List.map_nil] at hout
 obtain ⟨G, Gs', rfl, hG1, hG2, hG3⟩ := hout
 have hG3 : Gs' = [] := hG3
 subst hG3
 simp only [List.flatten_cons, List.flatten_nil, List.append_nil] at hfr hGn hGb
 rw [hav] at hG1
 have hfx : ∀ b, b ∈ f1 → ∃ x, Ob.isX ((s.den Φ env).obj x) = true ∧ b ∈ g.fp x := fun b hb => ⟨y, hyX, hffp b hb⟩
 have hblk : ∀ b, b ∈ g.fp y → b ∉ f1 → w'.heap[b]? = w.heap[b]? := fun b hb hn => hfr.block b (R.alw y b hb).2 hn
 have hbb : bb ∈ g.fp y := by rw [h5, hhd]; simp [Value.ownBlock]
 have hbn : bb ∉ f1 := fun hm => o3 bb (by rw [hhd]; simp [Value.ownBlock]) bb (hfflat bb hm) rfl
 have hden : ((SOb.arx t0 ks0 (nE)).den Φ env) =
     .arx t0 ks0 (L.set I ((L.getD I []).take j ++ [Φ f 2000 ((.op .asl [dE] :: es).map (E.den Φ env))] ++ (L.getD I []).drop (j + 1))) := by
   simp only [SOb.den, hnE]
 have hσ : ∀ z, ((s.upds [(y, .arx t0 ks0 nE)]).den Φ env).obj z =
     if z = y then some (.arx t0 ks0 (L.set I ((L.getD I []).take j ++ [Φ f 2000 ((.op .asl [dE] :: es).map (E.den Φ env))] ++ (L.getD I []).drop (j + 1)))) else (s.den Φ env).obj z := fun z => by
   rw [show ∀ ob, s.upds [(y, ob)] = s.setO y ob from fun _ => rfl, SSt.den_setO, St.obj_setO, hden]
 have hG1' : RepD w' (.sl t ks) v (Φ f 2000 ((.op .asl [dE] :: es).map (E.den Φ env))) G := by
   obtain ⟨p1, p2, p3⟩ := hG1
   exact ⟨p1, p2, p3⟩
 generalize Φ f 2000 ((.op .asl [dE] :: es).map (E.den Φ env)) = d' at hσ hG1'
 have hGflat : ∀ b, b ∈ G → b ∈ f1 ∨ w.heap.size ≤ b := fun b hb => (hGb b hb).1.symm
 have hnew : ∀ b, b ∈ F1 ++ (G ++ f2) → b ∈ fps[I] ∨ b ∉ fps.flatten := fun b hb => by
   rcases List.mem_append.1 hb with hb | hb
   · left; rw [hF12]; simp [hb]
   · rcases List.mem_append.1 hb with hb | hb
     · rcases hGflat b hb with q | q
       · exact .inl (hfsub b q)
       · right
         intro hm
         have := (R.alw y b (by rw [h5]; exact List.mem_append.2 (.inr hm))).2
         omega
     · left; rw [hF12, ef]; simp [hb]
 have hold : ∀ b, b ∈ fps.flatten → b < w.heap.size := fun b hm => (R.alw y b (by rw [h5]; exact List.mem_append.2 (.inr hm))).2
 have hnd' : (F1 ++ (G ++ f2)).Nodup := by
   refine List.nodup_append.2 ⟨m1, List.nodup_append.2 ⟨hGn, m5, fun b hb c hc e => ?_⟩, fun b hb c hc e => ?_⟩
   · subst e
     rcases hGflat b hb with q | q
     · exact m6 b q b hc rfl
     · have := hold b (List.mem_flatten.2 ⟨_, List.mem_of_getElem? hfi, by rw [hF12, ef]; simp [hc]⟩)
       omega
   · subst e
     rcases List.mem_append.1 hc with hc | hc
     · rcases hGflat b hc with q | q
       · exact m3 b hb b (by simp [ef, q]) rfl
       · have := hold b (List.mem_flatten.2 ⟨_, List.mem_of_getElem? hfi, by rw [hF12]; simp [hb]⟩)
         omega
     · exact m3 b hb b (by simp [ef, hc]) rfl
 have hset := nodup_set fps I fps[I] (F1 ++ (G ++ f2)) o2 hfi hnew hnd'
 refine ⟨_, g.upd y (g.hd y) ((g.hd y).ownBlock.toList ++ (fps.set I (F1 ++ (G ++ f2))).flatten), he, xret_rep rfl hfl hret, ?_⟩
 have hfpy : (g.upd y (g.hd y) ((g.hd y).ownBlock.toList ++ (fps.set I (F1 ++ (G ++ f2))).flatten)).fp y = (g.hd y).ownBlock.toList ++ (fps.set I (F1 ++ (G ++ f2))).flatten := upd_eq _ _ _
 have hfpz : ∀ z, z ≠ y → (g.upd y (g.hd y) ((g.hd y).ownBlock.toList ++ (fps.set I (F1 ++ (G ++ f2))).flatten)).fp z = g.fp z := fun z hz => upd_ne _ _ hz
 have hmemy : ∀ b, b ∈ (g.hd y).ownBlock.toList ++ (fps.set I (F1 ++ (G ++ f2))).flatten → b ∈ g.fp y ∨ b ∈ f1 ∨ w.heap.size ≤ b := fun b hb => by
   rcases List.mem_append.1 hb with hb | hb
   · left; rw [h5]; exact List.mem_append.2 (.inl hb)
   · rcases mem_flatten_set hb with hb | hb
     · left; rw [h5]; exact List.mem_append.2 (.inr hb)
     · rcases List.mem_append.1 hb with hb | hb
       · left; rw [h5]; exact List.mem_append.2 (.inr (List.mem_flatten.2 ⟨_, List.mem_of_getElem? hfi, by rw [hF12]; simp [hb]⟩))
       · rcases List.mem_append.1 hb with hb | hb
         · exact .inr (hGflat b hb)
         · left; rw [h5]; exact List.mem_append.2 (.inr (List.mem_flatten.2 ⟨_, List.mem_of_getElem? hfi, by rw [hF12, ef]; simp [hb]⟩))
 refine R.poke hfr rfl (fun z => ?_) hfx (fun z => ?_) (fun z z' hzz b hb hb' => ?_)
 · show upd g.hd y (g.hd y) z = g.hd z
   unfold upd; split
   · rename_i e; rw [e]
   · rfl
 · by_cases hz : z = y
   · subst hz
     right
     refine ⟨t0, ks0, L, _, hy', by rw [hσ, if_pos rfl], ?_, ?_, fun b hb => ?_, fun p q u hu => ?_⟩
     · rw [hfpy]
       refine ⟨vss, fps.set I (F1 ++ (G ++ f2)), ?_, ?_, ?_, ?_, rfl, fun q row vs ff e1 e2 e3 => ?_⟩
       · rw [show (D.sl (L.set I ((L.getD I []).take j ++ [d'] ++ (L.getD I []).drop (j + 1)))).asList.length = L.length by simp [D.asList]]
         refine ⟨h1.1, h1.2.imp id ?_⟩
         rintro ⟨gb, cap', cur, e1, e2, e3, e4⟩
         rw [hhd] at e1
         simp only [Value.slice.injEq, Option.some.injEq, Addr.mk.injEq, and_true, true_and] at e1
         obtain ⟨rfl, _, rfl⟩ := e1
         exact ⟨bb, cap, cur, by rw [hhd]; simp_all, e2, by rw [hblk bb hbb hbn]; exact e3, e4⟩
       · simpa [D.asList] using h2
       · simpa [D.asList] using h3
       · simpa [D.asList] using h4
       · simp only [D.asList] at e1
         by_cases hq : q = I
         · subst hq
           rw [List.getElem?_set_self (by omega)] at e1 e3
           rw [hvi] at e2
           simp only [Option.some.injEq] at e1 e2 e3
           subst e1 e2 e3
           have keep1 : ∀ b, b ∈ F1 → w'.heap[b]? = w.heap[b]? := fun b hb => hblk b (by rw [h5]; exact List.mem_append.2 (.inr (List.mem_flatten.2 ⟨_, List.mem_of_getElem? hfi, by rw [hF12]; simp [hb]⟩))) fun hm => m3 b hb b (by simp [ef, hm]) rfl
           have keep2 : ∀ b, b ∈ f2 → w'.heap[b]? = w.heap[b]? := fun b hb => hblk b (by rw [h5]; exact List.mem_append.2 (.inr (List.mem_flatten.2 ⟨_, List.mem_of_getElem? hfi, by rw [hF12, ef]; simp [hb]⟩))) fun hm => m6 b hm b hb rfl
           have q1 := r1.keeps keep1
           have q2 := rc'.keeps keep2
           rw [show ((L.getD q []).drop j).tail = (L.getD q []).drop (j + 1) by rw [List.tail_drop]] at q2
           have qd : RepDs w' (.sl t ks :: ks0.drop (j + 1)) (v :: vs') (d' :: (L.getD q []).drop (j + 1)) (G ++ f2) := ⟨v, vs', G, f2, rfl, rfl, hG1', q2⟩
           have := RepDs.append (by rw [List.length_take, List.length_take, hrow]) q1 qd
           rw [← hkd, List.take_append_drop, ← ev1, List.take_append_drop] at this
           simpa using this
         · rw [List.getElem?_set_ne (fun h => hq h.symm)] at e1 e3
           refine (h6 q row vs ff e1 e2 e3).keeps fun b hb => hblk b (by rw [h5]; exact List.mem_append.2 (.inr (List.mem_flatten.2 ⟨_, List.mem_of_getElem? e3, hb⟩))) fun hm => ?_
           have hq2 := (List.getElem?_eq_some_iff.1 e3).1
           have hq3 := (List.getElem?_eq_some_iff.1 e3).2
           have hIl := (List.getElem?_eq_some_iff.1 hfi).1
           have hp := (List.pairwise_flatten.1 o2).2
           rcases Nat.lt_or_gt_of_ne hq with hlt | hlt
           · exact List.pairwise_iff_getElem.1 hp q I hq2 hIl hlt b (by rw [hq3]; exact hb) b (hfsub b hm) rfl
           · exact List.pairwise_iff_getElem.1 hp I q hIl hq2 hlt b (hfsub b hm) b (by rw [hq3]; exact hb) rfl
     · rw [hfpy]
       refine List.nodup_append.2 ⟨o1, hset, fun b hb c hc e => ?_⟩
       subst e
       have hbb' : b = bb := by rw [hhd] at hb; simpa [Value.ownBlock] using hb
       subst hbb'
       rcases mem_flatten_set hc with hc | hc
       · exact o3 b hb b hc rfl
       · rcases List.mem_append.1 hc with hc | hc
         · exact o3 b hb b (List.mem_flatten.2 ⟨_, List.mem_of_getElem? hfi, by rw [hF12]; simp [hc]⟩) rfl
         · rcases List.mem_append.1 hc with hc | hc
           · rcases hGflat b hc with q | q
             · exact hbn q
             · have := (R.alw _ b hbb).2
               omega
           · exact o3 b hb b (List.mem_flatten.2 ⟨_, List.mem_of_getElem? hfi, by rw [hF12, ef]; simp [hc]⟩) rfl
     · rw [hfpy] at hb
       refine ⟨hmemy b hb, ?_⟩
       rcases List.mem_append.1 hb with hb | hb
       · exact Nat.lt_of_lt_of_le (R.alw _ b (by rw [h5]; exact List.mem_append.2 (.inl hb))).2 hfr.size
       · rcases mem_flatten_set hb with hb | hb
         · exact Nat.lt_of_lt_of_le (hold b hb) hfr.size
         · rcases List.mem_append.1 hb with hb | hb
           · exact Nat.lt_of_lt_of_le (hold b (List.mem_flatten.2 ⟨_, List.mem_of_getElem? hfi, by rw [hF12]; simp [hb]⟩)) hfr.size
           · rcases List.mem_append.1 hb with hb | hb
             · exact (hGb b hb).2
             · exact Nat.lt_of_lt_of_le (hold b (List.mem_flatten.2 ⟨_, List.mem_of_getElem? hfi, by rw [hF12, ef]; simp [hb]⟩)) hfr.size
     · refine hu.keep fun b o u' hu' hbk => ?_
       have : b = bb := by rw [hhd] at hbk; simpa [blkOf] using hbk.symm
       subst this
       rw [World.cell?_of_block (w := w) (a := ⟨b, o, none⟩) (hblk b hbb hbn)]
       exact hu'
   · left
     refine ⟨by rw [hσ, if_neg hz], hfpz z hz, fun b hb hm => R.apart z y hz b hb (hffp b hm)⟩
 · have side : ∀ z, z ≠ y → ∀ b, b ∈ (g.hd y).ownBlock.toList ++ (fps.set I (F1 ++ (G ++ f2))).flatten → b ∉ g.fp z := fun z hz b hb hb' => by
     rcases hmemy b hb with q | q | q
     · exact R.apart y z (Ne.symm hz) b q hb'
     · exact R.apart y z (Ne.symm hz) b (hffp b q) hb'
     · have := (R.alw z b hb').2
       omega
   by_cases hz : z = y
   · subst hz
     rw [hfpy] at hb
     rw [hfpz z' (Ne.symm hzz)] at hb'
     exact side z' (Ne.symm hzz) b hb hb'
   · rw [hfpz z hz] at hb
     by_cases hz' : z' = y
     · subst hz'
       rw [hfpy] at hb'
       exact side z hz b hb' hb
     · rw [hfpz z' hz'] at hb'
       exact R.apart z z' hzz b hb hb'
theorem good_callX (R : Rel C g (s.den Φ env) a w) {f : FuncId} {args : List XSh} {rets : List RSh} (hF : FunX C.P f args rets (Φ f)) (hfn : ∃ fn, C.P.funcs[f]? = some fn ∧ fn.body ≠ none ∧ fn.name ≠ "runtime.NumGoroutine")
   {c : Call} (ho : o.op = .call c) (hc : c.callee = .value (.func f)) {r : Res} (h : fCallX C.T args rets s f c.argTypes.toList c.args.toList = some r) (hr : holds Φ env r.cs) :
   Does C a w o (r.v.den Φ env) ((s.upds r.upd).den Φ env) := by
 unfold fCallX at h
 have hfl := (bif_some h).1
 replace h := (bif_some h).2
 split at h
 · rename_i es zs hx
   obtain ⟨hnd, h⟩ := bif_some h
   simp only [Option.some.injEq] at h
   subst h
   exact good_callX_objs R hF hfn ho hc hx hnd hfl (hr _ (by simp))
 · split at h
   · rename_i t ks dp ss ty ts x xs hts hxs hnone
     split at h
     · rename_i y i j hsx
       split at h
       · rename_i t0 ks0 e0 hy
         split at h
         · rename_i k es hk hes
           obtain ⟨h1, hh⟩ := bif_some h
           clear h
           simp only [Bool.and_eq_true] at h1
           obtain ⟨rfl, h1, hok⟩ := h1
           have h2 := K.eqb_eq h1
           subst h2
           simp only [Option.some.injEq] at hh
           subst hh
           have c0 := hr (.op .ltlen [i, (arxR e0 i).1]) (by simp)
           have c1 := hr (.op (.rowlen ks0.length) [baseR 64 (arxR e0 i).2]) (by simp)
           simp only [E.den, E.dens, opD, D.asBool, decide_eq_true_eq, List.getD_cons_zero, List.getD_cons_succ] at c0 c1
           obtain ⟨x1, x2, x3⟩ := arxR_ok (Φ := Φ) (env := env) e0 i c0
           have x4 := okR_len (Φ := Φ) (env := env) 64 (arxR e0 i).2 hok c1
           have x5 := fldR_ok (Φ := Φ) (env := env) (j := j) 64 (arxR e0 i).2 hok c1
           rw [x2] at x4 x5
           refine good_callX_cell R hF hfn ho hc rfl hts hxs hsx hy hk hes hfl x5 ?_ (by rw [← x1]; exact c0) x4 (hr _ (by simp))
           rw [← x3, ← x2]
           simp only [E.den, E.dens, E.dens_map, opD, List.getD_cons_zero, List.getD_cons_succ, D.asList_sl, D.row, List.headD_cons, List.map_cons, List.length_singleton]
         · cases h
       · cases h
     · cases h
   · cases h
end
end Go.Vx
namespace Go.Vx
open Go.RowKit (Below)
def liveK (s : SSt) : SC → List Nat
 | .ref z _ => match s.obj z with
   | some (.arr _ _ _ _) => [z]
   | some (.arx _ _ _) => [z]
   | _ => []
 | _ => []
def liveV (s : SSt) : SV → List Nat
 | .one c => liveK s c
 | .agg cs => cs.flatMap (liveK s)
 | _ => []
structure Tk where
 es : List E
 ls : List Nat
 kx : List (Nat × Bool)
 zs : List Nat
 bx : List (Nat × TypeId × List BC × List SC)
def Tk.nil : Tk := ⟨[], [], [], [], []⟩
def Tk.app (a b : Tk) : Tk := ⟨a.es ++ b.es, a.ls ++ b.ls, a.kx ++ b.kx, a.zs ++ b.zs, a.bx ++ b.bx⟩
def bcell (s : SSt) : BC → SC → Option Tk
 | .keep k, c => match sargC s k c with
   | some (e, _) => some ⟨[e], liveK s c, [], [], []⟩
   | none => none
 | .im k, c => match sargC s k c with
   | some (e, _) => some ⟨[e], liveK s c, [], [], []⟩
   | none => none
 | .own t ks, .nil t' ks' => bif t' == t && K.eqbs ks' ks then some ⟨[.nl], [], [], [], []⟩ else none
 | .ex t ks _, .nil t' ks' => bif t' == t && K.eqbs ks' ks then some ⟨[.nl], [], [], [], []⟩ else none
 | .own t ks, .ref z none => match s.obj z with
   | some (.arr t' ks' _ xs) => bif t' == t && K.eqbs ks' ks then some ⟨[.op .asl [xs]], [], [(z, false)], [z], []⟩ else none
   | some (.arx t' ks' xs) => bif t' == t && K.eqbs ks' ks then some ⟨[.op .asl [xs]], [], [(z, false)], [z], []⟩ else none
   | _ => none
 | .ex t ks pin, .ref z none => match s.obj z with
   | some (.arx t' ks' xs) => bif t' == t && K.eqbs ks' ks then some ⟨[.op .asl [xs]], [], [(z, true)], bif pin then [] else [z], []⟩ else none
   | _ => none
 | _, _ => none
def bcells (s : SSt) : List BC → List SC → Option Tk
 | [], [] => some .nil
 | c :: cs, x :: xs => match bcell s c x, bcells s cs xs with
   | some t, some u => some (t.app u)
   | _, _ => none
 | _, _ => none
def barg (T : TypeId → TI) (s : SSt) (ty : TypeId) (x : Operand) : BSh → Option Tk
 | .im sh => match sarg T s ty x sh with
   | some (e, _) => some ⟨[e], liveV s (sev T ty s x), [], [], []⟩
   | none => none
 | .one c => match sev T ty s x with
   | .one d => bcell s c d
   | _ => none
 | .agg cs => match sev T ty s x with
   | .agg ds => match bcells s cs ds with
     | some t => some { t with es := [etaE t.es] }
     | none => none
   | _ => none
 | .box T' cs => match sev T ty s x with
   | .ptr y _ j => match s.obj y with
     | some (.box T'' ds) => bif j == 0 && T'' == T' then match bcells s cs ds with
         | some t => some ⟨[etaE t.es], t.ls, (y, true) :: t.kx, t.zs, [(y, T', cs, ds)]⟩
         | none => none
       else none
     | _ => none
   | _ => none
def bargs (T : TypeId → TI) (s : SSt) : List BSh → List TypeId → List Operand → Option Tk
 | [], [], [] => some .nil
 | h :: hs, t :: ts, x :: xs => match barg T s t x h, bargs T s hs ts xs with
   | some a, some b => some (a.app b)
   | _, _ => none
 | _, _, _ => none
def xB (g : Gh) (q : Nat × Bool) : List Nat := if q.2 then g.fp q.1 else (g.hd q.1).ownBlock.toList
section
variable {Φ : Fns} {env : List D} {C : Cx} {g : Gh} {s : SSt} {a : Act} {w : World}
theorem sargC_repM (R : Rel C g (s.den Φ env) a w) {M0 : Nat → Nat → Prop} (hM : ∀ b o, M0 b o → Me C.M (s.den Φ env).obj g.hd g.fp b o) {k : K} {c : SC} (hL : ∀ z, z ∈ liveK s c → ∀ b, b ∈ g.fp z → ∀ o, ¬ M0 b o)
   {v : Value} (hv : RepAC (sur C g (s.den Φ env) w) (c.den Φ env) v) {e : E} {l : Bool} (h : sargC s k c = some (e, l)) : RepC w M0 k v (e.den Φ env) := by
 cases c with
 | dat k' e' =>
   obtain ⟨h1, h2⟩ := bif_some h
   have h3 := K.eqb_eq h1
   subst h3
   simp only [Option.some.injEq, Prod.mk.injEq] at h2
   obtain ⟨rfl, rfl⟩ := h2
   exact RepC.mono hM hv
 | nil t ks =>
   obtain ⟨h1, h2⟩ := bif_some h
   have h3 := K.eqb_eq h1
   subst h3
   simp only [Option.some.injEq, Prod.mk.injEq] at h2
   obtain ⟨rfl, rfl⟩ := h2
   exact RepC.mono hM (RepAC.dn hv)
 | ref z p =>
   simp only [sargC] at h
   have hr : RefRep (sur C g (s.den Φ env) w) z (denP Φ env p) v := hv
   split at h
   · rename_i t ks dp xs hz
     obtain ⟨h1, h2⟩ := bif_some h
     have h3 := K.eqb_eq h1
     subst h3
     simp only [Option.some.injEq, Prod.mk.injEq] at h2
     obtain ⟨rfl, rfl⟩ := h2
     rw [scut_den]
     exact R.sealRep (obj_is hz) hr _ (fun _ _ _ hc hn => ⟨hc, fun hm => hn (hM _ _ hm)⟩) (hL z (by simp [liveK, hz]))
   · rename_i t ks xs hz
     obtain ⟨h1, h2⟩ := bif_some h
     have h3 := K.eqb_eq h1
     subst h3
     simp only [Option.some.injEq, Prod.mk.injEq] at h2
     obtain ⟨rfl, rfl⟩ := h2
     rw [scut_den]
     unfold RefRep at hr
     have ho : (sur C g (s.den Φ env) w).obj z = _ := obj_is (Φ := Φ) (env := env) hz
     rw [ho] at hr
     exact RepC.mono hM hr.2
   · rename_i t ks xs hz
     obtain ⟨h1, h2⟩ := bif_some h
     simp only [Bool.and_eq_true] at h1
     have h3 := K.eqb_eq h1.1
     subst h3
     have hp : p = none := by simpa using h1.2
     subst hp
     simp only [Option.some.injEq, Prod.mk.injEq] at h2
     obtain ⟨rfl, rfl⟩ := h2
     have ho : (sur C g (s.den Φ env) w).obj z = _ := obj_is (Φ := Φ) (env := env) hz
     unfold RefRep at hr
     rw [ho] at hr
     have hv : v = g.hd z := hr
     subst hv
     exact (R.arxRep (obj_is hz)).toC (hL z (by simp [liveK, hz]))
   · cases h
 | dead => simp [sargC] at h
theorem sargCs_repM (R : Rel C g (s.den Φ env) a w) {M0 : Nat → Nat → Prop} (hM : ∀ b o, M0 b o → Me C.M (s.den Φ env).obj g.hd g.fp b o) : ∀ {ks : List K} {cs : List SC} (_ : ∀ z, z ∈ cs.flatMap (liveK s) → ∀ b, b ∈ g.fp z → ∀ o, ¬ M0 b o)
   {vs : List Value} {es : List E} {l : Bool}, RepACs (sur C g (s.den Φ env) w) (cs.map (SC.den Φ env)) vs → sargCs s ks cs = some (es, l) → RepCs w M0 ks vs (es.map (E.den Φ env))
 | [], [], _, vs, es, b, hv, h => by simp only [sargCs, Option.some.injEq, Prod.mk.injEq] at h; obtain ⟨rfl, rfl⟩ := h; exact hv
 | [], _ :: _, _, _, _, _, _, h => by simp [sargCs] at h
 | _ :: _, [], _, _, _, _, _, h => by simp [sargCs] at h
 | k :: ks, c :: cs, hL, vs, es, b, hv, h => by
   obtain ⟨v, vs', rfl, _, hc, hr⟩ := hv
   simp only [sargCs] at h
   split at h
   · rename_i e b1 es1 b2 h1 h2
     simp only [Option.some.injEq, Prod.mk.injEq] at h
     obtain ⟨rfl, rfl⟩ := h
     exact ⟨v, vs', rfl, sargC_repM R hM (fun z hz => hL z (by simp [hz])) hc h1, sargCs_repM R hM (fun z hz => hL z (by rw [List.flatMap_cons]; exact List.mem_append.2 (.inr hz))) hr h2⟩
   · cases h
theorem sarg_repM (R : Rel C g (s.den Φ env) a w) {M0 : Nat → Nat → Prop} (hM : ∀ b o, M0 b o → Me C.M (s.den Φ env).obj g.hd g.fp b o) {ty : TypeId} {x : Operand} (hL : ∀ z, z ∈ liveV s (sev C.T ty s x) → ∀ b, b ∈ g.fp z → ∀ o, ¬ M0 b o)
   {sh : ASh} {e : E} {l : Bool} (h : sarg C.T s ty x sh = some (e, l)) : ArgRep w M0 sh (a.eval x) (e.den Φ env) := by
 have hr := ev_rep R ty x
 cases sh with
 | one k =>
   simp only [sarg] at h
   split at h
   · rename_i c hx
     rw [sev_is hx] at hr
     rw [hx] at hL
     exact sargC_repM R hM hL hr.1 h
   · cases h
 | agg ks =>
   simp only [sarg] at h
   split at h
   · rename_i cs hx
     rw [sev_is hx] at hr
     rw [hx] at hL
     obtain ⟨vs, e1, hr⟩ := hr
     split at h
     · rename_i es b1 h1
       simp only [Option.some.injEq, Prod.mk.injEq] at h
       obtain ⟨rfl, rfl⟩ := h
       refine ⟨vs, e1, ?_⟩
       have := sargCs_repM R hM hL hr h1
       exact this.ext fun j hj => etaE_get es j (by rw [sargCs_len h1]; exact hj)
     · cases h
   · cases h
 | pim ks => simp [sarg] at h
structure Hand (C : Cx) (g : Gh) (σ : St) (M0 : Nat → Nat → Prop) (kx : List (Nat × Bool)) : Prop where
 le : ∀ b o, M0 b o → Me C.M σ.obj g.hd g.fp b o
 /-- nothing of what is handed over is anybody else's, but the blocks handed over themselves -/
 off : ∀ q, q ∈ kx → ∀ b, b ∈ g.fp q.1 → ∀ o, M0 b o → b ∈ xB g q
theorem arr_own (R : Rel C g (s.den Φ env) a w) {M0 : Nat → Nat → Prop} (hM : ∀ b o, M0 b o → Me C.M (s.den Φ env).obj g.hd g.fp b o) {z : Nat} {t : TypeId} {ks : List K} {dp : Bool} {xs : E} (hz : s.obj z = some (.arr t ks dp xs)) :
   OwnRep w M0 t ks false (g.hd z) (xs.den Φ env).asList (g.hd z).ownBlock.toList := by
 have hz' := obj_is (Φ := Φ) (env := env) hz
 have ho := R.objs z
 unfold RepOb at ho
 simp only [sur, hz', SOb.den] at ho
 obtain ⟨vss, fps, h1, h2, h3, h4, h5, h6⟩ := ho
 have hnd := R.own z
 rw [h5] at hnd
 obtain ⟨n1, n2, n3⟩ := List.nodup_append.1 hnd
 refine ⟨vss, List.replicate (xs.den Φ env).asList.length [], h1, h2, h3, by simp, ?_, fun i row vs f e1 e2 e3 => ?_⟩
 · simp
 · rw [if_neg (by simp)]
   have hf : f = [] := by
     have := List.mem_of_getElem? e3
     exact (List.mem_replicate.1 this).2
   refine ⟨?_, hf⟩
   have hlt := (List.getElem?_eq_some_iff.1 e1).1
   have e4 : fps[i]? = some (fps[i]'(by omega)) := List.getElem?_eq_getElem (by omega)
   have := h6 i row vs _ e1 e2 e4
   split at this
   · rename_i hd
     refine this.toC fun b hb o hm => ?_
     have hbz : b ∈ g.fp z := by rw [h5]; exact List.mem_append.2 (.inr (List.mem_flatten.2 ⟨_, List.mem_of_getElem? e4, hb⟩))
     rcases hM b o hm with hM' | ⟨y, hl, hy⟩ | ⟨y, hl, hy⟩
     · have := C.mold b o hM'
       rcases (R.alw z b hbz).1 with q | q
       · omega
       · exact this.2 q
     · by_cases e : y = z
       · subst e
         have hbh : b ∈ (g.hd y).ownBlock.toList := by
           rw [blk_own h1] at hy
           simp [hy]
         exact n3 b hbh b (List.mem_flatten.2 ⟨_, List.mem_of_getElem? e4, hb⟩) rfl
       · exact R.apart y z e b (R.liveBlk hl hy) hbz
     · by_cases e : y = z
       · subst e
         rw [hz'] at hl
         simp [SOb.den, Ob.isX] at hl
       · exact R.apart y z e b hy hbz
   · exact this.1.mono hM
theorem arx_own (R : Rel C g (s.den Φ env) a w) {M0 : Nat → Nat → Prop} {z : Nat} {t : TypeId} {ks : List K} {xs : E} (hz : s.obj z = some (.arx t ks xs)) (hoff : ∀ b, b ∈ g.fp z → ∀ o, M0 b o → b ∈ (g.hd z).ownBlock.toList) :
   OwnRep w M0 t ks false (g.hd z) (xs.den Φ env).asList (g.hd z).ownBlock.toList := by
 have hz' := obj_is (Φ := Φ) (env := env) hz
 have ho := R.objs z
 unfold RepOb at ho
 simp only [sur, hz', SOb.den] at ho
 obtain ⟨vss, fps, h1, h2, h3, h4, h5, h6⟩ := ho
 have hnd := R.own z
 rw [h5] at hnd
 obtain ⟨n1, n2, n3⟩ := List.nodup_append.1 hnd
 refine ⟨vss, List.replicate (xs.den Φ env).asList.length [], h1, h2, h3, by simp, ?_, fun i row vs f e1 e2 e3 => ?_⟩
 · simp
 · rw [if_neg (by simp)]
   have hf : f = [] := by
     have := List.mem_of_getElem? e3
     exact (List.mem_replicate.1 this).2
   refine ⟨?_, hf⟩
   have hlt := (List.getElem?_eq_some_iff.1 e1).1
   have e4 : fps[i]? = some (fps[i]'(by omega)) := List.getElem?_eq_getElem (by omega)
   refine (h6 i row vs _ e1 e2 e4).toC fun b hb o hm => ?_
   have hbf := List.mem_flatten.2 ⟨_, List.mem_of_getElem? e4, hb⟩
   exact n3 b (hoff b (by rw [h5]; exact List.mem_append.2 (.inr hbf)) o hm) b hbf rfl
theorem arx_ex (R : Rel C g (s.den Φ env) a w) {M0 : Nat → Nat → Prop} {z : Nat} {t : TypeId} {ks : List K} {xs : E} (hz : s.obj z = some (.arx t ks xs)) :
   OwnRep w M0 t ks true (g.hd z) (xs.den Φ env).asList (g.fp z) := by
 obtain ⟨vss, fps, q1, q2, q3, q4, q5, q6⟩ := R.arxRep (obj_is (Φ := Φ) (env := env) hz)
 exact ⟨vss, fps, q1, q2, q3, q4, q5, fun i row us f e1 e2 e3 => by rw [if_pos rfl]; exact q6 i row us f e1 e2 e3⟩
theorem nil_own (w : World) (M0 : Nat → Nat → Prop) (t : TypeId) (ks : List K) (dp : Bool) : OwnRep w M0 t ks dp (.slice none 0 0) [] [] :=
 ⟨[], [], World.ownsRow_nil _ _ _ _, by simp [lenMax], rfl, rfl, rfl, fun i row vs f h => by simp at h⟩
theorem bcells_rep (R : Rel C g (s.den Φ env) a w) {M0 : Nat → Nat → Prop} : ∀ {cs : List BC} {xs : List SC} {vs : List Value} {t : Tk}, RepACs (sur C g (s.den Φ env) w) (xs.map (SC.den Φ env)) vs → bcells s cs xs = some t →
   Hand C g (s.den Φ env) M0 t.kx → (∀ z, z ∈ t.ls → ∀ b, b ∈ g.fp z → ∀ o, ¬ M0 b o) →
   (∃ Fs, RetCs w M0 (cs.map BC.rc) vs (t.es.map (E.den Φ env)) Fs ∧ Fs.flatten = t.kx.flatMap (xB g)) ∧ t.es.length = cs.length ∧ t.bx = []
 | [], [], vs, t, hv, h, _, _ => by
   simp only [bcells, Option.some.injEq] at h
   subst h
   have hv : vs = [] := hv
   subst hv
   exact ⟨⟨[], ⟨rfl, rfl⟩, rfl⟩, rfl, rfl⟩
 | [], _ :: _, _, _, _, h, _, _ => by simp [bcells] at h
 | _ :: _, [], _, _, _, h, _, _ => by simp [bcells] at h
 | c :: cs, x :: xs, vs, t, hv, h, hH, hL => by
   obtain ⟨v, vs', rfl, _, hc, hr⟩ := hv
   simp only [bcells] at h
   split at h
   · rename_i t1 t2 h1 h2
     simp only [Option.some.injEq] at h
     subst h
     obtain ⟨⟨Fs, i1, i2⟩, i3, i4⟩ := bcells_rep R (M0 := M0) hr h2 ⟨hH.le, fun q hq => hH.off q (List.mem_append.2 (.inr hq))⟩ (fun z hz => hL z (List.mem_append.2 (.inr hz)))
     have im : ∀ {k : K} {e : E} {l : Bool}, sargC s k x = some (e, l) → t1 = ⟨[e], liveK s x, [], [], []⟩ → RepC w M0 k v (e.den Φ env) := fun hs e1 => by
       subst e1
       exact sargC_repM R hH.le (fun z hz => hL z (List.mem_append.2 (.inl hz))) hc hs
     cases c with
     | keep k =>
       simp only [bcell] at h1
       split at h1
       · rename_i e l hs
         simp only [Option.some.injEq] at h1
         have hx := im hs h1.symm
         subst h1
         exact ⟨⟨Fs, ⟨v, vs', rfl, hx, i1⟩, by simpa [Tk.app] using i2⟩, by simp [Tk.app, i3] <;> omega, by simp [Tk.app, i4]⟩
       · cases h1
     | im k =>
       simp only [bcell] at h1
       split at h1
       · rename_i e l hs
         simp only [Option.some.injEq] at h1
         have hx := im hs h1.symm
         subst h1
         exact ⟨⟨Fs, ⟨v, vs', rfl, hx, i1⟩, by simpa [Tk.app] using i2⟩, by simp [Tk.app, i3] <;> omega, by simp [Tk.app, i4]⟩
       · cases h1
     | own t0 ks =>
       cases x with
       | nil t' ks' =>
         obtain ⟨h3, h4⟩ := bif_some (show (bif t' == t0 && K.eqbs ks' ks then some (⟨[.nl], [], [], [], []⟩ : Tk) else none) = some t1 from h1)
         simp only [Option.some.injEq] at h4
         subst h4
         have hv : v = .slice none 0 0 := hc
         subst hv
         exact ⟨⟨[] :: Fs, ⟨_, vs', [], Fs, rfl, rfl, nil_own _ _ _ _ _, i1⟩, by simpa [Tk.app] using i2⟩, by simp [Tk.app, i3] <;> omega, by simp [Tk.app, i4]⟩
       | ref z p =>
         cases p with
         | some p => simp [bcell] at h1
         | none =>
           simp only [bcell] at h1
           have hr' : RefRep (sur C g (s.den Φ env) w) z none v := hc
           split at h1
           · rename_i t' ks' dp ys hz
             obtain ⟨h3, h4⟩ := bif_some h1
             simp only [Bool.and_eq_true, beq_iff_eq] at h3
             obtain ⟨rfl, h5⟩ := h3
             have h6 := K.eqbs_eq h5
             subst h6
             simp only [Option.some.injEq] at h4
             subst h4
             have hz' := obj_is (Φ := Φ) (env := env) hz
             unfold RefRep at hr'
             simp only [sur, hz', SOb.den] at hr'
             have hv : v = g.hd z := hr'.2
             subst hv
             refine ⟨⟨((g.hd z).ownBlock.toList) :: Fs, ⟨_, vs', ((g.hd z).ownBlock.toList), Fs, rfl, rfl, ?_, i1⟩, ?_⟩, by simp [Tk.app, i3] <;> omega, by simp [Tk.app, i4]⟩
             · have := arr_own R hH.le hz
               simpa [Tk.app, E.den, E.dens, opD] using this
             · simp only [Tk.app, List.flatten_cons, i2, List.flatMap_append, List.flatMap_cons, List.flatMap_nil, List.append_nil, xB, Bool.false_eq_true, if_false]
           · rename_i t' ks' ys hz
             obtain ⟨h3, h4⟩ := bif_some h1
             simp only [Bool.and_eq_true, beq_iff_eq] at h3
             obtain ⟨rfl, h5⟩ := h3
             have h6 := K.eqbs_eq h5
             subst h6
             simp only [Option.some.injEq] at h4
             subst h4
             have hz' := obj_is (Φ := Φ) (env := env) hz
             unfold RefRep at hr'
             simp only [sur, hz', SOb.den] at hr'
             have hv : v = g.hd z := hr'
             subst hv
             refine ⟨⟨((g.hd z).ownBlock.toList) :: Fs, ⟨_, vs', ((g.hd z).ownBlock.toList), Fs, rfl, rfl, ?_, i1⟩, ?_⟩, by simp [Tk.app, i3] <;> omega, by simp [Tk.app, i4]⟩
             · have := arx_own R (M0 := M0) hz (fun b hb o hm => by have := hH.off (z, false) (by simp [Tk.app]) b hb o hm; simpa [xB] using this)
               simpa [Tk.app, E.den, E.dens, opD] using this
             · simp only [Tk.app, List.flatten_cons, i2, List.flatMap_append, List.flatMap_cons, List.flatMap_nil, List.append_nil, xB, Bool.false_eq_true, if_false]
           · cases h1
       | _ => simp [bcell] at h1
     | ex t0 ks pin =>
       cases x with
       | nil t' ks' =>
         obtain ⟨h3, h4⟩ := bif_some (show (bif t' == t0 && K.eqbs ks' ks then some (⟨[.nl], [], [], [], []⟩ : Tk) else none) = some t1 from h1)
         simp only [Option.some.injEq] at h4
         subst h4
         have hv : v = .slice none 0 0 := hc
         subst hv
         exact ⟨⟨[] :: Fs, ⟨_, vs', [], Fs, rfl, rfl, nil_own _ _ _ _ _, i1⟩, by simpa [Tk.app] using i2⟩, by simp [Tk.app, i3] <;> omega, by simp [Tk.app, i4]⟩
       | ref z p =>
         cases p with
         | some p => simp [bcell] at h1
         | none =>
           simp only [bcell] at h1
           have hr' : RefRep (sur C g (s.den Φ env) w) z none v := hc
           split at h1
           · rename_i t' ks' ys hz
             obtain ⟨h3, h4⟩ := bif_some h1
             simp only [Bool.and_eq_true, beq_iff_eq] at h3
             obtain ⟨rfl, h5⟩ := h3
             have h6 := K.eqbs_eq h5
             subst h6
             simp only [Option.some.injEq] at h4
             subst h4
             have hz' := obj_is (Φ := Φ) (env := env) hz
             unfold RefRep at hr'
             simp only [sur, hz', SOb.den] at hr'
             have hv : v = g.hd z := hr'
             subst hv
             refine ⟨⟨(g.fp z) :: Fs, ⟨_, vs', (g.fp z), Fs, rfl, rfl, ?_, i1⟩, ?_⟩, by simp [Tk.app, i3] <;> omega, by simp [Tk.app, i4]⟩
             · have := arx_ex R (M0 := M0) hz
               simpa [Tk.app, E.den, E.dens, opD] using this
             · simp only [Tk.app, List.flatten_cons, i2, List.flatMap_append, List.flatMap_cons, List.flatMap_nil, List.append_nil, xB, if_true]
           · cases h1
       | _ => simp [bcell] at h1
   · cases h
def KxOk (s : SSt) (q : Nat × Bool) : Prop := (q.2 = false ∧ ∃ t ks dp xs, s.obj q.1 = some (.arr t ks dp xs)) ∨ (∃ t ks xs, s.obj q.1 = some (.arx t ks xs)) ∨ (q.2 = true ∧ ∃ T cs, s.obj q.1 = some (.box T cs))
theorem bcell_kx {c : BC} {x : SC} {t : Tk} (h : bcell s c x = some t) : (∀ q, q ∈ t.kx → KxOk s q) ∧ ∀ z, z ∈ t.zs → z ∈ t.kx.map (·.1) := by
 have none' : ∀ {es ls}, t = ⟨es, ls, [], [], []⟩ → (∀ q, q ∈ t.kx → KxOk s q) ∧ ∀ z, z ∈ t.zs → z ∈ t.kx.map (·.1) := fun e => by
   subst e; exact ⟨fun q hq => by simp at hq, fun z hz => by simp at hz⟩
 cases c with
 | keep k =>
   simp only [bcell] at h
   split at h
   · simp only [Option.some.injEq] at h; exact none' h.symm
   · cases h
 | im k =>
   simp only [bcell] at h
   split at h
   · simp only [Option.some.injEq] at h; exact none' h.symm
   · cases h
 | own t0 ks =>
   cases x with
   | nil t' ks' =>
     obtain ⟨_, h4⟩ := bif_some (show (bif t' == t0 && K.eqbs ks' ks then some (⟨[.nl], [], [], [], []⟩ : Tk) else none) = some t from h)
     simp only [Option.some.injEq] at h4; exact none' h4.symm
   | ref z p =>
     cases p with
     | some p => simp [bcell] at h
     | none =>
       simp only [bcell] at h
       split at h
       · rename_i hz
         obtain ⟨_, h4⟩ := bif_some h
         simp only [Option.some.injEq] at h4
         subst h4
         refine ⟨fun q hq => ?_, fun z' hz' => by simpa using hz'⟩
         simp only [List.mem_singleton] at hq; subst hq
         exact .inl ⟨rfl, _, _, _, _, hz⟩
       · rename_i hz
         obtain ⟨_, h4⟩ := bif_some h
         simp only [Option.some.injEq] at h4
         subst h4
         refine ⟨fun q hq => ?_, fun z' hz' => by simpa using hz'⟩
         simp only [List.mem_singleton] at hq; subst hq
         exact .inr (.inl ⟨_, _, _, hz⟩)
       · cases h
   | _ => simp [bcell] at h
 | ex t0 ks pin =>
   cases x with
   | nil t' ks' =>
     obtain ⟨_, h4⟩ := bif_some (show (bif t' == t0 && K.eqbs ks' ks then some (⟨[.nl], [], [], [], []⟩ : Tk) else none) = some t from h)
     simp only [Option.some.injEq] at h4; exact none' h4.symm
   | ref z p =>
     cases p with
     | some p => simp [bcell] at h
     | none =>
       simp only [bcell] at h
       split at h
       · rename_i hz
         obtain ⟨_, h4⟩ := bif_some h
         simp only [Option.some.injEq] at h4
         subst h4
         refine ⟨fun q hq => ?_, fun z' hz' => ?_⟩
         · simp only [List.mem_singleton] at hq; subst hq
           exact .inr (.inl ⟨_, _, _, hz⟩)
         · cases pin <;> simp_all
       · cases h
   | _ => simp [bcell] at h
theorem bcells_kx : ∀ {cs : List BC} {xs : List SC} {t : Tk}, bcells s cs xs = some t → (∀ q, q ∈ t.kx → KxOk s q) ∧ ∀ z, z ∈ t.zs → z ∈ t.kx.map (·.1)
 | [], [], t, h => by
   simp only [bcells, Option.some.injEq] at h
   subst h
   exact ⟨fun q hq => by simp [Tk.nil] at hq, fun z hz => by simp [Tk.nil] at hz⟩
 | [], _ :: _, _, h => by simp [bcells] at h
 | _ :: _, [], _, h => by simp [bcells] at h
 | c :: cs, x :: xs, t, h => by
   simp only [bcells] at h
   split at h
   · rename_i t1 t2 h1 h2
     simp only [Option.some.injEq] at h
     subst h
     obtain ⟨a1, a2⟩ := bcell_kx h1
     obtain ⟨b1, b2⟩ := bcells_kx h2
     refine ⟨fun q hq => ?_, fun z hz => ?_⟩
     · rcases List.mem_append.1 hq with hq | hq
       · exact a1 q hq
       · exact b1 q hq
     · simp only [Tk.app, List.map_append]
       rcases List.mem_append.1 hz with hz | hz
       · exact List.mem_append.2 (.inl (a2 z hz))
       · exact List.mem_append.2 (.inr (b2 z hz))
   · cases h
def BOx (w w' : World) (M : Nat → Nat → Prop) (g : Gh) : Nat → List (Nat × TypeId × List BC × List SC) → (Nat → D) → List (List Value) → List (List (List Nat)) → Prop
 | _, [], _, Bs, Gs => Bs = [] ∧ Gs = []
 | n, (y, T, cs, _) :: bx, φ, Bs, Gs => ∃ b us0 us Bs' G Gs', g.hd y = .pointer (some ⟨b, 0, none⟩) ∧ w.heap[b]? = some (.cells (List.toArray us0) T (0, 0)) ∧ Bs = us :: Bs' ∧ Gs = G :: Gs' ∧
     w'.heap[b]? = some (.cells (List.toArray us) T (0, 0)) ∧ BOutCs w w' M cs us0 us (φ n).row G ∧ BOx w w' M g (n + 1) bx φ Bs' Gs'
def xHD (g : Gh) : List (Nat × TypeId × List BC × List SC) → List (List Value) → List (List (List Nat)) → List Nat
 | (y, _, cs, _) :: bx, us :: Bs, G :: Gs => (blkOf (g.hd y)).toList ++ (cHD cs us G ++ xHD g bx Bs Gs)
 | _, _, _ => []
def xFp (g : Gh) : List (Nat × TypeId × List BC × List SC) → List (List (List Nat)) → List Nat
 | (y, _, _, _) :: bx, G :: Gs => (blkOf (g.hd y)).toList ++ (G.flatten ++ xFp g bx Gs)
 | _, _ => []
theorem bargs_rep (R : Rel C g (s.den Φ env) a w) {M0 : Nat → Nat → Prop} : ∀ {hs : List BSh} {ts : List TypeId} {xs : List Operand} {t : Tk}, bargs C.T s hs ts xs = some t →
   Hand C g (s.den Φ env) M0 t.kx → (∀ z, z ∈ t.ls → ∀ b, b ∈ g.fp z → ∀ o, ¬ M0 b o) →
   (∃ Fs, BReps w M0 hs (xs.map a.eval) (t.es.map (E.den Φ env)) Fs ∧ Fs.flatten = t.kx.flatMap (xB g)) ∧
   (∀ {w' : World} {M : Nat → Nat → Prop} {n : Nat} {φ : Nat → D} {Bs : List (List Value)} {Gs : List (List (List Nat))}, BOuts w w' M n hs (xs.map a.eval) φ Bs Gs → BOx w w' M g n t.bx φ Bs Gs) ∧
   (∀ (Bs : List (List Value)) (Gs : List (List (List Nat))), bHD hs (xs.map a.eval) Bs Gs = xHD g t.bx Bs Gs ∧ bFp hs (xs.map a.eval) Gs = xFp g t.bx Gs) ∧
   (∀ q, q ∈ t.kx → KxOk s q) ∧ (∀ z, z ∈ t.zs → z ∈ t.kx.map (·.1)) ∧ (∀ q, q ∈ t.bx → s.obj q.1 = some (.box q.2.1 q.2.2.2) ∧ (q.1, true) ∈ t.kx ∧ ∃ u, bcells s q.2.2.1 q.2.2.2 = some u ∧ ∀ r, r ∈ u.kx → r ∈ t.kx)
 | [], [], [], t, h, _, _ => by
   simp only [bargs, Option.some.injEq] at h
   subst h
   exact ⟨⟨[], ⟨rfl, rfl, rfl⟩, rfl⟩, fun h => h, fun Bs Gs => ⟨rfl, rfl⟩, fun q hq => by simp [Tk.nil] at hq, fun q hq => by simp [Tk.nil] at hq, fun q hq => by simp [Tk.nil] at hq⟩
 | h :: hs, ty :: ts, x :: xs, t, hh, hH, hL => by
   simp only [bargs] at hh
   split at hh
   · rename_i t1 t2 h1 h2
     simp only [Option.some.injEq] at hh
     subst hh
     have hH1 : Hand C g (s.den Φ env) M0 t1.kx := ⟨hH.le, fun q hq => hH.off q (List.mem_append.2 (.inl hq))⟩
     have hL1 : ∀ z, z ∈ t1.ls → ∀ b, b ∈ g.fp z → ∀ o, ¬ M0 b o := fun z hz => hL z (List.mem_append.2 (.inl hz))
     obtain ⟨⟨Fs, i1, i2⟩, i3, i4, i5, i6, i7⟩ := bargs_rep R (M0 := M0) h2 ⟨hH.le, fun q hq => hH.off q (List.mem_append.2 (.inr hq))⟩ (fun z hz => hL z (List.mem_append.2 (.inr hz)))
     have i7' : ∀ q, q ∈ t2.bx → s.obj q.1 = some (.box q.2.1 q.2.2.2) ∧ (q.1, true) ∈ (t1.app t2).kx ∧ ∃ u, bcells s q.2.2.1 q.2.2.2 = some u ∧ ∀ r, r ∈ u.kx → r ∈ (t1.app t2).kx := fun q hq => by
       obtain ⟨j1, j2, u, j3, j4⟩ := i7 q hq
       exact ⟨j1, List.mem_append.2 (.inr j2), u, j3, fun r hr => List.mem_append.2 (.inr (j4 r hr))⟩
     have kx : (∀ q, q ∈ t1.kx → KxOk s q) → ∀ q, q ∈ (t1.app t2).kx → KxOk s q := fun h1 q hq => by
       rcases List.mem_append.1 hq with hq | hq
       · exact h1 q hq
       · exact i5 q hq
     have zs : (∀ z, z ∈ t1.zs → z ∈ t1.kx.map (·.1)) → ∀ z, z ∈ (t1.app t2).zs → z ∈ (t1.app t2).kx.map (·.1) := fun h1 z hz => by
       simp only [Tk.app, List.map_append]
       rcases List.mem_append.1 hz with hz | hz
       · exact List.mem_append.2 (.inl (h1 z hz))
       · exact List.mem_append.2 (.inr (i6 z hz))
     have hr := ev_rep R ty x
     cases h with
     | im sh =>
       simp only [barg] at h1
       split at h1
       · rename_i e l hs'
         simp only [Option.some.injEq] at h1
         subst h1
         refine ⟨⟨Fs, ⟨_, _, _, _, rfl, rfl, sarg_repM R hH.le hL1 hs', i1⟩, by simpa [Tk.app] using i2⟩, fun hb => i3 hb, fun Bs Gs => i4 Bs Gs, kx (fun q hq => by simp at hq), zs (fun z hz => by simp at hz), fun q hq => i7' q (by simpa [Tk.app] using hq)⟩
       · cases h1
     | one c =>
       simp only [barg] at h1
       split at h1
       · rename_i d hx
         rw [sev_is hx] at hr
         have h1' : bcells s [c] [d] = some t1 := by simp [bcells, h1, Tk.app, Tk.nil]
         obtain ⟨⟨F, j1, j2⟩, j3, j4⟩ := bcells_rep (xs := [d]) (vs := [a.eval x]) R ⟨_, _, rfl, hr.2, hr.1, rfl⟩ h1' hH1 hL1
         obtain ⟨k1, k2⟩ := bcells_kx h1'
         obtain ⟨e, he⟩ : ∃ e, t1.es = [e] := List.length_eq_one_iff.1 (by simpa using j3)
         rw [he] at j1
         refine ⟨⟨F ++ Fs, ⟨a.eval x, xs.map a.eval, e.den Φ env, t2.es.map (E.den Φ env), F, Fs, rfl, by simp [Tk.app, he], rfl, j1, i1⟩, by simp [Tk.app, j2, i2]⟩, fun hb => by simpa [Tk.app, j4] using i3 hb, fun Bs Gs => by simpa [Tk.app, j4, bHD, bFp] using i4 Bs Gs, kx k1, zs k2, fun q hq => i7' q (by simpa [Tk.app, j4] using hq)⟩
       · cases h1
     | agg cs =>
       simp only [barg] at h1
       split at h1
       · rename_i ds hx
         rw [sev_is hx] at hr
         obtain ⟨us, e1, hr⟩ := hr
         split at h1
         · rename_i t0 h3
           simp only [Option.some.injEq] at h1
           subst h1
           obtain ⟨⟨F, j1, j2⟩, j3, j4⟩ := bcells_rep R hr h3 hH1 hL1
           obtain ⟨k1, k2⟩ := bcells_kx h3
           refine ⟨⟨F ++ Fs, ⟨us, _, _, _, F, Fs, by rw [List.map_cons, e1], rfl, rfl, j1.ext fun j hj => etaE_get t0.es j (by rw [j3]; simpa using hj), i1⟩, by simp [Tk.app, j2, i2]⟩, fun hb => by simpa [Tk.app, j4] using i3 hb, fun Bs Gs => by simpa [Tk.app, j4, bHD, bFp] using i4 Bs Gs, kx k1, zs k2, fun q hq => i7' q (by simpa [Tk.app, j4] using hq)⟩
         · cases h1
       · cases h1
     | box T' cs =>
       simp only [barg] at h1
       split at h1
       · rename_i y iE j hx
         rw [sev_is hx] at hr
         split at h1
         · rename_i T'' ds hy
           obtain ⟨h3, h4⟩ := bif_some h1
           clear h1
           simp only [Bool.and_eq_true, beq_iff_eq] at h3
           obtain ⟨rfl, rfl⟩ := h3
           split at h4
           · rename_i t0 h5
             simp only [Option.some.injEq] at h4
             subst h4
             have hy' := obj_is (Φ := Φ) (env := env) hy
             have hr : PtrRep (sur C g (s.den Φ env) w) y _ 0 (a.eval x) := hr
             unfold PtrRep at hr
             simp only [sur, hy', SOb.den] at hr
             obtain ⟨b, hb, ev⟩ := hr
             have ho := R.objs y
             unfold RepOb at ho
             simp only [sur, hy', SOb.den] at ho
             obtain ⟨b', us, hb', hfp, hh, hcs⟩ := ho
             rw [hb] at hb'
             simp only [Value.pointer.injEq, Option.some.injEq, Addr.mk.injEq, and_true] at hb'
             subst hb'
             obtain ⟨⟨F, j1, j2⟩, j3, j4⟩ := bcells_rep (M0 := M0) R hcs h5 ⟨hH.le, fun q hq => hH1.off q (List.mem_cons_of_mem _ hq)⟩ hL1
             obtain ⟨k1, k2⟩ := bcells_kx h5
             refine ⟨⟨[b] :: (F ++ Fs), ⟨b, us, _, _, _, F, Fs, by rw [List.map_cons, ev], rfl, rfl, hh, j1.ext fun j hj => etaE_get t0.es j (by rw [j3]; simpa using hj), i1⟩, ?_⟩, fun hbo => ?_, fun Bs Gs => ?_, kx (fun q hq => ?_), zs (fun z hz => ?_), fun q hq => ?_⟩
             · simp only [Tk.app, List.flatten_cons, List.flatten_append, j2, i2, List.cons_append, List.flatMap_cons, List.flatMap_append, xB, if_true, hfp, List.nil_append]
             · rw [List.map_cons, ev] at hbo
               obtain ⟨b2, us0, vs', us', Bs', G, Gs', q1, q2, q3, q4, q5, q6, q7⟩ := hbo
               simp only [List.cons.injEq, Value.pointer.injEq, Option.some.injEq, Addr.mk.injEq, and_true] at q1
               obtain ⟨rfl, rfl⟩ := q1
               exact ⟨b, us0, us', Bs', G, Gs', hb, q2, q3, q4, q5, q6, i3 q7⟩
             · have hblk : blkOf (a.eval x) = blkOf (g.hd y) := by rw [ev, hb]
               refine ⟨?_, ?_⟩
               · cases Bs with
                 | nil => rfl
                 | cons B Bs =>
                   cases Gs with
                   | nil => rfl
                   | cons G Gs => simp only [List.map_cons, bHD, Tk.app, List.cons_append, List.nil_append, xHD, hblk, (i4 Bs Gs).1]
               · cases Gs with
                 | nil => rfl
                 | cons G Gs => simp only [List.map_cons, bFp, Tk.app, List.cons_append, List.nil_append, xFp, hblk, (i4 Bs Gs).2]
             · rcases List.mem_cons.1 hq with rfl | hq
               · exact .inr (.inr ⟨rfl, _, _, hy⟩)
               · exact k1 q hq
             · exact List.mem_cons_of_mem _ (k2 z hz)
             · rcases List.mem_cons.1 (by simpa [Tk.app] using hq : q ∈ (y, T'', cs, ds) :: t2.bx) with rfl | hq
               · exact ⟨hy, by simp [Tk.app], t0, h5, fun r hr => by simp [Tk.app, hr]⟩
               · exact i7' q hq
           · cases h4
         · cases h1
       · cases h1
   · cases hh
 | [], [], _ :: _, _, h, _, _ => by simp [bargs] at h
 | [], _ :: _, _, _, h, _, _ => by simp [bargs] at h
 | _ :: _, [], _, _, h, _, _ => by simp [bargs] at h
 | _ :: _, _ :: _, [], _, h, _, _ => by simp [bargs] at h
end
def BC.solid : BC → Bool
 | .keep _ => true
 | .im k => k.plain
 | .own _ ks => plainK ks
 | .ex _ _ _ => true
def BSh.solid : BSh → Bool
 | .box _ cs => cs.all BC.solid
 | _ => true
def boutC (row : E) (key : Nat) : Nat → List BC → List SC → List SC
 | j, .keep _ :: cs, c :: ds => c :: boutC row key (j + 1) cs ds
 | j, .im k :: cs, _ :: ds => .dat k (.op (.fld j) [row]) :: boutC row key (j + 1) cs ds
 | j, .own _ _ :: cs, _ :: ds => .ref (key + j) none :: boutC row key (j + 1) cs ds
 | j, .ex _ _ pin :: cs, c :: ds => (bif pin then c else .ref (key + j) none) :: boutC row key (j + 1) cs ds
 | _, _, _ => []
def boutO (row : E) (key : Nat) : Nat → List BC → List SC → List (Nat × SOb)
 | j, .keep _ :: cs, _ :: ds => boutO row key (j + 1) cs ds
 | j, .im _ :: cs, _ :: ds => boutO row key (j + 1) cs ds
 | j, .own t ks :: cs, _ :: ds => (key + j, .arr t ks false (.op (.fld j) [row])) :: boutO row key (j + 1) cs ds
 | j, .ex t ks false :: cs, _ :: ds => (key + j, .arx t ks (.op (.fld j) [row])) :: boutO row key (j + 1) cs ds
 | j, .ex t ks true :: cs, .ref z none :: ds => (z, .arx t ks (.op (.fld j) [row])) :: boutO row key (j + 1) cs ds
 | j, .ex _ _ true :: cs, _ :: ds => boutO row key (j + 1) cs ds
 | _, _, _ => []
def boutN (key : Nat) : Nat → List BC → List Nat
 | j, .own _ _ :: cs => (key + j) :: boutN key (j + 1) cs
 | j, .ex _ _ false :: cs => (key + j) :: boutN key (j + 1) cs
 | j, _ :: cs => boutN key (j + 1) cs
 | _, [] => []
def itmC (row : E) (key : Nat) : Nat → List BC → List SC → List Value → List (List Nat) → List Itm
 | j, .keep _ :: cs, _ :: ds, _ :: us, Gs => itmC row key (j + 1) cs ds us Gs
 | j, .im _ :: cs, _ :: ds, _ :: us, Gs => itmC row key (j + 1) cs ds us Gs
 | j, .own t ks :: cs, _ :: ds, u :: us, G :: Gs => ⟨key + j, .arr t ks false (.op (.fld j) [row]), u, G⟩ :: itmC row key (j + 1) cs ds us Gs
 | j, .ex t ks false :: cs, _ :: ds, u :: us, G :: Gs => ⟨key + j, .arx t ks (.op (.fld j) [row]), u, G⟩ :: itmC row key (j + 1) cs ds us Gs
 | j, .ex t ks true :: cs, .ref z none :: ds, u :: us, G :: Gs => ⟨z, .arx t ks (.op (.fld j) [row]), u, G⟩ :: itmC row key (j + 1) cs ds us Gs
 | j, .ex _ _ true :: cs, _ :: ds, _ :: us, _ :: Gs => itmC row key (j + 1) cs ds us Gs
 | _, _, _, _, _ => []
section
variable {Φ : Fns} {env : List D} {C : Cx} {g : Gh} {s : SSt} {a : Act} {w w' : World}
theorem own_nil_fp {w : World} {M : Nat → Nat → Prop} {t : TypeId} {ks : List K} {dp : Bool} {xs : List (List D)} {F : List Nat} (h : OwnRep w M t ks dp (.slice none 0 0) xs F) : F = [] := by
 obtain ⟨vss, fps, h1, h2, h3, h4, h5, h6⟩ := h
 have hn : xs.length = 0 := by
   rcases h1.2 with ⟨_, q⟩ | ⟨gg, cap, cur, e, _⟩
   · exact q
   · cases e
 have : fps = [] := List.eq_nil_of_length_eq_zero (by omega)
 rw [h5, this]
 rfl
structure CI (Φ : Fns) (env : List D) (g : Gh) (s : SSt) (w w' : World) (M' : Nat → Nat → Prop) (HD : List Nat) (new : List Nat) (i : Itm) : Prop where
 kind : (∃ t ks xs, i.ob = .arr t ks false xs ∧ OwnRep w' M' t ks false i.hd (xs.den Φ env).asList i.fp ∧ (∀ b, i.hd.ownBlock = some b → b ∈ HD) ∧ i.key ∈ new) ∨
   (∃ t ks xs, i.ob = .arx t ks xs ∧ OwnRep w' M' t ks true i.hd (xs.den Φ env).asList i.fp ∧ (∀ b, b ∈ i.fp → b ∈ HD) ∧
     (i.key ∈ new ∨ ∃ xs0, s.obj i.key = some (.arx t ks xs0) ∧ i.hd = g.hd i.key ∧ ∀ i' j' x, LodAt w ks (g.hd i.key) i' j' x → LodAt w' ks (g.hd i.key) i' j' x))
theorem CI.mono {M' : Nat → Nat → Prop} {HD HD' new new' : List Nat} {i : Itm} (h : CI Φ env g s w w' M' HD new i) (hH : ∀ b, b ∈ HD → b ∈ HD') (hn : ∀ x, x ∈ new → x ∈ new') : CI Φ env g s w w' M' HD' new' i := by
 rcases h with ⟨⟨t, ks, xs, h1, h2, h3, h4⟩ | ⟨t, ks, xs, h1, h2, h3, h4⟩⟩
 · exact ⟨.inl ⟨t, ks, xs, h1, h2, fun b hb => hH b (h3 b hb), hn _ h4⟩⟩
 · exact ⟨.inr ⟨t, ks, xs, h1, h2, fun b hb => hH b (h3 b hb), h4.imp (hn _) id⟩⟩
theorem bout_all (R : Rel C g (s.den Φ env) a w) {M' : Nat → Nat → Prop} {row : E} {key : Nat} : ∀ {cs : List BC} {ds : List SC} {us0 us : List Value} {Gs : List (List Nat)} {t : Tk} {dd : List D} {j : Nat},
   RepACs (sur C g (s.den Φ env) w) (ds.map (SC.den Φ env)) us0 → bcells s cs ds = some t → BOutCs w w' M' cs us0 us dd Gs → (∀ i, dd.getD i default = (row.den Φ env).row.getD (j + i) default) →
   ((itmC row key j cs ds us Gs).map fun i => (i.key, i.ob)) = boutO row key j cs ds ∧ (itmC row key j cs ds us Gs).flatMap Itm.fp = Gs.flatten ∧
   (∀ i, i ∈ itmC row key j cs ds us Gs → CI Φ env g s w w' M' (cHD cs us Gs) (boutN key j cs) i) ∧
   ∀ S : Sur, S.w = w' → Shift (sur C g (s.den Φ env) w) S → (cs.all BC.solid = true ∨ ∀ b o, S.me b o → M' b o) → (∀ i, i ∈ itmC row key j cs ds us Gs → S.obj i.key = some (i.ob.den Φ env) ∧ S.hd i.key = i.hd) →
     RepACs S ((boutC row key j cs ds).map (SC.den Φ env)) us
 | [], [], us0, us, Gs, t, dd, j, hv, hb, ho, hd => by
   obtain ⟨rfl, rfl⟩ := ho
   exact ⟨rfl, rfl, fun i hi => by simp [itmC] at hi, fun S _ _ _ _ => rfl⟩
 | [], _ :: _, _, _, _, _, _, _, _, hb, _, _ => by simp [bcells] at hb
 | _ :: _, [], _, _, _, _, _, _, _, hb, _, _ => by simp [bcells] at hb
 | c :: cs, d :: ds, us0, us, Gs, t, dd, j, hv, hb, ho, hd => by
   obtain ⟨v, vs', rfl, hone, hc, hr⟩ := hv
   have hd0 : dd.headD default = (row.den Φ env).row.getD j default := by
     have := hd 0
     simpa [List.headD_eq_head?_getD, List.getD_eq_getElem?_getD, List.head?_eq_getElem?] using this
   have hd1 : ∀ i, dd.tail.getD i default = (row.den Φ env).row.getD (j + 1 + i) default := fun i => by
     have := hd (i + 1)
     rw [show j + (i + 1) = j + 1 + i by omega] at this
     rw [← this]
     simp [List.getD_eq_getElem?_getD, List.getElem?_tail]
   have hrow : (E.op (.fld j) [row]).den Φ env = dd.headD default := by
     rw [hd0]; simp [E.den, E.dens, opD]
   simp only [bcells] at hb
   split at hb
   · rename_i t1 t2 hb1 hb2
     cases c with
     | keep k =>
       obtain ⟨v0, vs0, us', e1, rfl, ho⟩ := ho
       simp only [List.cons.injEq] at e1
       obtain ⟨rfl, rfl⟩ := e1
       obtain ⟨i1, i2, i3, i4⟩ := bout_all R (row := row) (key := key) (M' := M') hr hb2 ho hd1
       refine ⟨i1, i2, i3, fun S hS hs hsol hi => ⟨v, us', rfl, hone, hc.shift hs, i4 S hS hs (hsol.imp (fun h => ?_) id) hi⟩⟩
       simp only [List.all_cons, Bool.and_eq_true] at h; exact h.2
     | im k =>
       obtain ⟨v0, vs0, u, us', e1, rfl, hu, ho⟩ := ho
       simp only [List.cons.injEq] at e1
       obtain ⟨rfl, rfl⟩ := e1
       obtain ⟨i1, i2, i3, i4⟩ := bout_all R (row := row) (key := key) (M' := M') hr hb2 ho hd1
       refine ⟨i1, i2, i3, fun S hS hs hsol hi => ⟨u, us', rfl, hu.oneCell, ?_, i4 S hS hs (hsol.imp (fun h => ?_) id) hi⟩⟩
       · show RepC S.w S.me k u _
         rw [hS, hrow]
         rcases hsol with h | h
         · simp only [List.all_cons, Bool.and_eq_true] at h
           exact hu.plain' h.1
         · exact hu.mono h
       · simp only [List.all_cons, Bool.and_eq_true] at h; exact h.2
     | own t0 ks =>
       obtain ⟨v0, vs0, u, us', G, Gs', e1, rfl, rfl, hu, ho⟩ := ho
       simp only [List.cons.injEq] at e1
       obtain ⟨rfl, rfl⟩ := e1
       obtain ⟨i1, i2, i3, i4⟩ := bout_all R (row := row) (key := key) (M' := M') hr hb2 ho hd1
       refine ⟨by simp only [itmC, boutO, List.map_cons, i1], by simp only [itmC, List.flatMap_cons, i2, List.flatten_cons], fun i hi => ?_, fun S hS hs hsol hi => ⟨u, us', rfl, ?_, ?_, i4 S hS hs (hsol.imp (fun h => ?_) id) fun i hm => hi i (List.mem_cons_of_mem _ hm)⟩⟩
       · rcases List.mem_cons.1 hi with rfl | hi
         · refine ⟨.inl ⟨t0, ks, _, rfl, by rw [hrow]; exact hu, fun b hb => by simp [cHD, hb], by simp [boutN]⟩⟩
         · exact (i3 i hi).mono (fun b hb => by simp only [cHD]; exact List.mem_append.2 (.inr hb)) (fun x hx => by simp only [boutN]; exact List.mem_cons_of_mem _ hx)
       · obtain ⟨_, _, hown, _⟩ := hu
         rcases ownsRow_cases hown with ⟨e, _⟩ | ⟨b, c, e, _⟩ <;> rw [e] <;> rfl
       · obtain ⟨q1, q2⟩ := hi ⟨key + j, .arr t0 ks false (.op (.fld j) [row]), u, G⟩ (by simp [itmC])
         show RefRep S (key + j) none u
         unfold RefRep
         rw [q1]
         exact ⟨trivial, q2.symm⟩
       · simp only [List.all_cons, Bool.and_eq_true] at h; exact h.2
     | ex t0 ks pin =>
       obtain ⟨v0, vs0, u, us', G, Gs', e1, rfl, rfl, hu, hpin, ho⟩ := ho
       simp only [List.cons.injEq] at e1
       obtain ⟨rfl, rfl⟩ := e1
       obtain ⟨i1, i2, i3, i4⟩ := bout_all R (row := row) (key := key) (M' := M') hr hb2 ho hd1
       have hsol' : ∀ {S : Sur}, ((BC.ex t0 ks pin :: cs).all BC.solid = true ∨ ∀ b o, S.me b o → M' b o) → (cs.all BC.solid = true ∨ ∀ b o, S.me b o → M' b o) := fun h => h.imp (fun h => by simp only [List.all_cons, Bool.and_eq_true] at h; exact h.2) id
       have hone' : u.oneCell' = true := by
         obtain ⟨_, _, hown, _⟩ := hu
         rcases ownsRow_cases hown with ⟨e, _⟩ | ⟨b, c, e, _⟩ <;> rw [e] <;> rfl
       cases pin with
       | false =>
         refine ⟨by simp only [itmC, boutO, List.map_cons, i1], by simp only [itmC, List.flatMap_cons, i2, List.flatten_cons], fun i hi => ?_, fun S hS hs hsol hi => ⟨u, us', rfl, hone', ?_, i4 S hS hs (hsol' hsol) fun i hm => hi i (List.mem_cons_of_mem _ hm)⟩⟩
         · rcases List.mem_cons.1 hi with rfl | hi
           · refine ⟨.inr ⟨t0, ks, _, rfl, by rw [hrow]; exact hu, fun b hb => by simp only [cHD]; exact List.mem_append.2 (.inl hb), .inl (by simp [boutN])⟩⟩
           · exact (i3 i hi).mono (fun b hb => by simp only [cHD]; exact List.mem_append.2 (.inr hb)) (fun x hx => by simp only [boutN]; exact List.mem_cons_of_mem _ hx)
         · obtain ⟨q1, q2⟩ := hi ⟨key + j, .arx t0 ks (.op (.fld j) [row]), u, G⟩ (by simp [itmC])
           show RefRep S (key + j) none u
           unfold RefRep
           rw [q1]
           exact q2.symm
       | true =>
         obtain ⟨rfl, hlod⟩ := hpin rfl
         cases d with
         | nil t' ks' =>
           have hv : u = .slice none 0 0 := hc
           subst hv
           have hG := own_nil_fp hu
           subst hG
           refine ⟨by simp only [itmC, boutO, i1], by simp only [itmC, i2, List.flatten_cons, List.nil_append], fun i hi => (i3 i hi).mono (fun b hb => by simp only [cHD]; exact List.mem_append.2 (.inr hb)) (fun x hx => hx), fun S hS hs hsol hi => ⟨_, us', rfl, hone, hc.shift hs, i4 S hS hs (hsol' hsol) hi⟩⟩
         | ref z p =>
           cases p with
           | some p => simp [bcell] at hb1
           | none =>
             simp only [bcell] at hb1
             split at hb1
             · rename_i t' ks' ys hz
               obtain ⟨h3, _⟩ := bif_some hb1
               simp only [Bool.and_eq_true, beq_iff_eq] at h3
               obtain ⟨rfl, h5⟩ := h3
               have h6 := K.eqbs_eq h5
               subst h6
               have hz' := obj_is (Φ := Φ) (env := env) hz
               have hr' : RefRep (sur C g (s.den Φ env) w) z none u := hc
               unfold RefRep at hr'
               simp only [sur, hz', SOb.den] at hr'
               have hv : u = g.hd z := hr'
               refine ⟨by simp only [itmC, boutO, List.map_cons, i1], by simp only [itmC, List.flatMap_cons, i2, List.flatten_cons], fun i hi => ?_, fun S hS hs hsol hi => ⟨u, us', rfl, hone, hc.shift hs, i4 S hS hs (hsol' hsol) fun i hm => hi i (List.mem_cons_of_mem _ hm)⟩⟩
               rcases List.mem_cons.1 hi with rfl | hi
               · refine ⟨.inr ⟨t', ks', _, rfl, by rw [hrow]; exact hu, fun b hb => by simp only [cHD]; exact List.mem_append.2 (.inl hb), .inr ⟨ys, hz, hv, ?_⟩⟩⟩
                 rw [← hv]; exact hlod
               · exact (i3 i hi).mono (fun b hb => by simp only [cHD]; exact List.mem_append.2 (.inr hb)) (fun x hx => hx)
             · cases hb1
         | _ => simp [bcell] at hb1
   · cases hb
end
def boutB (f : Nat) (es : List E) : Nat → Nat → List (Nat × TypeId × List BC × List SC) → List (Nat × SOb)
 | _, _, [] => []
 | n, key, (y, T, cs, ds) :: bx => (y, .box T (boutC (.op (.fn f (2000 + n)) es) key 0 cs ds)) :: (boutO (.op (.fn f (2000 + n)) es) key 0 cs ds ++ boutB f es (n + 1) (key + cs.length) bx)
def boutBN : Nat → List (Nat × TypeId × List BC × List SC) → List Nat
 | _, [] => []
 | key, (_, _, cs, _) :: bx => boutN key 0 cs ++ boutBN (key + cs.length) bx
def itmB (g : Gh) (f : Nat) (es : List E) : Nat → Nat → List (Nat × TypeId × List BC × List SC) → List (List Value) → List (List (List Nat)) → List Itm
 | n, key, (y, T, cs, ds) :: bx, us :: Bs, G :: Gs => ⟨y, .box T (boutC (.op (.fn f (2000 + n)) es) key 0 cs ds), g.hd y, (blkOf (g.hd y)).toList⟩ ::
     (itmC (.op (.fn f (2000 + n)) es) key 0 cs ds us G ++ itmB g f es (n + 1) (key + cs.length) bx Bs Gs)
 | _, _, _, _, _ => []
def itmR : Nat → List RC → List Value → List E → List (List Nat) → List Itm
 | key, .im _ :: cs, _ :: vs, _ :: es, Fs => itmR (key + 1) cs vs es Fs
 | key, .own t ks dp :: cs, v :: vs, e :: es, F :: Fs => ⟨key, .arr t ks dp e, v, F⟩ :: itmR (key + 1) cs vs es Fs
 | _, _, _, _, _ => []
section
variable {Φ : Fns} {env : List D} {C : Cx} {g : Gh} {s : SSt} {a : Act} {w w' : World}
theorem itmR_all {M : Nat → Nat → Prop} : ∀ (cs : List RC) {key : Nat} {vs : List Value} {es : List E} {Fs : List (List Nat)}, RetCs w' M cs vs (es.map (E.den Φ env)) Fs → es.length = cs.length →
   ((itmR key cs vs es Fs).map fun i => (i.key, i.ob)) = supds false key cs es ∧ (itmR key cs vs es Fs).flatMap Itm.fp = Fs.flatten ∧
   (∀ i, i ∈ itmR key cs vs es Fs → ∃ t ks dp xs, i.ob = .arr t ks dp xs ∧ OwnRep w' M t ks dp i.hd (xs.den Φ env).asList i.fp ∧ ∀ b, i.hd.ownBlock = some b → b ∈ retHeads cs vs) ∧
   ∀ x o h f, newN false key cs vs (es.map (E.den Φ env)) Fs x = some (o, h, f) → ∃ i, i ∈ itmR key cs vs es Fs ∧ i.key = x ∧ i.ob.den Φ env = o ∧ i.hd = h
 | [], key, vs, es, Fs, hr, hl => by
   obtain ⟨rfl, rfl⟩ := hr
   exact ⟨by simp [itmR, supds], by simp [itmR], fun i hi => by simp [itmR] at hi, fun x o h f hn => by simp [newN] at hn⟩
 | .im k :: cs, key, vs, [], Fs, _, hl => by simp at hl
 | .own t ks dp :: cs, key, vs, [], Fs, _, hl => by simp at hl
 | .im k :: cs, key, vs, e :: es, Fs, hr, hl => by
   obtain ⟨v, vs', rfl, hc, hr⟩ := hr
   obtain ⟨i1, i2, i3, i4⟩ := itmR_all cs (key := key + 1) (es := es) hr (by simpa using hl)
   refine ⟨by simp only [itmR, supds, i1], by simp only [itmR, i2], fun i hi => ?_, fun x o h f hn => ?_⟩
   · obtain ⟨t, ks, dp, xs, q1, q2, q3⟩ := i3 i hi
     exact ⟨t, ks, dp, xs, q1, q2, fun b hb => by simpa [retHeads, RC.head] using q3 b hb⟩
   · exact i4 x o h f (by simpa [newN] using hn)
 | .own t ks dp :: cs, key, vs, e :: es, Fs, hr, hl => by
   obtain ⟨v, vs', F, Fs', rfl, rfl, ho, hr⟩ := hr
   obtain ⟨i1, i2, i3, i4⟩ := itmR_all cs (key := key + 1) (es := es) hr (by simpa using hl)
   refine ⟨by simp only [itmR, supds, List.map_cons, i1]; simp [mkO], by simp only [itmR, List.flatMap_cons, i2, List.flatten_cons], fun i hi => ?_, fun x o h f hn => ?_⟩
   · rcases List.mem_cons.1 hi with rfl | hi
     · exact ⟨t, ks, dp, e, rfl, by simpa using ho, fun b hb => by simp [retHeads, RC.head, hb]⟩
     · obtain ⟨t, ks, dp, xs, q1, q2, q3⟩ := i3 i hi
       exact ⟨t, ks, dp, xs, q1, q2, fun b hb => by simp only [retHeads, List.mem_append]; exact .inr (q3 b hb)⟩
   · simp only [newN, List.map_cons, List.tail_cons, List.headD_cons] at hn
     split at hn
     · rename_i hx
       simp only [Option.some.injEq, Prod.mk.injEq] at hn
       obtain ⟨rfl, rfl, rfl⟩ := hn
       exact ⟨⟨key, .arr t ks dp e, v, F⟩, by simp [itmR], hx.symm, by simp [SOb.den, mkOb], rfl⟩
     · obtain ⟨i, q1, q2⟩ := i4 x o h f hn
       exact ⟨i, by simp only [itmR]; exact List.mem_cons_of_mem _ q1, q2⟩
inductive BI (Φ : Fns) (env : List D) (C : Cx) (g : Gh) (s : SSt) (w w' : World) (M' : Nat → Nat → Prop) (HD new : List Nat) (sol : Bool) (l : List Itm) (i : Itm) : Prop where
 | arr (h : CI Φ env g s w w' M' HD new i)
 | box (T : TypeId) (cs cs0 : List SC) (b : Nat) (us : List Value) (h : i.ob = .box T cs) (h0 : s.obj i.key = some (.box T cs0)) (hh : i.hd = g.hd i.key) (hp : i.hd = .pointer (some ⟨b, 0, none⟩)) (hf : i.fp = [b]) (hb : b ∈ HD)
     (hw : w'.heap[b]? = some (.cells (List.toArray us) T (0, 0)))
     (hc : ∀ S : Sur, S.w = w' → Shift (sur C g (s.den Φ env) w) S → (sol = true ∨ ∀ b o, S.me b o → M' b o) → (∀ i, i ∈ l → S.obj i.key = some (i.ob.den Φ env) ∧ S.hd i.key = i.hd) → RepACs S (cs.map (SC.den Φ env)) us)
theorem BI.mono {M' : Nat → Nat → Prop} {HD HD' new new' : List Nat} {sol sol' : Bool} {l l' : List Itm} {i : Itm} (h : BI Φ env C g s w w' M' HD new sol l i) (hH : ∀ b, b ∈ HD → b ∈ HD') (hn : ∀ x, x ∈ new → x ∈ new') (hs : sol' = true → sol = true) (hl : ∀ i, i ∈ l → i ∈ l') :
   BI Φ env C g s w w' M' HD' new' sol' l' i := by
 cases h with
 | arr h => exact .arr (h.mono hH hn)
 | box T cs cs0 b us h h0 hh hp hf hb hw hc => exact .box T cs cs0 b us h h0 hh hp hf (hH b hb) hw fun S q1 q2 q3 q4 => hc S q1 q2 (q3.imp hs id) fun i hi => q4 i (hl i hi)
theorem boutB_all (R : Rel C g (s.den Φ env) a w) {M' : Nat → Nat → Prop} {f : Nat} {es : List E} : ∀ {bx : List (Nat × TypeId × List BC × List SC)} {n key : Nat} {Bs : List (List Value)} {Gs : List (List (List Nat))},
   (∀ q, q ∈ bx → s.obj q.1 = some (.box q.2.1 q.2.2.2) ∧ ∃ u, bcells s q.2.2.1 q.2.2.2 = some u) → BOx w w' M' g n bx (fun n => Φ f (2000 + n) (es.map (E.den Φ env))) Bs Gs →
   ((itmB g f es n key bx Bs Gs).map fun i => (i.key, i.ob)) = boutB f es n key bx ∧ (itmB g f es n key bx Bs Gs).flatMap Itm.fp = xFp g bx Gs ∧
   ∀ i, i ∈ itmB g f es n key bx Bs Gs → BI Φ env C g s w w' M' (xHD g bx Bs Gs) (boutBN key bx) (bx.all fun q => q.2.2.1.all BC.solid) (itmB g f es n key bx Bs Gs) i
 | [], n, key, Bs, Gs, _, h => by
   obtain ⟨rfl, rfl⟩ := h
   exact ⟨rfl, rfl, fun i hi => by simp [itmB] at hi⟩
 | (y, T, cs, ds) :: bx, n, key, _, _, hb, h => by
   obtain ⟨b, us0, us, Bs, G, Gs, h1, h2, rfl, rfl, h3, h4, h5⟩ := h
   obtain ⟨hy, u, hu⟩ := hb _ (List.mem_cons_self ..)
   simp only at hy hu
   have hy' := obj_is (Φ := Φ) (env := env) hy
   have ho := R.objs y
   unfold RepOb at ho
   simp only [sur, hy', SOb.den] at ho
   obtain ⟨b', us1, hb', hfp, hh, hcs⟩ := ho
   rw [h1] at hb'
   simp only [Value.pointer.injEq, Option.some.injEq, Addr.mk.injEq, and_true] at hb'
   subst hb'
   rw [h2] at hh
   simp only [Option.some.injEq, Obj.cells.injEq, and_true] at hh
   have hus : us0 = us1 := by
     have := congrArg Array.toList hh
     simpa using this
   subst hus
   obtain ⟨c1, c2, c3, c4⟩ := bout_all R (row := .op (.fn f (2000 + n)) es) (key := key) (M' := M') (j := 0) hcs hu h4 (fun i => by simp [E.den, E.dens_map, opD])
   obtain ⟨i1, i2, i3⟩ := boutB_all R (M' := M') (f := f) (es := es) (key := key + cs.length) (fun q hq => hb q (List.mem_cons_of_mem _ hq)) h5
   refine ⟨by simp only [itmB, boutB, List.map_cons, List.map_append, c1, i1], by simp only [itmB, xFp, List.flatMap_cons, List.flatMap_append, c2, i2], fun i hi => ?_⟩
   simp only [itmB] at hi
   rcases List.mem_cons.1 hi with rfl | hi
   · refine .box T _ ds b us rfl hy rfl h1 (by simp [h1, blkOf]) (by simp [xHD, h1, blkOf]) h3 fun S q1 q2 q3 q4 => c4 S q1 q2 (q3.imp (fun h => ?_) id) fun i hi => q4 i ?_
     · simp only [List.all_cons, Bool.and_eq_true] at h; exact h.1
     · simp only [itmB]
       exact List.mem_cons_of_mem _ (List.mem_append.2 (.inl hi))
   · rcases List.mem_append.1 hi with hi | hi
     · exact .arr ((c3 i hi).mono (fun b hb => by simp [xHD, hb]) (fun x hx => by simp [boutBN, hx]))
     · refine (i3 i hi).mono (fun b hb => by simp [xHD, hb]) (fun x hx => by simp [boutBN, hx]) (fun h => ?_) (fun i hi => ?_)
       · simp only [List.all_cons, Bool.and_eq_true] at h; exact h.2
       · simp only [itmB]
         exact List.mem_cons_of_mem _ (List.mem_append.2 (.inr hi))
end
def fCallB1 (T : TypeId → TI) (args : List BSh) (rets : List RSh) (key : Nat) (s : SSt) (f : Nat) (ts : List TypeId) (xs : List Operand) : Option Res :=
 match bargs T s args ts xs with
 | some t =>
   bif (t.ls.isEmpty || ((rets.flatMap RSh.cells).all RC.solid && t.bx.all fun q => q.2.2.1.all BC.solid)) &&
       (nodupB (t.zs ++ ((supds false key (rets.flatMap RSh.cells) (sretE f t.es 0 rets)).map (·.1) ++ (boutB f t.es 0 (key + (rets.flatMap RSh.cells).length) t.bx).map (·.1))) && (nodupB (t.kx.map (·.1)) &&
       ((t.ls.all fun z => t.kx.all fun q => !(q.1 == z)) && ((t.kx.all fun q => (t.zs ++ ((supds false key (rets.flatMap RSh.cells) (sretE f t.es 0 rets)).map (·.1) ++ (boutB f t.es 0 (key + (rets.flatMap RSh.cells).length) t.bx).map (·.1))).any fun x => x == q.1) &&
       (((supds false key (rets.flatMap RSh.cells) (sretE f t.es 0 rets)).all fun p => (s.obj p.1).isNone) && (boutBN (key + (rets.flatMap RSh.cells).length) t.bx).all fun x => (s.obj x).isNone))))) then
     some ⟨[.op (.fn f 1000) t.es], smkRet rets (scells key (rets.flatMap RSh.cells) (sretE f t.es 0 rets)),
       t.zs.map (fun z => (z, .gone)) ++ (supds false key (rets.flatMap RSh.cells) (sretE f t.es 0 rets) ++ boutB f t.es 0 (key + (rets.flatMap RSh.cells).length) t.bx)⟩
   else none
 | none => none
section
variable {Φ : Fns} {env : List D} {C : Cx} {g : Gh} {s : SSt} {a : Act} {w : World} {o : Oper} {key : Nat}
theorem xB_fp (R : Rel C g (s.den Φ env) a w) {q : Nat × Bool} (h : KxOk s q) {b : Nat} (hb : b ∈ xB g q) : b ∈ g.fp q.1 ∧ ∀ o, Me C.M (s.den Φ env).obj g.hd g.fp b o := by
 obtain ⟨z, ex⟩ := q
 have head : ∀ {t ks xs}, (∃ dp, (s.den Φ env).obj z = some (.arr t ks dp xs)) ∨ (s.den Φ env).obj z = some (.arx t ks xs) → b ∈ (g.hd z).ownBlock.toList → b ∈ g.fp z ∧ blkOf (g.hd z) = some b := fun {t ks xs} hz hb => by
   have ho := R.objs z
   unfold RepOb at ho
   rcases hz with ⟨dp, hz⟩ | hz
   · simp only [sur, hz] at ho
     obtain ⟨vss, fps, h1, _, _, _, h5, _⟩ := ho
     exact ⟨by rw [h5]; exact List.mem_append.2 (.inl hb), by rw [blk_own h1]; simpa using hb⟩
   · simp only [sur, hz] at ho
     obtain ⟨vss, fps, h1, _, _, _, h5, _⟩ := ho
     exact ⟨by rw [h5]; exact List.mem_append.2 (.inl hb), by rw [blk_own h1]; simpa using hb⟩
 rcases h with ⟨h1, t, ks, dp, xs, hz⟩ | ⟨t, ks, xs, hz⟩ | ⟨h1, T, cs, hz⟩
 · have hz' := obj_is (Φ := Φ) (env := env) hz
   simp only at h1
   subst h1
   obtain ⟨q1, q2⟩ := head (.inl ⟨_, hz'⟩) (by simpa [xB] using hb)
   exact ⟨q1, fun o => .inr (.inl ⟨z, by rw [hz']; rfl, q2⟩)⟩
 · have hz' := obj_is (Φ := Φ) (env := env) hz
   have hbf : b ∈ g.fp z := by
     cases ex with
     | true => simpa [xB] using hb
     | false => exact (head (.inr hz') (by simpa [xB] using hb)).1
   exact ⟨hbf, fun o => .inr (.inr ⟨z, by rw [hz']; rfl, hbf⟩)⟩
 · have hz' := obj_is (Φ := Φ) (env := env) hz
   simp only at h1
   subst h1
   have hbf : b ∈ g.fp z := by simpa [xB] using hb
   have ho := R.objs z
   unfold RepOb at ho
   simp only [sur, hz', SOb.den] at ho
   obtain ⟨b', us, hb', hfp, _, _⟩ := ho
   rw [hfp] at hbf
   simp only [List.mem_singleton] at hbf
   subst hbf
   exact ⟨by rw [hfp]; simp, fun o => .inr (.inl ⟨z, by rw [hz']; rfl, by rw [hb']; rfl⟩)⟩
theorem good_callB1 (R : Rel C g (s.den Φ env) a w) {f : FuncId} {args : List BSh} {rets : List RSh} (hF : FunB C.P f args rets (Φ f)) (hfn : ∃ fn, C.P.funcs[f]? = some fn ∧ fn.body ≠ none ∧ fn.name ≠ "runtime.NumGoroutine")
   {c : Call} (ho : o.op = .call c) (hc : c.callee = .value (.func f)) {r : Res} (h : fCallB1 C.T args rets key s f c.argTypes.toList c.args.toList = some r) (hr : holds Φ env r.cs) :
   Does C a w o (r.v.den Φ env) ((s.upds r.upd).den Φ env) := by
 unfold fCallB1 at h
 split at h
 · rename_i t ht
   obtain ⟨hck, h2⟩ := bif_some h
   clear h
   simp only [Option.some.injEq] at h2
   subst h2
   simp only [Bool.and_eq_true, Bool.or_eq_true, List.isEmpty_iff] at hck
   obtain ⟨hlive, hnk, hkn, hlk, hku, hfr1, hfr2⟩ := hck
   obtain ⟨fn, hfn, hbody, hname⟩ := hfn
   generalize hcells : rets.flatMap RSh.cells = cells at *
   have hel : (sretE f t.es 0 rets).length = cells.length := by rw [sretE_length, hcells]
   have hden := sretE_den (Φ := Φ) (env := env) f t.es rets 0
   generalize sretE f t.es 0 rets = rE at *
   have hpre := hr (.op (.fn f 1000) t.es) (by simp)
   simp only [E.den, E.dens_map, opD] at hpre
   have hMe : ∀ b o, Me C.M (s.den Φ env).obj g.hd g.fp b o → b < w.heap.size := by
     rintro b o (hM | ⟨x, hl, hx⟩ | ⟨x, hl, hx⟩)
     · exact Nat.lt_of_lt_of_le (C.mold b o hM).1 R.fr.size
     · exact (R.alw x b (R.liveBlk hl hx)).2
     · exact (R.alw x b hx).2
   have hkxs : ∀ q, q ∈ t.kx → KxOk s q := fun q hq => by
     have : ∀ {hs : List BSh} {ts : List TypeId} {xs : List Operand} {t : Tk}, bargs C.T s hs ts xs = some t → Hand C g (s.den Φ env) (fun _ _ => False) t.kx → ∀ q, q ∈ t.kx → KxOk s q := fun h hH => (bargs_rep R h hH (fun _ _ _ _ _ h => h)).2.2.2.1
     exact this ht ⟨fun _ _ h => h.elim, fun _ _ _ _ _ h => h.elim⟩ q hq
   have hkn' := nodupB_iff hkn
   have hsame : ∀ q q', q ∈ t.kx → q' ∈ t.kx → q.1 = q'.1 → q = q' := fun q q' hq hq' e => by
     obtain ⟨i, hi, rfl⟩ := List.getElem_of_mem hq
     obtain ⟨j, hj, rfl⟩ := List.getElem_of_mem hq'
     by_cases hij : i = j
     · subst hij; rfl
     · have hp := List.pairwise_iff_getElem.1 hkn'
       rcases Nat.lt_or_gt_of_ne hij with hlt | hlt
       · exact absurd (by rw [List.getElem_map, List.getElem_map]; exact e) (hp i j (by simpa using hi) (by simpa using hj) hlt)
       · exact absurd (by rw [List.getElem_map, List.getElem_map]; exact e.symm) (hp j i (by simpa using hj) (by simpa using hi) hlt)
   have hXk : ∀ b, b ∈ t.kx.flatMap (xB g) → ∃ q, q ∈ t.kx ∧ b ∈ xB g q ∧ b ∈ g.fp q.1 ∧ ∀ o, Me C.M (s.den Φ env).obj g.hd g.fp b o := fun b hb => by
     obtain ⟨q, hq, hbq⟩ := List.mem_flatMap.1 hb
     exact ⟨q, hq, hbq, xB_fp R (hkxs q hq) hbq⟩
   let Mc : Nat → Nat → Prop := fun b o => t.ls = [] ∧ Me C.M (s.den Φ env).obj g.hd g.fp b o ∧ ∀ q, q ∈ t.kx → b ∉ g.fp q.1
   have hHand : Hand C g (s.den Φ env) (fun b o => Mc b o ∨ b ∈ t.kx.flatMap (xB g)) t.kx := by
     refine ⟨fun b o hm => ?_, fun q hq b hb o hm => ?_⟩
     · rcases hm with hm | hm
       · exact hm.2.1
       · obtain ⟨_, _, _, _, h4⟩ := hXk b hm; exact h4 o
     · rcases hm with hm | hm
       · exact absurd hb (hm.2.2 q hq)
       · obtain ⟨q', hq', h2, h3, _⟩ := hXk b hm
         by_cases e : q'.1 = q.1
         · rw [← hsame q' q hq' hq e]; exact h2
         · exact absurd hb (R.apart q'.1 q.1 e b h3)
   have hLive : ∀ z, z ∈ t.ls → ∀ b, b ∈ g.fp z → ∀ o, ¬ (Mc b o ∨ b ∈ t.kx.flatMap (xB g)) := fun z hz b hb o hm => by
     rcases hm with hm | hm
     · rw [hm.1] at hz; simp at hz
     · obtain ⟨q, hq, _, h3, _⟩ := hXk b hm
       have hne : q.1 ≠ z := by
         have := List.all_eq_true.1 (List.all_eq_true.1 hlk z hz) q hq
         simpa using this
       exact R.apart q.1 z hne b h3 hb
   obtain ⟨⟨Fs, b1, b2⟩, b3, b4, _, b6, b7⟩ := bargs_rep R ht hHand hLive
   have hFn : Fs.flatten.Nodup := by
     rw [b2]
     refine List.nodup_iff_pairwise_ne.2 ?_ 
     rw [List.pairwise_flatMap]
     refine ⟨fun q hq => ?_, ?_⟩
     · have hnd : (xB g q).Nodup := by
         unfold xB
         split
         · exact R.own q.1
         · cases (g.hd q.1).ownBlock <;> simp
       exact List.nodup_iff_pairwise_ne.1 hnd
     · have hp := List.pairwise_map.1 hkn'
       refine List.Pairwise.imp_of_mem (fun {q q'} hq hq' hne b hb b' hb' e => ?_) hp
       subst e
       exact R.apart q.1 q'.1 hne b (xB_fp R (hkxs q hq) hb).1 (xB_fp R (hkxs q' hq') hb').1
   have hFl : ∀ b, b ∈ Fs.flatten → ∃ q, q ∈ t.kx ∧ b ∈ xB g q ∧ b ∈ g.fp q.1 ∧ ∀ o, Me C.M (s.den Φ env).obj g.hd g.fp b o := fun b hb => hXk b (by rw [← b2]; exact hb)
   have hcall := hF w Mc _ _ Fs (fun b o hm => ⟨hMe b o hm.2.1, fun hb => by obtain ⟨q, hq, _, h3, _⟩ := hFl b hb; exact hm.2.2 q hq h3⟩)
     (fun w' hfr => C.gl w' (R.fr.trans hfr fun b hb => by obtain ⟨q, _, _, h3, _⟩ := hFl b hb; exact (R.alw q.1 b h3).1))
     (by rw [b2]; exact b1) hFn (fun b hb => by obtain ⟨q, _, _, h3, _⟩ := hFl b hb; exact (R.alw q.1 b h3).2) hpre
   refine does_call R hfn hbody hname ho hc ?_
   have harr : (c.args.toList.map a.eval).toArray = c.args.map a.eval := by apply Array.ext'; simp
   rw [harr] at hcall
   refine hcall.mono fun e w' ⟨us, Rs, Bs, Gs, he, hfr, hret, hout, hnd, hfresh⟩ => ?_
   rw [hcells, ← hden] at hret
   rw [hcells, (b4 Bs Gs).1] at hout
   rw [(b4 Bs Gs).1] at hret
   rw [(b4 Bs Gs).2] at hnd hfresh
   have hbx := b3 hout
   generalize hMP : MeH Mc (retHeads cells us ++ xHD g t.bx Bs Gs) = M' at *
   obtain ⟨r1, r2, r3, r4⟩ := itmR_all (Φ := Φ) (env := env) cells (key := key) hret hel
   obtain ⟨x1, x2, x3⟩ := boutB_all R (M' := M') (f := f) (es := t.es) (key := key + cells.length) (fun q hq => ⟨(b7 q hq).1, by obtain ⟨_, _, u, hu, _⟩ := b7 q hq; exact ⟨u, hu⟩⟩) hbx
   generalize itmR key cells us rE Rs = lR at *
   generalize itmB g f t.es 0 (key + cells.length) t.bx Bs Gs = lB at *
   let l : List Itm := (t.zs.map fun z => (⟨z, .gone, undef, []⟩ : Itm)) ++ (lR ++ lB)
   have hupd : (l.map fun i => (i.key, i.ob)) = t.zs.map (fun z => (z, .gone)) ++ (supds false key cells rE ++ boutB f t.es 0 (key + cells.length) t.bx) := by
     simp only [l, List.map_append, List.map_map, r1, x1]
     rfl
   have hkeys : l.map Itm.key = t.zs ++ ((supds false key cells rE).map (·.1) ++ (boutB f t.es 0 (key + cells.length) t.bx).map (·.1)) := by
     have : l.map Itm.key = (l.map fun i => (i.key, i.ob)).map (·.1) := by simp [Function.comp_def]
     rw [this, hupd]
     simp [Function.comp_def]
   have hln : (l.map Itm.key).Nodup := by rw [hkeys]; exact nodupB_iff hnk
   have hkl : ∀ q, q ∈ t.kx → q.1 ∈ l.map Itm.key := fun q hq => by
     rw [hkeys]
     have := List.all_eq_true.1 hku q hq
     obtain ⟨x, hx, e⟩ := List.any_eq_true.1 this
     rw [← (by simpa using e : x = q.1)]
     exact hx
   have hlfp : l.flatMap Itm.fp = Rs.flatten ++ xFp g t.bx Gs := by
     simp only [l, List.flatMap_append, r2, x2]
     have : (t.zs.map fun z => (⟨z, .gone, undef, []⟩ : Itm)).flatMap Itm.fp = [] := by
       rw [List.flatMap_map]
       exact List.flatMap_eq_nil_iff.2 fun _ _ => rfl
     rw [this, List.nil_append]
   rw [← hlfp] at hnd hfresh
   have hlobj : ∀ i, i ∈ l → ((s.upds (l.map fun i => (i.key, i.ob))).den Φ env).obj i.key = some (i.ob.den Φ env) := fun i hi => by rw [itms_obj _ _ _ hln, ilook_of hln hi]
   have hlhd : ∀ i, i ∈ l → (g.itms l).hd i.key = i.hd := fun i hi => by simp only [Gh.itms, ilook_of hln hi]
   have hlfpe : ∀ i, i ∈ l → (g.itms l).fp i.key = i.fp := fun i hi => by simp only [Gh.itms, ilook_of hln hi]
   have hRm : ∀ i, i ∈ lR → i ∈ l := fun i hi => List.mem_append.2 (.inr (List.mem_append.2 (.inl hi)))
   have hBm : ∀ i, i ∈ lB → i ∈ l := fun i hi => List.mem_append.2 (.inr (List.mem_append.2 (.inr hi)))
   have hRfree : ∀ i, i ∈ lR → s.obj i.key = none := fun i hi => by
     have hm : (i.key, i.ob) ∈ supds false key cells rE := by rw [← r1]; exact List.mem_map.2 ⟨i, hi, rfl⟩
     have := List.all_eq_true.1 hfr1 _ hm
     simpa using this
   have hNfree : ∀ x, x ∈ boutBN (key + cells.length) t.bx → s.obj x = none := fun x hx => by
     have := List.all_eq_true.1 hfr2 _ hx
     simpa using this
   have hcase : ∀ i, i ∈ l → (i.ob = .gone ∧ i.fp = []) ∨ (i ∈ lR) ∨ (i ∈ lB) := fun i hi => by
     rcases List.mem_append.1 hi with hi | hi
     · obtain ⟨z, _, rfl⟩ := List.mem_map.1 hi
       exact .inl ⟨rfl, rfl⟩
     · exact .inr (List.mem_append.1 hi)
   have hsub : t.ls = [] → ∀ b o, Me C.M ((s.upds (l.map fun i => (i.key, i.ob))).den Φ env).obj (g.itms l).hd (g.itms l).fp b o → M' b o := by
     intro hls b o hm
     rw [← hMP]
     have inl' : ∀ i, i ∈ l → (Ob.live (some (i.ob.den Φ env)) = true ∧ blkOf i.hd = some b ∨ Ob.isX (some (i.ob.den Φ env)) = true ∧ b ∈ i.fp) → b ∈ retHeads cells us ++ xHD g t.bx Bs Gs := fun i hi hh => by
       rcases hcase i hi with ⟨e, _⟩ | hi' | hi'
       · rw [e] at hh; simp [SOb.den, Ob.live, Ob.isX] at hh
       · obtain ⟨t', ks, dp, xs, e, hown, hhd⟩ := r3 i hi'
         rw [e] at hh
         simp only [SOb.den, Ob.live, Ob.isX, true_and, Bool.false_eq_true, false_and, or_false] at hh
         obtain ⟨_, _, h1, _⟩ := hown
         rw [blk_own h1] at hh
         exact List.mem_append.2 (.inl (hhd b hh))
       · refine List.mem_append.2 (.inr ?_)
         cases x3 i hi' with
         | arr hci =>
           rcases hci with ⟨⟨t', ks, xs, e, hown, hhd, _⟩ | ⟨t', ks, xs, e, hown, hhd, _⟩⟩
           · rw [e] at hh
             simp only [SOb.den, Ob.live, Ob.isX, true_and, Bool.false_eq_true, false_and, or_false] at hh
             obtain ⟨_, _, h1, _⟩ := hown
             rw [blk_own h1] at hh
             exact hhd b hh
           · rw [e] at hh
             simp only [SOb.den, Ob.live, Ob.isX, Bool.false_eq_true, false_and, true_and, false_or] at hh
             exact hhd b hh
         | box T cs cs0 b' us' h0 h00 hh' hp hf hb hw hcc =>
           rw [h0] at hh
           simp only [SOb.den, Ob.live, Ob.isX, true_and, Bool.false_eq_true, false_and, or_false] at hh
           rw [hp] at hh
           simp only [blkOf, Option.some.injEq] at hh
           rw [← hh]; exact hb
     rcases hm with hM | ⟨x, hl, hx⟩ | ⟨x, hl, hx⟩
     · exact .inl ⟨hls, .inl hM, fun q hq hbq => by
         have := C.mold b o hM
         rcases (R.alw q.1 b hbq).1 with q1 | q1
         · omega
         · exact this.2 q1⟩
     · by_cases hxl : x ∈ l.map Itm.key
       · obtain ⟨i, hi, rfl⟩ := List.mem_map.1 hxl
         rw [hlobj i hi] at hl
         rw [hlhd i hi] at hx
         exact .inr (inl' i hi (.inl ⟨hl, hx⟩))
       · rw [itms_obj _ _ _ hln, ilook_none.2 hxl] at hl
         simp only [Gh.itms, ilook_none.2 hxl] at hx
         exact .inl ⟨hls, .inr (.inl ⟨x, hl, hx⟩), fun q hq hbq => R.apart x q.1 (fun e => hxl (e ▸ hkl q hq)) b (R.liveBlk hl hx) hbq⟩
     · by_cases hxl : x ∈ l.map Itm.key
       · obtain ⟨i, hi, rfl⟩ := List.mem_map.1 hxl
         rw [hlobj i hi] at hl
         rw [hlfpe i hi] at hx
         exact .inr (inl' i hi (.inr ⟨hl, hx⟩))
       · rw [itms_obj _ _ _ hln, ilook_none.2 hxl] at hl
         simp only [Gh.itms, ilook_none.2 hxl] at hx
         exact .inl ⟨hls, .inr (.inr ⟨x, hl, hx⟩), fun q hq hbq => R.apart x q.1 (fun e => hxl (e ▸ hkl q hq)) b hx hbq⟩
   have hret' : RetCs w' (Me C.M ((s.upds (l.map fun i => (i.key, i.ob))).den Φ env).obj (g.itms l).hd (g.itms l).fp) cells us (rE.map (E.den Φ env)) Rs := by
     refine hret.to ?_
     rcases hlive with hl | hl
     · exact .inl (hsub hl)
     · exact .inr hl.1
   have hsol : ((t.bx.all fun q => q.2.2.1.all BC.solid) = true) ∨ ∀ b o, (sur C (g.itms l) ((s.upds (l.map fun i => (i.key, i.ob))).den Φ env) w').me b o → M' b o := hlive.elim (fun h => .inr (hsub h)) (fun h => .inl h.2)
   have own_arr : ∀ {t' : TypeId} {ks : List K} {dp : Bool} {xs : E} {i : Itm}, i ∈ l → i.ob = .arr t' ks dp xs → (OwnRep w' (Me C.M ((s.upds (l.map fun i => (i.key, i.ob))).den Φ env).obj (g.itms l).hd (g.itms l).fp) t' ks dp i.hd (xs.den Φ env).asList i.fp) →
       RepOb (sur C (g.itms l) ((s.upds (l.map fun i => (i.key, i.ob))).den Φ env) w') (g.itms l).fp i.key := fun {t' ks dp xs i} hi e hO => by
     unfold RepOb
     simp only [sur, hlobj i hi, e, SOb.den, hlhd i hi, hlfpe i hi]
     exact hO
   have hrel : Rel C (g.itms l) ((s.upds (l.map fun i => (i.key, i.ob))).den Φ env) a w' := by
     refine R.turnL l hfr hln (fun b hb => ?_) (fun i hi => ?_) (fun hs i hi => ?_) (fun i hi b hh => ?_) hnd (fun b hb => ?_)
     · obtain ⟨q, hq, _, h3, h4⟩ := hFl b hb
       exact ⟨h4, q.1, hkl q hq, h3⟩
     · rcases hcase i hi with ⟨e, _⟩ | hi' | hi'
       · exact .gone (by rw [hlobj i hi, e]; rfl)
       · exact .new (none_den (hRfree i hi')) _ (hlobj i hi)
       · cases x3 i hi' with
         | arr hci =>
           rcases hci with ⟨⟨t', ks, xs, e, _, _, hn⟩ | ⟨t', ks, xs, e, _, _, hn⟩⟩
           · exact .new (none_den (hNfree _ hn)) _ (hlobj i hi)
           · rcases hn with hn | ⟨xs0, h0, h1, h2⟩
             · exact .new (none_den (hNfree _ hn)) _ (hlobj i hi)
             · refine .pin t' ks (xs0.den Φ env).asList (by have := obj_is (Φ := Φ) (env := env) h0; exact this) (xs.den Φ env).asList (by rw [hlobj i hi, e]; rfl) (by rw [hlhd i hi]; exact h1) h2
         | box T cs cs0 b' us' h0 h00 hh' hp hf hb hw hcc =>
           exact .box T _ (by have := obj_is (Φ := Φ) (env := env) h00; exact this) T _ (by rw [hlobj i hi, h0]; rfl) (by rw [hlhd i hi]; exact hh')
     · rcases hcase i hi with ⟨e, hf⟩ | hi' | hi'
       · unfold RepOb
         simp only [sur, hlobj i hi, e, SOb.den, hlfpe i hi]
         exact hf
       · obtain ⟨r3', _⟩ : (∃ t' ks dp xs, i.ob = .arr t' ks dp xs ∧ OwnRep w' (Me C.M ((s.upds (l.map fun i => (i.key, i.ob))).den Φ env).obj (g.itms l).hd (g.itms l).fp) t' ks dp i.hd (xs.den Φ env).asList i.fp) ∧ True := by
           obtain ⟨t', ks, dp, xs, e, hO, _⟩ := r3 i hi'
           refine ⟨⟨t', ks, dp, xs, e, ?_⟩, trivial⟩
           obtain ⟨vss, fps, h1, h2, h3, h4, h5, h6⟩ := hO
           refine ⟨vss, fps, h1, h2, h3, h4, h5, fun j row us' f' e1 e2 e3 => ?_⟩
           have := h6 j row us' f' e1 e2 e3
           split at this
           · rename_i hd; rw [if_pos hd]; exact this
           · rename_i hd
             rw [if_neg hd]
             refine ⟨?_, this.2⟩
             rcases hlive with hl | hl
             · exact this.1.mono (hsub hl)
             · have hsd : ∀ q, q ∈ cells → q.solid = true := List.all_eq_true.1 hl.1
               have hm : (i.key, i.ob) ∈ supds false key cells rE := by rw [← r1]; exact List.mem_map.2 ⟨i, hi', rfl⟩
               have hpl : plainK ks = true := by
                 have : ∀ (cs : List RC) (k0 : Nat) (es : List E), (i.key, i.ob) ∈ supds false k0 cs es → (∀ q, q ∈ cs → q.solid = true) → (dp || plainK ks) = true := by
                   intro cs
                   induction cs with
                   | nil => intro k0 es h; simp [supds] at h
                   | cons c cs ih =>
                     intro k0 es h hs'
                     cases es with
                     | nil => cases c <;> simp [supds] at h
                     | cons e0 es =>
                       cases c with
                       | im k => exact ih _ _ (by simpa [supds] using h) fun q hq => hs' q (by simp [hq])
                       | own t1 ks1 dp1 =>
                         simp only [supds, List.mem_cons] at h
                         rcases h with h | h
                         · simp only [Prod.mk.injEq, mkO, Bool.false_and, cond_false] at h
                           rw [e] at h
                           obtain ⟨_, h⟩ := h
                           simp only [SOb.arr.injEq] at h
                           obtain ⟨_, rfl, rfl, _⟩ := h
                           exact hs' (.own t1 ks dp) (by simp)
                         · exact ih _ _ h fun q hq => hs' q (by simp [hq])
                 have := this cells key rE hm hsd
                 cases dp with
                 | true => simp at hd
                 | false => simpa using this
               exact (this.1.plain hpl).toC fun b hb => by simp at hb
         obtain ⟨t', ks, dp, xs, e, hO⟩ := r3'
         exact own_arr hi e hO
       · cases x3 i hi' with
         | arr hci =>
           rcases hci with ⟨⟨t', ks, xs, e, hO, _, hn⟩ | ⟨t', ks, xs, e, hO, _, hn⟩⟩
           · refine own_arr hi e ?_
             obtain ⟨vss, fps, h1, h2, h3, h4, h5, h6⟩ := hO
             refine ⟨vss, fps, h1, h2, h3, h4, h5, fun j row us' f' e1 e2 e3 => ?_⟩
             have := h6 j row us' f' e1 e2 e3
             rw [if_neg (by simp)] at this ⊢
             refine ⟨?_, this.2⟩
             rcases hsol with hl | hl
             · have hpl : plainK ks = true := by
                 have hm : (i.key, i.ob) ∈ boutB f t.es 0 (key + cells.length) t.bx := by rw [← x1]; exact List.mem_map.2 ⟨i, hi', rfl⟩
                 have C1 : ∀ (row : E) (k0 : Nat) (cs : List BC) (j : Nat) (ds : List SC), (i.key, i.ob) ∈ boutO row k0 j cs ds → cs.all BC.solid = true → plainK ks = true := by
                   intro row k0 cs
                   induction cs with
                   | nil => intro j ds h; simp [boutO] at h
                   | cons c cs ih =>
                     intro j ds h hs'
                     simp only [List.all_cons, Bool.and_eq_true] at hs'
                     cases ds with
                     | nil => cases c <;> (try rename_i p; cases p) <;> simp [boutO] at h
                     | cons d ds =>
                       cases c with
                       | keep k => exact ih _ _ (by simpa [boutO] using h) hs'.2
                       | im k => exact ih _ _ (by simpa [boutO] using h) hs'.2
                       | own t1 ks1 =>
                         simp only [boutO, List.mem_cons, Prod.mk.injEq] at h
                         rcases h with ⟨_, h⟩ | h
                         · rw [e] at h
                           simp only [SOb.arr.injEq] at h
                           rw [h.2.1]; exact hs'.1
                         · exact ih _ _ h hs'.2
                       | ex t1 ks1 pin =>
                         cases pin with
                         | false =>
                           simp only [boutO, List.mem_cons, Prod.mk.injEq] at h
                           rcases h with ⟨_, h⟩ | h
                           · rw [e] at h; cases h
                           · exact ih _ _ h hs'.2
                         | true =>
                           cases d with
                           | ref z p =>
                             cases p with
                             | none =>
                               simp only [boutO, List.mem_cons, Prod.mk.injEq] at h
                               rcases h with ⟨_, h⟩ | h
                               · rw [e] at h; cases h
                               · exact ih _ _ h hs'.2
                             | some p => exact ih _ _ (by simpa [boutO] using h) hs'.2
                           | _ => exact ih _ _ (by simpa [boutO] using h) hs'.2
                 have C2 : ∀ (bx : List (Nat × TypeId × List BC × List SC)) (n k0 : Nat), (i.key, i.ob) ∈ boutB f t.es n k0 bx → (bx.all fun q => q.2.2.1.all BC.solid) = true → plainK ks = true := by
                   intro bx
                   induction bx with
                   | nil => intro n k0 h; simp [boutB] at h
                   | cons q bx ih =>
                     obtain ⟨y, T, cs, ds⟩ := q
                     intro n k0 h hs'
                     simp only [List.all_cons, Bool.and_eq_true] at hs'
                     simp only [boutB, List.mem_cons, List.mem_append, Prod.mk.injEq] at h
                     rcases h with ⟨_, h⟩ | h | h
                     · rw [e] at h; cases h
                     · exact C1 _ _ _ _ _ h hs'.1
                     · exact ih _ _ h hs'.2
                 exact C2 _ _ _ hm hl
               exact (this.1.plain hpl).toC fun b hb => by simp at hb
             · exact this.1.mono hl
           · unfold RepOb
             simp only [sur, hlobj i hi, e, SOb.den, hlhd i hi, hlfpe i hi]
             obtain ⟨vss, fps, h1, h2, h3, h4, h5, h6⟩ := hO
             exact ⟨vss, fps, h1, h2, h3, h4, h5, fun j row us' f' e1 e2 e3 => by have := h6 j row us' f' e1 e2 e3; rwa [if_pos rfl] at this⟩
         | box T cs cs0 b' us' h0 h00 hh' hp hf hb hw hcc =>
           unfold RepOb
           simp only [sur, hlobj i hi, h0, SOb.den, hlhd i hi, hlfpe i hi]
           exact ⟨b', us', hp, hf, hw, hcc _ rfl hs hsol fun j hj => ⟨hlobj j (hBm j hj), hlhd j (hBm j hj)⟩⟩
     · have hfpb : b ∈ i.fp := by
         rcases hh with ⟨hl, hb⟩ | ⟨_, hb⟩
         · rcases hcase i hi with ⟨e, _⟩ | hi' | hi'
           · rw [e] at hl; simp [SOb.den, Ob.live] at hl
           · obtain ⟨t', ks, dp, xs, e, hown, _⟩ := r3 i hi'
             obtain ⟨_, _, h1, _, _, _, h5, _⟩ := hown
             rw [blk_own h1] at hb
             rw [h5, hb]; simp
           · cases x3 i hi' with
             | arr hci =>
               rcases hci with ⟨⟨t', ks, xs, e, hown, _⟩ | ⟨t', ks, xs, e, hown, _⟩⟩
               · obtain ⟨_, _, h1, _, _, _, h5, _⟩ := hown
                 rw [blk_own h1] at hb
                 rw [h5, hb]; simp
               · rw [e] at hl; simp [SOb.den, Ob.live] at hl
             | box T cs cs0 b' us' h0 h00 hh' hp hf hb' hw hcc =>
               rw [hp] at hb
               simp only [blkOf, Option.some.injEq] at hb
               rw [hf, hb]; simp
         · exact hb
       exact ((hfresh b (List.mem_flatMap.2 ⟨i, hi, hfpb⟩)).1).symm
     · obtain ⟨h1, h2⟩ := hfresh b hb
       exact ⟨h1.symm, h2⟩
   rw [← hupd]
   refine ⟨_, _, he, ?_, hrel⟩
   refine smkRet_rep rets (scells_rep (ex := false) rfl rfl cells hret' hel fun x ob h f hq => ?_) (by rw [scells_length _ _ _ hel, hcells])
   obtain ⟨i, hi, rfl, rfl, rfl⟩ := r4 x ob h f hq
   exact ⟨hlobj i (hRm i hi), hlhd i (hRm i hi)⟩
 · cases h
end
def sealL (s : SSt) : List Nat → Option (List (Nat × SOb))
 | [] => some []
 | z :: zs => match s.obj z with
   | some (.arr t ks _ xs) => match sealL (s.setO z (.sealed t ks xs)) zs with
     | some l => some ((z, .sealed t ks xs) :: l)
     | none => none
   | some (.sealed _ _ _) => sealL s zs
   | _ => none
def fCallB (T : TypeId → TI) (args : List BSh) (rets : List RSh) (key : Nat) (s : SSt) (f : Nat) (ts : List TypeId) (xs : List Operand) : Option Res :=
 match fCallB1 T args rets key s f ts xs with
 | some r => some r
 | none => match bargs T s args ts xs with
   | some t => match sealL s t.ls with
     | some l => match fCallB1 T args rets key (s.upds l) f ts xs with
       | some r => some ⟨r.cs, r.v, l ++ r.upd⟩
       | none => none
     | none => none
   | none => none
def fCallS (T : TypeId → TI) (t : TypeId) (ks : List K) (s : SSt) (f : Nat) (ts : List TypeId) (xs : List Operand) : Option Res := match ts, xs with
 | [ty], [x] => match sev T ty s x with
   | .one (.ref z none) => match s.obj z with
     | some (.arr t' ks' dp xs) => bif t' == t && K.eqbs ks' ks then some ⟨[.op (.fn f 1000) [.op .asl [xs]]], .one (.ref z none), [(z, .arr t ks dp (.op (.fn f 0) [.op .asl [xs]]))]⟩ else none
     | _ => none
   | _ => none
 | _, _ => none
def fCallR (T : TypeId → TI) (CT : Nat → Option Sig) (args : List ASh) (key : Nat) (s : SSt) (f : Nat) (ts : List TypeId) (xs : List Operand) : Option Res :=
 match fCall T CT key s f ts xs with
 | some r => some r
 | none => match bargs T s (args.map BSh.im) ts xs with
   | some t => match sealL s t.ls with
     | some l => match fCall T CT key (s.upds l) f ts xs with
       | some r => some ⟨r.cs, r.v, l ++ r.upd⟩
       | none => none
     | none => none
   | none => none
def fCallN (T : TypeId → TI) (args : List ASh) (bt : TypeId) (ks : List K) (key : Nat) (s : SSt) (f : Nat) (ts : List TypeId) (xs : List Operand) : Option Res :=
 match sargs T s args ts xs with
 | some (es, false) => bif (s.obj key).isNone then some ⟨[.op (.fn f 1000) es], .ptr key (.int 0) 0, [(key, .box bt (sdats ks (.op (.fn f 0) es) 0))]⟩ else none
 | _ => none
def fCallA (T : TypeId → TI) (CT : Nat → Option Sig) (key : Nat) (s : SSt) (f : Nat) (ts : List TypeId) (xs : List Operand) : Option Res :=
 match CT f with
 | some sg => match sg.xs with
   | none => match sg.so with
     | some q => fCallS T q.1 q.2 s f ts xs
     | none => match sg.bs with
       | none => match sg.nb with
         | none => fCallR T CT sg.args key s f ts xs
         | some q => fCallN T sg.args q.1 q.2 key s f ts xs
       | some l => fCallB T l sg.rets key s f ts xs
   | some l => fCallX T l sg.rets s f ts xs
 | none => none
section
variable {Φ : Fns} {env : List D} {C : Cx} {g : Gh} {s : SSt} {a : Act} {w : World} {o : Oper} {key : Nat}
theorem sealL_sound : ∀ (zs : List Nat) {g : Gh} {s : SSt} {l : List (Nat × SOb)}, Rel C g (s.den Φ env) a w → sealL s zs = some l → ∃ g', Rel C g' ((s.upds l).den Φ env) a w
 | [], g, s, l, R, h => by
   simp only [sealL, Option.some.injEq] at h
   subst h
   exact ⟨g, R⟩
 | z :: zs, g, s, l, R, h => by
   simp only [sealL] at h
   split at h
   · rename_i t ks dp xs hz
     split at h
     · rename_i l' hl
       simp only [Option.some.injEq] at h
       subst h
       have hz' := obj_is (Φ := Φ) (env := env) hz
       have R1 := R.shutOb hz'
       rw [show (s.den Φ env).setO z (.sealed t ks (xs.den Φ env).asList) = (s.setO z (.sealed t ks xs)).den Φ env by rw [SSt.den_setO]; rfl] at R1
       have := sealL_sound zs R1 hl
       exact this
     · cases h
   · exact sealL_sound zs R h
   · cases h
theorem good_callB (R : Rel C g (s.den Φ env) a w) {f : FuncId} {args : List BSh} {rets : List RSh} (hF : FunB C.P f args rets (Φ f)) (hfn : ∃ fn, C.P.funcs[f]? = some fn ∧ fn.body ≠ none ∧ fn.name ≠ "runtime.NumGoroutine")
   {c : Call} (ho : o.op = .call c) (hc : c.callee = .value (.func f)) {r : Res} (h : fCallB C.T args rets key s f c.argTypes.toList c.args.toList = some r) (hr : holds Φ env r.cs) :
   Does C a w o (r.v.den Φ env) ((s.upds r.upd).den Φ env) := by
 unfold fCallB at h
 split at h
 · rename_i r' hr'
   simp only [Option.some.injEq] at h
   subst h
   exact good_callB1 R hF hfn ho hc hr' hr
 · split at h
   · split at h
     · rename_i l hl
       split at h
       · rename_i r' hr'
         simp only [Option.some.injEq] at h
         subst h
         obtain ⟨g1, R1⟩ := sealL_sound _ R hl
         simp only [SSt.upds_append]
         exact good_callB1 R1 hF hfn ho hc hr' hr
       · cases h
     · cases h
   · cases h
end
theorem good_callR {Φ : Fns} {env : List D} {C : Cx} {g : Gh} {s : SSt} {a : Act} {w : World} {o : Oper} {key : Nat} (R : Rel C g (s.den Φ env) a w) {CT : Nat → Option Sig} {args : List ASh} {f : FuncId}
   (hCT : ∀ sg, CT f = some sg → FunR C.P f sg.args sg.rets (Φ f) ∧ ∃ fn, C.P.funcs[f]? = some fn ∧ fn.body ≠ none ∧ fn.name ≠ "runtime.NumGoroutine")
   {c : Call} (ho : o.op = .call c) (hc : c.callee = .value (.func f)) {r : Res} (h : fCallR C.T CT args key s f c.argTypes.toList c.args.toList = some r) (hr : holds Φ env r.cs) :
   Does C a w o (r.v.den Φ env) ((s.upds r.upd).den Φ env) := by
 unfold fCallR at h
 split at h
 · rename_i r' hr'
   simp only [Option.some.injEq] at h
   subst h
   exact good_call R hCT ho hc hr' hr
 · split at h
   · split at h
     · rename_i l hl
       split at h
       · rename_i r' hr'
         simp only [Option.some.injEq] at h
         subst h
         obtain ⟨g1, R1⟩ := sealL_sound _ R hl
         simp only [SSt.upds_append]
         exact good_call R1 hCT ho hc hr' hr
       · cases h
     · cases h
   · cases h
section
variable {Φ : Fns} {env : List D} {C : Cx} {g : Gh} {s : SSt} {a : Act} {w : World} {o : Oper}
theorem good_callS (R : Rel C g (s.den Φ env) a w) {f : FuncId} {t : TypeId} {ks : List K} (hF : FunS C.P f t ks (Φ f)) (hfn : ∃ fn, C.P.funcs[f]? = some fn ∧ fn.body ≠ none ∧ fn.name ≠ "runtime.NumGoroutine")
   {c : Call} (ho : o.op = .call c) (hc : c.callee = .value (.func f)) {r : Res} (h : fCallS C.T t ks s f c.argTypes.toList c.args.toList = some r) (hr : holds Φ env r.cs) :
   Does C a w o (r.v.den Φ env) ((s.upds r.upd).den Φ env) := by
 unfold fCallS at h
 split at h
 · rename_i ty x hts hxs
   split at h
   · rename_i z hx
     split at h
     · rename_i t' ks' dp xs hz
       obtain ⟨h1, h2⟩ := bif_some h
       clear h
       simp only [Bool.and_eq_true, beq_iff_eq] at h1
       obtain ⟨rfl, h3⟩ := h1
       have h4 := K.eqbs_eq h3
       subst h4
       simp only [Option.some.injEq] at h2
       subst h2
       obtain ⟨fn, hfn, hbody, hname⟩ := hfn
       have hz' := obj_is (Φ := Φ) (env := env) hz
       have hv := ev_rep R ty x
       rw [sev_is hx] at hv
       have hv0 : RefRep (sur C g (s.den Φ env) w) z none (a.eval x) := hv.1
       have hv1 := hv0
       unfold RefRep at hv1
       simp only [sur, hz', SOb.den] at hv1
       have hva : a.eval x = g.hd z := hv1.2
       have hob := R.objs z
       unfold RepOb at hob
       simp only [sur, hz', SOb.den] at hob
       have hO : OwnRep w (Me C.M (s.den Φ env).obj g.hd g.fp) t' ks' dp (g.hd z) (xs.den Φ env).asList (g.fp z) := hob
       have hblk : blkOf (g.hd z) = (g.hd z).ownBlock := by obtain ⟨_, _, q, _⟩ := hO; exact blk_own q
       have hpre := hr (.op (.fn f 1000) [.op .asl [xs]]) (by simp)
       simp only [E.den, E.dens, opD, List.getD_cons_zero] at hpre
       have hcall := hF w (Me C.M (s.den Φ env).obj g.hd g.fp) dp (g.hd z) _ (g.fp z) (fun b hb o => .inr (.inl ⟨z, by rw [hz']; rfl, by rw [hblk]; exact hb⟩)) (fun w' hf => C.gl w' (R.fr.trans hf fun b hb => (R.alw z b (by obtain ⟨_, _, _, _, _, _, hFe, _⟩ := hO; rw [hFe]; exact List.mem_append.2 (.inl hb))).1)) hO (R.own z) (fun b hb => (R.alw z b hb).2) hpre
       refine does_call R hfn hbody hname ho hc ?_
       have harr : c.args.map a.eval = #[g.hd z] := by
         have : (c.args.toList.map a.eval).toArray = c.args.map a.eval := by apply Array.ext'; simp
         rw [← this, hxs, ← hva]; rfl
       rw [harr]
       refine hcall.mono fun e w' ⟨he, hfr, hlen, F', hO', hperm⟩ => ?_
       let i : Itm := ⟨z, .arr t' ks' dp (.op (.fn f 0) [.op .asl [xs]]), g.hd z, F'⟩
       have hden : ((E.op (.fn f 0) [.op .asl [xs]]).den Φ env).asList = (Φ f 0 [.sl (xs.den Φ env).asList]).asList := by simp only [E.den, E.dens, opD, List.getD_cons_zero]
       have hobj : ((s.upds ([i].map fun i => (i.key, i.ob))).den Φ env).obj z = some (.arr t' ks' dp (Φ f 0 [.sl (xs.den Φ env).asList]).asList) := by
         rw [itms_obj _ _ _ (by simp)]
         simp only [ilook, i, if_true, SOb.den, hden]
       have hhd : (g.itms [i]).hd = g.hd := funext fun y => by
         simp only [Gh.itms, ilook, i]
         by_cases hy : y = z
         · rw [if_pos hy, hy]
         · rw [if_neg hy]
       have hfp : (g.itms [i]).fp z = F' := by simp only [Gh.itms, ilook, i, if_true]
       have hheads : ∀ b, b ∈ (g.hd z).ownBlock.toList → b ∈ g.fp z := fun b hb => by
         obtain ⟨_, _, _, _, _, _, q, _⟩ := hO
         rw [q]; exact List.mem_append.2 (.inl hb)
       have hrel : Rel C (g.itms [i]) ((s.upds ([i].map fun i => (i.key, i.ob))).den Φ env) a w' := by
         refine R.turn (fun x => x = z) hfr (by simp [SSt.den, SSt.upds_tmps]) (fun b hb => ⟨fun o => .inr (.inl ⟨z, by rw [hz']; rfl, by rw [hblk]; simpa using hb⟩), (R.alw z b (hheads b hb)).1⟩) (fun y hy => ?_) (fun y hy => ?_) (fun hs y hy => ?_) (fun y hy b o hh => ?_) (fun y hy => ?_) (fun y hy b hb => ?_) (fun x y hx hy hxy => absurd (hx.trans hy.symm) hxy)
         · have hl : ilook y [i] = none := by simp [ilook, i, hy]
           refine ⟨by rw [itms_obj _ _ _ (by simp), hl], by rw [hhd], by simp only [Gh.itms, hl], fun b hb hbX => R.apart y z hy b hb (hheads b hbX)⟩
         · subst hy
           exact .arr t' ks' dp (xs.den Φ env).asList (by rw [hz']; rfl) _ hobj (by rw [hhd]) hlen
         · subst hy
           unfold RepOb
           simp only [sur, hobj, hhd, hfp]
           obtain ⟨vss, fps, q1, q2, q3, q4, q5, q6⟩ := hO'
           refine ⟨vss, fps, q1, q2, q3, q4, q5, fun j row us f' e1 e2 e3 => ?_⟩
           have := q6 j row us f' e1 e2 e3
           split at this
           · rename_i hd; rw [if_pos hd]; exact this
           · rename_i hd
             rw [if_neg hd]
             refine ⟨this.1.mono fun b o hm => ?_, this.2⟩
             rcases hm with hm | ⟨x', hl, hb⟩ | ⟨x', hl, hb⟩
             · exact .inl hm
             · by_cases hxy : x' = y
               · subst hxy
                 exact .inr (.inl ⟨x', by rw [hz']; rfl, hb⟩)
               · have hl0 : ilook x' [i] = none := by simp [ilook, i, hxy]
                 rw [itms_obj _ _ _ (by simp), hl0] at hl
                 exact .inr (.inl ⟨x', hl, hb⟩)
             · by_cases hxy : x' = y
               · subst hxy
                 rw [hobj] at hl
                 simp [Ob.isX] at hl
               · have hl0 : ilook x' [i] = none := by simp [ilook, i, hxy]
                 rw [itms_obj _ _ _ (by simp), hl0] at hl
                 simp only [Gh.itms, hl0] at hb
                 exact .inr (.inr ⟨x', hl, hb⟩)
         · subst hy
           rw [hobj, hhd] at hh
           rcases hh with ⟨_, hb⟩ | ⟨hl, _⟩
           · exact .inl (.inr (.inl ⟨y, by rw [hz']; rfl, hb⟩))
           · simp [Ob.isX] at hl
         · subst hy
           rw [hfp]
           exact hperm.nodup_iff.2 (R.own y)
         · subst hy
           rw [hfp] at hb
           have hb' := hperm.mem_iff.1 hb
           exact ⟨.inl ⟨y, rfl, hb'⟩, Nat.lt_of_lt_of_le (R.alw y b hb').2 hfr.size⟩
       refine ⟨g.hd z, _, he, ?_, hrel⟩
       refine ⟨?_, by rw [← hva]; exact hv.2⟩
       show RefRep _ z none (g.hd z)
       unfold RefRep
       simp only [sur, hhd]
       rw [show ((s.upds [(z, SOb.arr t' ks' dp (E.op (.fn f 0) [.op .asl [xs]]))]).den Φ env).obj z = _ from hobj]
       exact ⟨trivial, trivial⟩
     · cases h
   · cases h
 · cases h
end
theorem good_callN {Φ : Fns} {env : List D} {C : Cx} {g : Gh} {s : SSt} {a : Act} {w : World} {o : Oper} {key : Nat} (R : Rel C g (s.den Φ env) a w) {f : FuncId} {args : List ASh} {bt : TypeId} {ks : List K} (hF : FunN C.P f args bt ks (Φ f))
   (hfn : ∃ fn, C.P.funcs[f]? = some fn ∧ fn.body ≠ none ∧ fn.name ≠ "runtime.NumGoroutine")
   {c : Call} (ho : o.op = .call c) (hc : c.callee = .value (.func f)) {r : Res} (h : fCallN C.T args bt ks key s f c.argTypes.toList c.args.toList = some r) (hr : holds Φ env r.cs) :
   Does C a w o (r.v.den Φ env) ((s.upds r.upd).den Φ env) := by
 unfold fCallN at h
 split at h
 · rename_i es hes
   obtain ⟨h1, h2⟩ := bif_some h
   clear h
   simp only [Option.some.injEq] at h2
   subst h2
   have hkey : s.obj key = none := by simpa using h1
   obtain ⟨fn, hfn, hb, hname⟩ := hfn
   have hpre := hr (.op (.fn f 1000) es) (by simp)
   simp only [E.den, E.dens_map, opD] at hpre
   have hMe : ∀ b o, Me C.M (s.den Φ env).obj g.hd g.fp b o → b < w.heap.size := by
     rintro b o (hM | ⟨x, hl, hx⟩ | ⟨x, hl, hx⟩)
     · exact Nat.lt_of_lt_of_le (C.mold b o hM).1 R.fr.size
     · exact (R.alw x b (R.liveBlk hl hx)).2
     · exact (R.alw x b hx).2
   have hcall := hF w (calleeM false (Me C.M (s.den Φ env).obj g.hd g.fp)) _ _ (fun b o hm => hMe b o hm.2) (C.gl w R.fr) (sargs_rep R hes) hpre
   refine does_call R hfn hb hname ho hc ?_
   have harr : (c.args.toList.map a.eval).toArray = c.args.map a.eval := by apply Array.ext'; simp
   rw [harr] at hcall
   refine hcall.mono fun e w' ⟨b, us, he, hbel, hle, hh, hrep⟩ => ?_
   have hk : (s.den Φ env).obj key = none := by rw [SSt.den_obj, hkey]; rfl
   have hlt : b < w'.heap.size := (Array.getElem?_eq_some_iff.1 hh).1
   have e1 : ((s.upds [(key, SOb.box bt (sdats ks (.op (.fn f 0) es) 0))]).den Φ env) = (s.den Φ env).setO key (.box bt ((sdats ks (.op (.fn f 0) es) 0).map (SC.den Φ env))) := by
     show ((s.setO key _).den Φ env) = _
     rw [SSt.den_setO]; rfl
   have hsub : ∀ c o, Me C.M ((s.den Φ env).setO key (.box bt ((sdats ks (.op (.fn f 0) es) 0).map (SC.den Φ env)))).obj (g.upd key (.pointer (some ⟨b, 0, none⟩)) [b]).hd (g.upd key (.pointer (some ⟨b, 0, none⟩)) [b]).fp c o → calleeM false (Me C.M (s.den Φ env).obj g.hd g.fp) c o ∨ c = b := by
     rintro c o (hM | ⟨x, hl, hx⟩ | ⟨x, hl, hx⟩)
     · exact .inl ⟨rfl, .inl hM⟩
     · rw [St.obj_setO] at hl
       by_cases e : x = key
       · subst e
         simp only [Gh.upd, upd_eq, blkOf, Option.some.injEq] at hx
         exact .inr hx.symm
       · rw [if_neg e] at hl
         simp only [Gh.upd, upd_ne _ _ e] at hx
         exact .inl ⟨rfl, .inr (.inl ⟨x, hl, hx⟩)⟩
     · rw [St.obj_setO] at hl
       by_cases e : x = key
       · subst e
         simp [Ob.isX] at hl
       · rw [if_neg e] at hl
         simp only [Gh.upd, upd_ne _ _ e] at hx
         exact .inl ⟨rfl, .inr (.inr ⟨x, hl, hx⟩)⟩
   have R1 := R.grow hbel hk (o := .box bt ((sdats ks (.op (.fn f 0) es) 0).map (SC.den Φ env))) (h := .pointer (some ⟨b, 0, none⟩)) (f := [b]) (fun b' hb' => by simp [blkOf] at hb'; omega) (by simp) (fun b' hb' => by simp at hb'; subst hb'; exact ⟨hle, hlt⟩) (by
     unfold RepOb
     simp only [sur, St.obj_setO, if_pos, Gh.upd, upd_eq]
     refine ⟨b, us, rfl, rfl, hh, ?_⟩
     have hd : (sdats ks (.op (.fn f 0) es) 0).map (SC.den Φ env) = dats ks (Φ f 0 (es.map (E.den Φ env))).row := by rw [sdats_den, List.drop_zero]; simp only [E.den, E.dens_map, opD]
     have h5 := dats_rep (s := sur C (g.upd key (.pointer (some ⟨b, 0, none⟩)) [b]) ((s.den Φ env).setO key (.box bt ((sdats ks (.op (.fn f 0) es) 0).map (SC.den Φ env)))) w') (hrep.mono hsub)
     rw [← hd] at h5
     exact h5)
   refine ⟨_, _, he, ?_, by rw [e1]; exact R1⟩
   show PtrRep _ key _ 0 _
   unfold PtrRep
   rw [e1]
   simp only [sur, St.obj_setO, if_pos, Gh.upd, upd_eq]
   exact ⟨b, rfl, rfl⟩
 · cases h
def FunRB (P : Program) (f : FuncId) (bs : Option (List BSh)) (so : Option (TypeId × List K)) (nb : Option (TypeId × List K)) (args : List ASh) (rets : List RSh) (φ : Nat → List D → D) : Prop := match so with
 | some q => FunS P f q.1 q.2 φ
 | none => match bs with
   | none => match nb with
     | none => FunR P f args rets φ
     | some q => FunN P f args q.1 q.2 φ
   | some l => FunB P f l rets φ
end Go.Vx

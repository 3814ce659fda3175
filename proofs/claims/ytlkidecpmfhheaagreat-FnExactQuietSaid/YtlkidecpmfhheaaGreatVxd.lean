import Derived.Test.YtlkidecpmfhheaaGreatVxc
import Derived.ProofKit
import Derived.OpenShut
import Derived.SizedLaws
import Derived.WideKeyArgs
set_option linter.all false
namespace Go.Vx
open Go.RowKit (Below)
def bk (i : Nat) : Nat := 1000000000 + 100 * i
inductive AI (Φ : Fns) (env : List D) (w : World) (M0 : Nat → Nat → Prop) (l : List Itm) (i : Itm) : Prop where
 | arr (t : TypeId) (ks : List K) (xs : E) (h : i.ob = .arr t ks false xs) (ho : OwnRep w M0 t ks false i.hd (xs.den Φ env).asList i.fp)
 | arx (t : TypeId) (ks : List K) (xs : E) (h : i.ob = .arx t ks xs) (ho : OwnRep w M0 t ks true i.hd (xs.den Φ env).asList i.fp)
 | box (T : TypeId) (cs : List SC) (b : Nat) (us : List Value) (h : i.ob = .box T cs) (hh : i.hd = .pointer (some ⟨b, 0, none⟩)) (hf : i.fp = [b]) (hw : w.heap[b]? = some (.cells (List.toArray us) T (0, 0)))
     (hc : ∀ S : Sur, S.w = w → (∀ b o, S.me b o → M0 b o) → (∀ i, i ∈ l → S.obj i.key = some (i.ob.den Φ env) ∧ S.hd i.key = i.hd) → RepACs S (cs.map (SC.den Φ env)) us)
theorem AI.mono {Φ : Fns} {env : List D} {w : World} {M0 : Nat → Nat → Prop} {l l' : List Itm} {i : Itm} (h : AI Φ env w M0 l i) (hl : ∀ i, i ∈ l → i ∈ l') : AI Φ env w M0 l' i := by
 cases h with
 | arr t ks xs h ho => exact .arr t ks xs h ho
 | arx t ks xs h ho => exact .arx t ks xs h ho
 | box T cs b us h hh hf hw hc => exact .box T cs b us h hh hf hw fun S q1 q2 q3 => hc S q1 q2 fun i hi => q3 i (hl i hi)
section
variable {Φ : Fns} {env : List D}
theorem BReps.len {w : World} {M : Nat → Nat → Prop} : ∀ {ss : List BSh} {vs : List Value} {ds : List D} {Fs : List (List Nat)}, BReps w M ss vs ds Fs → vs.length = ss.length ∧ ds.length = ss.length
 | [], _, _, _, ⟨e1, e2, _⟩ => by rw [e1, e2]; exact ⟨rfl, rfl⟩
 | .im _ :: _, _, _, _, ⟨v, vs', d, ds', e1, e2, _, h⟩ => by rw [e1, e2]; simp [h.len.1, h.len.2]
 | .one _ :: _, _, _, _, ⟨v, vs', d, ds', F, Fs', e1, e2, _, _, h⟩ => by rw [e1, e2]; simp [h.len.1, h.len.2]
 | .agg _ :: _, _, _, _, ⟨v, vs', d, ds', F, Fs', e1, e2, _, _, h⟩ => by rw [e1, e2]; simp [h.len.1, h.len.2]
 | .box _ _ :: _, _, _, _, ⟨b, us, vs', d, ds', F, Fs', e1, e2, _, _, _, h⟩ => by rw [e1, e2]; simp [h.len.1, h.len.2]
end
section
variable {Φ : Fns} {env : List D} {C : Cx} {g : Gh} {s : SSt} {a : Act} {w : World}
def InX (C : Cx) (g : Gh) (σ : St) (kx : List (Nat × Bool)) (b : Nat) : Prop := ∃ q, q ∈ kx ∧ b ∈ xB g q ∧ ∀ o, Me C.M σ.obj g.hd g.fp b o
theorem InX.mono {σ : St} {kx kx' : List (Nat × Bool)} {b : Nat} (h : InX C g σ kx b) (hk : ∀ q, q ∈ kx → q ∈ kx') : InX C g σ kx' b := by
 obtain ⟨q, h1, h2⟩ := h
 exact ⟨q, hk q h1, h2⟩
end
end Go.Vx
namespace Go.Vx
open Go.RowKit (Below)
section
variable {Φ : Fns}
end
end Go.Vx
namespace Go.Vx
open Go.RowKit (Below)
def opsC : Code → List Oper
 | .region _ ops _ => ops.toList
 | .seq a b => opsC a ++ opsC b
 | .cond _ a b => opsC a ++ opsC b
 | .block _ c => opsC c
 | .loop c => opsC c
 | _ => []
def operT (l : List Operand) : List Nat := l.filterMap fun x => match x with | .tmp t => some t | _ => none
def usesC : Code → List Nat
 | .region _ ops _ => ops.toList.flatMap fun o => operT o.op.operands.toList
 | .seq a b => usesC a ++ usesC b
 | .cond x a b => operT [x] ++ usesC a ++ usesC b
 | .block _ c => usesC c
 | .loop c => usesC c
 | _ => []
def usesK : List It → List Nat
 | [] => []
 | .code c :: k => usesC c ++ usesK k
 | .lp _ _ _ H :: k => ((List.range H.tmps.length).zip H.tmps).filterMap (fun p => match p.2 with | .dead => none | _ => some p.1) ++ usesK k
 | _ :: k => usesK k
def resT (l : List ResultVar) : List Nat := l.map fun r => match r with | .tmp t => t | .cell t _ => t
structure Hint where
 id : Nat
 keep : List Nat
 data : List Nat
 /-- the rows of its arrays own nothing -/
 flat : Bool
 deriving Inhabited
def hasN (x : Nat) (l : List Nat) : Bool := l.any fun y => y == x
def rootT (ops : List Oper) : Nat → Nat → Nat
 | 0, p => p
 | f + 1, p => match ops.find? fun o => match o.dst with | some d => d == p | none => false with
   | some o => match o.op with
     | .move (.tmp q) => rootT ops f q
     | .assign (.tmp q) => rootT ops f q
     | .fieldAddr _ (.tmp q) _ => rootT ops f q
     | .indexAddr _ (.tmp q) _ => rootT ops f q
     | .slice _ (.tmp q) _ _ _ => rootT ops f q
     | .nilCheck (.tmp q) => rootT ops f q
     | _ => p
   | none => p
def keyOfC : SC → List Nat
 | .ref z _ => [z]
 | _ => []
def keyOfV : SV → List Nat
 | .one c => keyOfC c
 | .agg cs => cs.flatMap keyOfC
 | .ptr z _ _ => [z]
 | _ => []
def touched (ops : List Oper) (s : SSt) : List Nat := ops.flatMap fun o => match o.op with
 | .store _ (.tmp p) _ => keyOfV (s.tmp (rootT ops 8 p))
 | .call c => match c.callee, c.args.toList with
   | .builtin .append, .tmp p :: _ => keyOfV (s.tmp (rootT ops 8 p))
   | .value (.func _), xs => xs.flatMap fun x => match x with
     | .tmp p => match s.tmp (rootT ops 8 p) with | .ptr z _ _ => [z] | _ => []
     | _ => []
   | _, _ => []
 | _ => []
def genC (h : Hint) (i c : Nat) : SC → SC × Nat × Nat
 | .dat k e => bif hasN c h.keep then (.dat k e, i, c + 1) else (.dat k (.var i), i + 1, c + 1)
 | .nil t ks => (.nil t ks, i, c)
 | .ref z none => (.ref z none, i, c)
 | _ => (.dead, i, c)
def genCs (h : Hint) (i c : Nat) : List SC → List SC × Nat × Nat
 | [] => ([], i, c)
 | x :: cs => match genC h i c x with
   | (c', j, d) => match genCs h j d cs with
     | (cs', l) => (c' :: cs', l)
def genV (h : Hint) (t i c : Nat) : SV → SV × List (Nat × SOb) × Nat × Nat
 | .one (.nil e ks) => bif hasN c h.keep then (.one (.nil e ks), [], i, c + 1) else bif hasN c h.data then (.one (.dat (.sl e ks) (.var i)), [], i + 1, c + 1) else
     (.one (.ref (64000000 + t) none), [(64000000 + t, .arr e ks (!h.flat || plainK ks) (.var i))], i + 1, c + 1)
 | .one x => match genC h i c x with | (c', j) => (.one c', [], j)
 | .agg cs => match genCs h i c cs with | (cs', j) => (.agg cs', [], j)
 | _ => (.dead, [], i, c)
def keepV : SV → SV
 | .tup _ => .dead
 | .whn _ _ => .dead
 | v => v
def genT (h : Hint) (mods use : List Nat) : Nat → Nat → Nat → List SV → List SV × List (Nat × SOb) × List Nat × Nat × Nat
 | _, i, c, [] => ([], [], [], i, c)
 | t, i, c, v :: vs => bif !hasN t use then match genT h mods use (t + 1) i c vs with
     | (vs', os, ts, l) => (.dead :: vs', os, ts, l)
   else bif hasN t mods then
     match genV h t i c v with
     | (v', o, j, d) => match genT h mods use (t + 1) j d vs with
       | (vs', os, ts, l) => (v' :: vs', o ++ os, keyOfV v ++ ts, l)
   else match genT h mods use (t + 1) i c vs with
     | (vs', os, ts, l) => (keepV v :: vs', os, ts, l)
def genO (h : Hint) (i c : Nat) : SOb → SOb × Nat × Nat
 | .arr t ks dp e => bif hasN c h.keep then (.arr t ks dp e, i, c + 1) else (.arr t ks (dp && (!h.flat || plainK ks)) (.var i), i + 1, c + 1)
 | .box T cs => match genCs h i c cs with | (cs', j) => (.box T cs', j)
 | .arx t ks e => bif hasN c h.keep then (.arx t ks e, i, c + 1) else (.arx t ks (.var i), i + 1, c + 1)
 | o => (o, i, c)
def genBC (h : Hint) (z : Nat) : Nat → Nat → Nat → List SC → List SC × List (Nat × SOb) × Nat × Nat
 | _, i, c, [] => ([], [], i, c)
 | j, i, c, .nil e ks :: cs => match genBC h z (j + 1) (i + 1) c cs with
   | (cs', os, l) => (.ref (65000000 + 16 * z + j) none :: cs', (65000000 + 16 * z + j, .arr e ks (!h.flat || plainK ks) (.var i)) :: os, l)
 | j, i, c, x :: cs => match genC h i c x with
   | (c', i', d) => match genBC h z (j + 1) i' d cs with
     | (cs', os, l) => (c' :: cs', os, l)
def genOb (h : Hint) (z i c : Nat) (o : SOb) : List (Nat × SOb) × Nat × Nat := match o with
 | .box T cs => bif hasN 1000000 h.data then (match genBC h z 0 i c cs with | (cs', os, l) => ((z, .box T cs') :: os, l)) else (match genO h i c o with | (o', l) => ([(z, o')], l))
 | _ => match genO h i c o with | (o', l) => ([(z, o')], l)
def genOs (s : SSt) (h : Hint) (tou : List Nat) : Nat → Nat → List Nat → List (Nat × SOb) × Nat × Nat
 | i, c, [] => ([], i, c)
 | i, c, z :: zs => match s.obj z with
   | some o => bif hasN z tou then match genOb h z i c o with
       | (o', j, d) => match genOs s h tou j d zs with
         | (os, l) => (o' ++ os, l)
     else match genOs s h tou i c zs with
       | (os, l) => ((z, o) :: os, l)
   | none => genOs s h tou i c zs
def uniq : List Nat → List Nat
 | [] => []
 | x :: l => bif hasN x l then uniq l else x :: uniq l
def genAt (h : Hint) (rt : List Nat) (n : Nat) (s : SSt) (c : Code) (after : List Nat) : Option (SSt × Nat) :=
 let ops := opsC c
 let mods := ops.filterMap (·.dst)
 match genT h mods (rt ++ after) 0 n 0 s.tmps with
 | (tmps, new, ts, i, c) =>
   let refs := tmps.flatMap keyOfV
   let refs2 := refs ++ refs.flatMap fun z => match s.obj z with | some (.box _ cs) => cs.flatMap keyOfC | _ => []
   let big := s.objs.filterMap fun p => bif Nat.blt p.1 1000000000 then none else some p.1
   let tou := touched ops s ++ ts ++ big
   let tou := tou ++ tou.flatMap fun z => match s.obj z with | some (.box _ cs) => cs.flatMap keyOfC | _ => []
   match genOs s h tou i c (uniq (refs2 ++ big)) with
   | (os, j, _) => some (⟨tmps, os ++ new⟩, j - n)
def gen (hs : List Hint) (rt : List Nat) (n : Nat) (s : SSt) (c : Code) (k : List It) : Option (SSt × Nat) := match c with
 | .loop (.seq x y) => match hs.find? fun h => h.id == 1000000 + (firstId y).getD 0 with
   | some h => genAt h rt n s x (usesC y ++ usesK k)
   | none => none
 | c => genAt ((hs.find? fun h => h.id == (firstId c).getD 0).getD ⟨(firstId c).getD 0, [], [], false⟩) rt n s c (usesC c ++ usesK k)
structure Told1 where
 f : Nat
 args : List ASh
 rets : List RSh
 ex : Bool := false
 xs : Option (List XSh) := none
 bs : Option (List BSh) := none
 so : Option (TypeId × List K) := none
 exn : List Nat := []
 nb : Option (TypeId × List K) := none
abbrev told (f : Nat) (args : List ASh) (rets : List RSh) : Told1 := { f := f, args := args, rets := rets }
abbrev toldS (f : Nat) (t : TypeId) (ks : List K) : Told1 := { f := f, args := [], rets := [], so := some (t, ks) }
abbrev Told1.x (t : Told1) : Told1 := { t with ex := true }
def sigs : List Told1 → Nat → Option Sig
 | [], _ => none
 | t :: l, f => bif t.f == f then some { args := t.args, rets := t.rets, ex := t.ex, xs := t.xs, bs := t.bs, so := t.so, exn := t.exn, nb := t.nb } else sigs l f
def vcOf (T : TypeId → TI) (CT : Nat → Option Sig) (hs : List Hint) (fn : Func) (args : List ASh) (rets : List RSh) : Option VC := match fn.body with
 | some c => run T CT (gen hs (resT fn.results.toList)) (fin T fn.results.toList rets) 2000 args.length (start args fn.ntmps) [.code c]
 | none => none
theorem funR_vc {Φ : Fns} {P : Program} {T : TypeId → TI} (tok : ∀ t, (T t).ok = true → TOk P T t) (hm : P.follows .mixedOrders = true) {CT : Nat → Option Sig} (hCT : Told P Φ CT) {f : FuncId} {fn : Func}
   (hf : P.funcs[f]? = some fn) {args : List ASh} {rets : List RSh} {φ : Nat → List D → D} {hs : List Hint} {vc : VC} (hl : args.length ≤ fn.ntmps) (hv : vcOf T CT hs fn args rets = some vc)
   (hw : ∀ ds, ds.length = args.length → WFAs args ds → (φ 1000 ds).asBool = true → vc.wp Φ (fun l => eqRets (rets.flatMap RSh.cells) l (retDs (fun c => φ c ds) 0 rets)) ds fun _ _ => False) : FunR P f args rets φ := by
 unfold vcOf at hv
 split at hv
 · rename_i c hb
   exact funR_of tok hm hCT hf hb hl hv hw
 · cases hv
end Go.Vx
namespace Go.Vx
open Go.RowKit (Below)
def flatFB (P : Program) : Nat → List Field → List K → Bool
 | _, [], [] => true
 | j, f :: fs, k :: ks => !decide (f.name = "_") && (f.offset == j && ((match k, P.underlying f.type with
   | .int k, some (.int k') => decide (k = k')
   | .bool, some .bool => true
   | .str, some .string => true
   | _, _ => false) && flatFB P (j + 1) fs ks))
 | _, _, _ => false
def flatB (P : Program) (t : TypeId) (ks : List K) : Bool := match P.underlying t with
 | some (.struct fs) => flatFB P 0 fs.toList ks
 | _ => false
theorem flatFB_is {P : Program} : ∀ {fs : List Field} {ks : List K} {j : Nat}, flatFB P j fs ks = true → flatF P j fs ks
 | [], [], _, _ => trivial
 | [], _ :: _, _, h => by simp [flatFB] at h
 | _ :: _, [], _, h => by simp [flatFB] at h
 | f :: fs, k :: ks, j, h => by
   simp only [flatFB, Bool.and_eq_true, Bool.not_eq_true', decide_eq_false_iff_not, beq_iff_eq] at h
   refine ⟨h.1, h.2.1, ?_, flatFB_is h.2.2.2⟩
   have := h.2.2.1
   split at this
   · rename_i k1 k2 h2
     simp only [decide_eq_true_eq] at this
     subst this
     exact h2
   · rename_i h2; exact h2
   · rename_i h2; exact h2
   · cases this
def eqB (P : Program) (i : TI) (t : TypeId) : Bool := !i.eq || (flatB P t i.ks && (!P.stoodInHeld t && !P.eqGuardType P.depth t))
theorem eqB_is {P : Program} {i : TI} {t : TypeId} (h : eqB P i t = true) (hi : i.eq = true) : ∃ fs, P.underlying t = some (.struct fs) ∧ P.stoodInHeld t = false ∧ P.eqGuardType P.depth t = false ∧ flatF P 0 fs.toList i.ks := by
 simp only [eqB, hi, Bool.not_true, Bool.false_or, Bool.and_eq_true, Bool.not_eq_true'] at h
 have h1 := h.1
 unfold flatB at h1
 split at h1
 · rename_i fs hf
   exact ⟨fs, hf, h.2.1, h.2.2, flatFB_is h1⟩
 · cases h1
def zeroB : List Value → List K → Bool
 | [], [] => true
 | .int k n :: vs, .int k' :: ks => decide (k = k') && (decide (n = 0) && zeroB vs ks)
 | .bool b :: vs, .bool :: ks => !b && zeroB vs ks
 | .string s :: vs, .str :: ks => decide (s = ⟨#[]⟩) && zeroB vs ks
 | .slice none 0 0 :: vs, .sl _ _ :: ks => zeroB vs ks
 | _, _ => false
theorem zeroB_eq : ∀ {vs : List Value} {ks : List K}, zeroB vs ks = true → vs = ks.map zeroV := by
 intro vs ks
 fun_induction zeroB vs ks with
 | case1 => intro _; rfl
 | case2 k n vs k' ks ih =>
   intro h
   simp only [Bool.and_eq_true, decide_eq_true_eq] at h
   obtain ⟨rfl, rfl, h⟩ := h
   simp [zeroV, ih h]
 | case3 b vs ks ih =>
   intro h
   simp only [Bool.and_eq_true, Bool.not_eq_true'] at h
   simp [zeroV, h.1, ih h.2]
 | case4 s vs ks ih =>
   intro h
   simp only [Bool.and_eq_true, decide_eq_true_eq] at h
   simp [zeroV, h.1, ih h.2]
 | case5 vs e ks' ks ih =>
   intro h
   simp [zeroV, ih h]
 | case6 => intro h; cases h
def fldsB : List (Nat × TypeId) → List (Nat × TypeId) → Bool
 | [], [] => true
 | a :: as, b :: bs => a.1 == b.1 && (a.2 == b.2 && fldsB as bs)
 | _, _ => false
theorem fldsB_eq : ∀ {a b : List (Nat × TypeId)}, fldsB a b = true → a = b
 | [], [], _ => rfl
 | [], _ :: _, h => by simp [fldsB] at h
 | _ :: _, [], h => by simp [fldsB] at h
 | (x, y) :: as, (u, v) :: bs, h => by
   simp only [fldsB, Bool.and_eq_true, beq_iff_eq] at h
   rw [h.1, h.2.1, fldsB_eq h.2.2]
def descB (i : TI) : TypeDesc → Bool
 | .struct fs => i.agg && (i.sl.isNone && (i.ik.isNone && (!i.isStr && fldsB (fs.toList.map fun f => (f.offset, f.type)) i.flds)))
 | .slice e => !i.agg && (isN i.sl e && (i.ik.isNone && (!i.isStr && match i.ks with | [.sl e' _] => e' == e | _ => false)))
 | .int k => !i.agg && (i.sl.isNone && ((match i.ik with | some k' => decide (k' = k) | none => false) && (!i.isStr && K.eqbs i.ks [.int k])))
 | .bool => !i.agg && (i.sl.isNone && (i.ik.isNone && (!i.isStr && K.eqbs i.ks [.bool])))
 | .string => !i.agg && (i.sl.isNone && (i.ik.isNone && (i.isStr && K.eqbs i.ks [.str])))
 | _ => false
theorem descB_is {i : TI} {d : TypeDesc} (h : descB i d = true) : descIs i d := by
 cases d <;> simp only [descB, Bool.false_eq_true, Bool.and_eq_true, Bool.not_eq_true', Option.isNone_iff_eq_none] at h
 case struct fs => exact ⟨h.1, h.2.1, h.2.2.1, h.2.2.2.1, fldsB_eq h.2.2.2.2⟩
 case slice e =>
   refine ⟨h.1, isN_eq h.2.1, h.2.2.1, h.2.2.2.1, ?_⟩
   have := h.2.2.2.2
   split at this
   · rename_i e' ks hk
     have e1 : e' = e := by simpa using this
     subst e1
     exact ⟨ks, hk⟩
   · cases this
 case int k =>
   refine ⟨h.1, h.2.1, ?_, h.2.2.2.1, K.eqbs_eq h.2.2.2.2⟩
   have := h.2.2.1
   split at this
   · rename_i k' hk
     rw [hk, of_decide_eq_true this]
   · cases this
 case bool => exact ⟨h.1, h.2.1, h.2.2.1, h.2.2.2.1, K.eqbs_eq h.2.2.2.2⟩
 case string => exact ⟨h.1, h.2.1, h.2.2.1, h.2.2.2.1, K.eqbs_eq h.2.2.2.2⟩
def tOkB (P : Program) (i : TI) (t : TypeId) : Bool := !i.ok || match P.info? t, P.underlying t with
 | some n, some d => match n.zero with
   | some z => n.size == i.ks.length && (n.bytes == i.bytes && (zeroB z.cells.toList i.ks && (descB i d && eqB P i t)))
   | none => false
 | _, _ => false
abbrev Tab := List (Nat × TI)
def tabOk (P : Program) (l : Tab) : Bool := l.all fun q => tOkB P q.2 q.1
def tabT (l : Tab) (t : TypeId) : TI := match l with
 | [] => default
 | (u, i) :: l => bif Nat.beq u t then i else tabT l t
theorem tabT_mem {t : TypeId} : ∀ {l : Tab}, (tabT l t).ok = true → (t, tabT l t) ∈ l
 | [], h => by simp [tabT] at h; cases h
 | (u, i) :: l, h => by
   simp only [tabT] at h ⊢
   cases hu : Nat.beq u t with
   | true =>
     have : u = t := Nat.eq_of_beq_eq_true hu
     subst this
     simp
   | false =>
     rw [hu] at h
     simp only [cond_false] at h ⊢
     exact List.mem_cons_of_mem _ (tabT_mem h)
theorem tabT_ok {P : Program} {l : Tab} (h : tabOk P l = true) (t : TypeId) (ht : (tabT l t).ok = true) : TOk P (tabT l) t := by
 have h1 := List.all_eq_true.1 h _ (tabT_mem ht)
 simp only [tOkB, ht, Bool.not_true, Bool.false_or] at h1
 split at h1
 · rename_i n d e1 e2
   split at h1
   · rename_i z e3
     simp only [Bool.and_eq_true, beq_iff_eq] at h1
     exact ⟨⟨n, d, z, e1, e2, h1.1, h1.2.1, e3, zeroB_eq h1.2.2.1, descB_is h1.2.2.2.1⟩, eqB_is h1.2.2.2.2⟩
   · cases h1
 · cases h1
def Good1 (P : Program) (Φ : Fns) (t : Told1) : Prop := (t.xs = none → FunRB P t.f t.bs t.so t.nb t.args t.rets (Φ t.f)) ∧ (∀ l, t.xs = some l → FunX P t.f l t.rets (Φ t.f)) ∧ ∃ fn, P.funcs[t.f]? = some fn ∧ fn.body ≠ none ∧ fn.name ≠ "runtime.NumGoroutine"
theorem Good1.x {P : Program} {Φ : Fns} {t : Told1} (h : Good1 P Φ t) : Good1 P Φ t.x := h
theorem Good1.r {P : Program} {Φ : Fns} {t : Told1} (h : Good1 P Φ t) (hx : t.xs = none) (hb : t.bs = none := by rfl) (hs : t.so = none := by rfl) (hn : t.nb = none := by rfl) : FunR P t.f t.args t.rets (Φ t.f) := by
 have := h.1 hx
 rwa [hs, hb, hn] at this
theorem Good1.b {P : Program} {Φ : Fns} {t : Told1} (h : Good1 P Φ t) (hx : t.xs = none) {l : List BSh} (hb : t.bs = some l) (hs : t.so = none := by rfl) : FunB P t.f l t.rets (Φ t.f) := by
 have := h.1 hx
 rwa [hs, hb] at this
theorem told_of {P : Program} {Φ : Fns} : ∀ {l : List Told1}, (∀ t ∈ l, Good1 P Φ t) → Told P Φ (sigs l)
 | [], _, f, sg, h => by simp [sigs] at h
 | t :: l, hl, f, sg, h => by
   simp only [sigs] at h
   cases ht : t.f == f with
   | true =>
     rw [ht] at h
     simp only [cond_true, Option.some.injEq] at h
     have : t.f = f := by simpa using ht
     subst this
     subst h
     exact hl t (by simp)
   | false =>
     rw [ht] at h
     exact told_of (l := l) (fun t ht => hl t (by simp [ht])) f sg h
theorem good1e {P : Program} {Φ : Fns} {T : TypeId → TI} (tok : ∀ t, (T t).ok = true → TOk P T t) (hm : P.follows .mixedOrders = true) {l : List Told1} (hl : ∀ t ∈ l, Good1 P Φ t) {t : Told1} {fn : Func} {hs : List Hint} {vc : VC}
   (hf : P.funcs[t.f]? = some fn) (hn : fn.name ≠ "runtime.NumGoroutine") (hlen : t.args.length ≤ fn.ntmps) (hv : vcOf T (sigs l) hs fn t.args t.rets = some vc)
   (hw : ∀ ds, ds.length = t.args.length → WFAs t.args ds → (Φ t.f 1000 ds).asBool = true → vc.wp Φ (fun l => eqRets (t.rets.flatMap RSh.cells) l (retDs (fun c => Φ t.f c ds) 0 t.rets)) ds fun _ _ => False) (hx : t.xs = none := by rfl) (hbs : t.bs = none := by rfl) (hso : t.so = none := by rfl) (hnb : t.nb = none := by rfl) : Good1 P Φ t := by
 refine ⟨fun _ => (by rw [hso, hbs, hnb]; exact funR_vc tok hm (told_of hl) hf hlen hv hw), fun l e => (by rw [hx] at e; cases e), fn, hf, ?_, hn⟩
 intro hb
 unfold vcOf at hv
 rw [hb] at hv
 cases hv
theorem good1 {P : Program} {Φ : Fns} {T : TypeId → TI} (tok : ∀ t, (T t).ok = true → TOk P T t) (hm : P.follows .mixedOrders = true) {l : List Told1} (hl : ∀ t ∈ l, Good1 P Φ t) {t : Told1} {fn : Func} {hs : List Hint} {vc : VC}
   (hf : P.funcs[t.f]? = some fn) (hn : fn.name ≠ "runtime.NumGoroutine") (hlen : t.args.length ≤ fn.ntmps) (hv : vcOf T (sigs l) hs fn t.args t.rets = some vc)
   (hw : ∀ ds, ds.length = t.args.length → WFAs t.args ds → (Φ t.f 1000 ds).asBool = true → vc.wp Φ (fun l => l = retDs (fun c => Φ t.f c ds) 0 t.rets) ds fun _ _ => False) (hx : t.xs = none := by rfl) (hbs : t.bs = none := by rfl) (hso : t.so = none := by rfl) (hnb : t.nb = none := by rfl) : Good1 P Φ t :=
 good1e tok hm hl hf hn hlen hv (fun ds h1 h2 h3 => VC.wp_mono (fun l h => by rw [h]; exact eqRets_refl _ _) _ _ _ (hw ds h1 h2 h3)) hx hbs hso hnb
abbrev K.i : K := .int .i64
namespace E
abbrev v : Nat → E := .var
abbrev i : Int → E := .int
abbrev b : Bool → E := .bool
abbrev q (x y : E) : E := .op (.bin .eql .i64) [x, y]
abbrev n (x y : E) : E := .op (.bin .neq .i64) [x, y]
abbrev l (x y : E) : E := .op (.bin .lss .i64) [x, y]
abbrev l' (x y : E) : E := .op (.bin .leq .i64) [x, y]
abbrev g (x y : E) : E := .op (.bin .gtr .i64) [x, y]
abbrev g' (x y : E) : E := .op (.bin .geq .i64) [x, y]
abbrev a (x y : E) : E := .op (.bin .add .i64) [x, y]
abbrev s (x y : E) : E := .op (.bin .sub .i64) [x, y]
abbrev N (x : E) : E := .op .not [x]
abbrev I (x y z : E) : E := .op .ite [x, y, z]
abbrev O (x y : E) : E := .op .ite [x, .bool true, y]
abbrev X (x y : E) : E := .op .ite [x, y, .bool false]
abbrev Y (x y : E) : E := .op .ite [x, y, .bool true]
abbrev T : E := .bool true
abbrev U : E := .bool false
abbrev L (x : E) : E := .op .len [x]
abbrev r (x y : E) : E := .op .row [x, y]
abbrev f (j : Nat) (x : E) : E := .op (.fld j) [x]
abbrev F (f c : Nat) (es : List E) : E := .op (.fn f c) es
abbrev m (es : List E) : E := .op .mk es
abbrev z (x y : E) : E := .op .le [x, y]
abbrev t (x y : E) : E := .op .lt [x, y]
abbrev A (x : E) : E := .op .asl [x]
end E
def fs (j : Nat) : Nat → E → List E
 | 0, _ => []
 | n + 1, x => E.f j x :: fs (j + 1) n x
def fsA (j : Nat) : Nat → E → List E
 | 0, _ => []
 | n + 1, x => E.A (E.f j x) :: fsA (j + 1) n x
@[simp] theorem fsA_zero (j : Nat) (x : E) : fsA j 0 x = [] := rfl
@[simp] theorem fsA_succ (j n : Nat) (x : E) : fsA j (n + 1) x = E.A (E.f j x) :: fsA (j + 1) n x := rfl
@[simp] theorem fs_zero (j : Nat) (x : E) : fs j 0 x = [] := rfl
@[simp] theorem fs_succ (j n : Nat) (x : E) : fs j (n + 1) x = E.f j x :: fs (j + 1) n x := rfl
end Go.Vx
namespace Go.Vx
open Go.RowKit (Below)
def rowN (xs : List (List D)) (i : Nat) : List D := xs.getD i []
theorem rowN_lt {xs : List (List D)} {i : Nat} (h : i < xs.length) : rowN xs i = xs[i] := by simp [rowN, h]
theorem rowN_mem {xs : List (List D)} {i : Nat} (h : i < xs.length) : rowN xs i ∈ xs := by rw [rowN_lt h]; exact List.getElem_mem _
@[simp] theorem rowN_zero (x : List D) (xs : List (List D)) : rowN (x :: xs) 0 = x := rfl
@[simp] theorem rowN_succ (x : List D) (xs : List (List D)) (i : Nat) : rowN (x :: xs) (i + 1) = rowN xs i := by simp [rowN]
def sumR (p : List D → Nat) : List (List D) → Nat
 | [] => 0
 | x :: xs => p x + sumR p xs
def eqR (p : List D → List D → Bool) : List (List D) → List (List D) → Bool
 | [], [] => true
 | x :: xs, y :: ys => p x y && eqR p xs ys
 | _, _ => false
mutual
def szD : K → D → Nat
 | .int _, _ => 0
 | .bool, _ => 0
 | .str, d => d.asStr.size
 | .sl _ ks, d => d.asList.length + sumR (szDs ks) d.asList
def szDs : List K → List D → Nat
 | [], _ => 0
 | k :: ks, ds => szD k (ds.headD default) + szDs ks ds.tail
end
mutual
def cnD : K → D → D
 | .int _, d => d
 | .bool, d => d
 | .str, d => d
 | .sl _ ks, d => .sl (d.asList.map (cnDs ks))
def cnDs : List K → List D → List D
 | [], _ => []
 | k :: ks, ds => cnD k (ds.headD default) :: cnDs ks ds.tail
end
mutual
def eqD : K → D → D → Bool
 | .int _, d, e => decide (d.asInt = e.asInt)
 | .bool, d, e => d.asBool == e.asBool
 | .str, d, e => decide (d.asStr = e.asStr)
 | .sl _ ks, d, e => eqR (eqDs ks) d.asList e.asList
def eqDs : List K → List D → List D → Bool
 | [], _, _ => true
 | k :: ks, ds, es => eqD k (ds.headD default) (es.headD default) && eqDs ks ds.tail es.tail
end
theorem eqR_refl {p : List D → List D → Bool} (h : ∀ x, p x x = true) : ∀ xs, eqR p xs xs = true
 | [] => rfl
 | x :: xs => by simp [eqR, h, eqR_refl h xs]
mutual
theorem eqD_refl : ∀ (k : K) (d : D), eqD k d d = true
 | .int _, d => by simp [eqD]
 | .bool, d => by simp [eqD]
 | .str, d => by simp [eqD]
 | .sl _ ks, d => eqR_refl (fun x => eqDs_refl ks x) d.asList
theorem eqDs_refl : ∀ (ks : List K) (ds : List D), eqDs ks ds ds = true
 | [], _ => rfl
 | k :: ks, ds => by rw [eqDs, eqD_refl k, eqDs_refl ks]; rfl
end
theorem sumR_append (p : List D → Nat) : ∀ (xs ys : List (List D)), sumR p (xs ++ ys) = sumR p xs + sumR p ys
 | [], ys => by simp [sumR]
 | x :: xs, ys => by simp [sumR, sumR_append p xs ys]; omega
theorem sumR_take (p : List D → Nat) {xs : List (List D)} {i : Nat} (h : i < xs.length) : sumR p (xs.take (i + 1)) = sumR p (xs.take i) + p (rowN xs i) := by
 rw [List.take_add_one, List.getElem?_eq_getElem h, sumR_append]
 simp [sumR, rowN_lt h]
theorem sumR_take_le (p : List D → Nat) {xs : List (List D)} {i : Nat} : sumR p (xs.take i) ≤ sumR p xs := by
 conv => rhs; rw [← List.take_append_drop i xs, sumR_append]
 omega
noncomputable def tt (p : Prop) : Bool := @decide p (Classical.propDecidable p)
@[simp] theorem tt_ok (p : Prop) : (tt p = true) = p := by simp [tt]
@[simp] theorem tt_no (p : Prop) : (tt p = false) = ¬ p := by simp [tt]
theorem decide_tt {p : Prop} {i : Decidable p} : @decide p i = tt p := by by_cases h : p <;> simp [h, tt]
@[simp] theorem tt_and (p q : Prop) : (tt p && tt q) = tt (p ∧ q) := by rw [Bool.eq_iff_iff]; simp
@[simp] theorem tt_not (p : Prop) : (!tt p) = tt (¬ p) := by rw [Bool.eq_iff_iff]; simp
@[simp] theorem tt_true : tt True = true := by simp
@[simp] theorem tt_false : tt False = false := by simp
@[simp] theorem tt_inj (p q : Prop) : (tt p = tt q) = (p ↔ q) := by rw [Bool.eq_iff_iff]; simp
theorem w64 {n : Int} (h : -9223372036854775808 ≤ n) (h' : n ≤ 9223372036854775807) : IntKind.i64.wrap n = n := by
 simp [IntKind.wrap, IntKind.bits, IntKind.signed]
 omega
theorem inR_i64 {n : Int} : inR .i64 n ↔ -9223372036854775808 ≤ n ∧ n ≤ 9223372036854775807 := by
 simp [inR, IntKind.min, IntKind.max, IntKind.bits, IntKind.signed]
section
variable {x y : Int}
@[simp] theorem intV_add {k : IntKind} : intV .add k x y = .int (k.wrap (x + y)) := rfl
@[simp] theorem intV_sub {k : IntKind} : intV .sub k x y = .int (k.wrap (x - y)) := rfl
@[simp] theorem intV_mul {k : IntKind} : intV .mul k x y = .int (k.wrap (x * y)) := rfl
@[simp] theorem intV_quo {k : IntKind} : intV .quo k x y = .int (k.wrap (x.tdiv y)) := rfl
@[simp] theorem intV_rem {k : IntKind} : intV .rem k x y = .int (x.tmod y) := rfl
@[simp] theorem intV_eql {k : IntKind} : intV .eql k x y = .bool (tt (x = y)) := by rw [← decide_tt]; rfl
@[simp] theorem intV_neq {k : IntKind} : intV .neq k x y = .bool (!tt (x = y)) := by rw [← decide_tt]; rfl
@[simp] theorem intV_lss {k : IntKind} : intV .lss k x y = .bool (tt (x < y)) := by rw [← decide_tt]; rfl
@[simp] theorem intV_leq {k : IntKind} : intV .leq k x y = .bool (tt (x ≤ y)) := by rw [← decide_tt]; rfl
@[simp] theorem intV_gtr {k : IntKind} : intV .gtr k x y = .bool (tt (y < x)) := by rw [← decide_tt]; rfl
@[simp] theorem intV_geq {k : IntKind} : intV .geq k x y = .bool (tt (y ≤ x)) := by rw [← decide_tt]; rfl
end
section
variable {x y : ByteArray}
@[simp] theorem strV_add : strV .add x y = .str (x ++ y) := rfl
@[simp] theorem strV_eql : strV .eql x y = .bool (tt (x = y)) := by rw [← decide_tt]; rfl
@[simp] theorem strV_neq : strV .neq x y = .bool (!tt (x = y)) := by rw [← decide_tt]; rfl
@[simp] theorem strV_lss : strV .lss x y = .bool (Op.bytesLess x.toList y.toList) := rfl
@[simp] theorem strV_geq : strV .geq x y = .bool (!Op.bytesLess x.toList y.toList) := rfl
end
@[simp] theorem D.row_sl (r : List D) : (D.sl [r]).row = r := rfl
theorem setB_same {B : Nat → List D → Prop} {l : Nat} {p : List D → Prop} : setB B l p l = p := by simp [setB]
theorem setB_ne {B : Nat → List D → Prop} {l j : Nat} {p : List D → Prop} (h : j ≠ l) : setB B l p j = B j := by simp [setB, h]
theorem eqD_int (k : IntKind) (d e : D) : eqD (.int k) d e = tt (d.asInt = e.asInt) := by rw [← decide_tt]; rfl
theorem eqD_bool (d e : D) : eqD .bool d e = (d.asBool == e.asBool) := rfl
theorem eqD_str (d e : D) : eqD .str d e = tt (d.asStr = e.asStr) := by rw [← decide_tt]; rfl
theorem eqD_sl (t : TypeId) (ks : List K) (d e : D) : eqD (.sl t ks) d e = eqR (eqDs ks) d.asList e.asList := rfl
end Go.Vx
namespace Go.Vx
open Go.RowKit (Below)
def cell (r : List D) (j : Nat) : D := r.getD j default
def rowAt (xs : List (List D)) (i : Int) : List D := rowN xs i.toNat
@[simp] theorem cell_tail (r : List D) (j : Nat) : cell r.tail j = cell r (j + 1) := by cases r <;> simp [cell]
@[simp] theorem cell_zero (d : D) (r : List D) : cell (d :: r) 0 = d := rfl
@[simp] theorem cell_succ (d : D) (r : List D) (j : Nat) : cell (d :: r) (j + 1) = cell r j := by simp [cell]
theorem headD_cell (r : List D) : r.headD default = cell r 0 := by cases r <;> rfl
section
variable {Φ : Fns} {env : List D}
@[simp] theorem den_var (i : Nat) : (E.var i).den Φ env = cell env i := rfl
@[simp] theorem den_int (n : Int) : (E.int n).den Φ env = .int n := rfl
@[simp] theorem den_bool (b : Bool) : (E.bool b).den Φ env = .bool b := rfl
@[simp] theorem den_str (s : ByteArray) : (E.str s).den Φ env = .str s := rfl
@[simp] theorem den_nl : E.nl.den Φ env = .sl [] := rfl
@[simp] theorem den_op (o : Opn) (es : List E) : (E.op o es).den Φ env = opD Φ o (E.dens Φ env es) := rfl
@[simp] theorem dens_nil : E.dens Φ env [] = [] := rfl
@[simp] theorem dens_cons (e : E) (es : List E) : E.dens Φ env (e :: es) = e.den Φ env :: E.dens Φ env es := rfl
section
variable (a b c : D)
@[simp] theorem op_bin (op : BinOp) (k : IntKind) : opD Φ (.bin op k) [a, b] = intV op k a.asInt b.asInt := rfl
@[simp] theorem op_sbin (op : BinOp) : opD Φ (.sbin op) [a, b] = strV op a.asStr b.asStr := rfl
@[simp] theorem op_beq : opD Φ .beq [a, b] = .bool (a.asBool == b.asBool) := rfl
@[simp] theorem op_bne : opD Φ .bne [a, b] = .bool (a.asBool != b.asBool) := rfl
@[simp] theorem op_not : opD Φ .not [a] = .bool (!a.asBool) := rfl
@[simp] theorem op_and : opD Φ .and [a, b] = .bool (a.asBool && b.asBool) := rfl
@[simp] theorem op_neg (k : IntKind) : opD Φ (.neg k) [a] = .int (k.wrap (0 - a.asInt)) := rfl
@[simp] theorem op_wrap (k : IntKind) : opD Φ (.wrap k) [a] = .int (k.wrap a.asInt) := rfl
@[simp] theorem op_shr (k : IntKind) : opD Φ (.shr k) [a, b] = .int (a.asInt.fdiv (2 ^ min b.asInt.toNat k.bits)) := rfl
@[simp] theorem op_sidx : opD Φ .sidx [a, b] = .int (a.asStr.toList.getD b.asInt.toNat 0).toNat := rfl
@[simp] theorem op_slen : opD Φ .slen [a] = .int a.asStr.size := rfl
@[simp] theorem op_len : opD Φ .len [a] = .int a.asList.length := rfl
@[simp] theorem op_ssub : opD Φ .ssub [a, b, c] = .str (a.asStr.extract b.asInt.toNat c.asInt.toNat) := rfl
@[simp] theorem op_ite : opD Φ .ite [a, b, c] = bif a.asBool then b else c := by show (if a.asBool = true then b else c) = _; cases a.asBool <;> rfl
@[simp] theorem op_row : opD Φ .row [a, b] = .sl [rowAt a.asList b.asInt] := rfl
@[simp] theorem op_fld (j : Nat) : opD Φ (.fld j) [a] = cell a.row j := rfl
@[simp] theorem op_mk (ds : List D) : opD Φ .mk ds = .sl [ds] := rfl
@[simp] theorem op_rput (j : Nat) (ds : List D) : opD Φ (.rput j) (a :: ds) = .sl [a.row.take j ++ ds ++ a.row.drop (j + ds.length)] := rfl
@[simp] theorem op_lset : opD Φ .lset [a, b, c] = .sl (a.asList.set b.asInt.toNat c.row) := rfl
@[simp] theorem op_lapp : opD Φ .lapp [a, b] = .sl (a.asList ++ b.asList) := rfl
@[simp] theorem op_cut : opD Φ .cut [a, b, c] = .sl ((a.asList.drop b.asInt.toNat).take c.asInt.toNat) := rfl
@[simp] theorem op_rep : opD Φ .rep [a, b] = .sl (List.replicate a.asInt.toNat b.row) := rfl
@[simp] theorem op_le : opD Φ .le [a, b] = .bool (tt (a.asInt ≤ b.asInt)) := by rw [← decide_tt]; rfl
@[simp] theorem op_lt : opD Φ .lt [a, b] = .bool (tt (a.asInt < b.asInt)) := by rw [← decide_tt]; rfl
@[simp] theorem op_nz : opD Φ .nz [a] = .bool (tt (a.asInt ≠ 0)) := by rw [← decide_tt]; rfl
@[simp] theorem op_eqi : opD Φ .eqi [a, b] = .bool (tt (a.asInt = b.asInt)) := by rw [← decide_tt]; rfl
@[simp] theorem op_strfit : opD Φ .strfit [a, b] = .bool (tt (a.asStr.size + b.asStr.size ≤ lenMax)) := by rw [← decide_tt]; rfl
@[simp] theorem op_appfit (m : Nat) : opD Φ (.appfit m) [a, b] = .bool (tt (a.asList.length + b.asList.length ≤ lenMax ∧ (a.asList.length + b.asList.length) * m ≤ 140737488355328)) := by rw [← decide_tt]; rfl
@[simp] theorem op_mkfit (m : Nat) : opD Φ (.mkfit m) [a] = .bool (tt (0 ≤ a.asInt ∧ a.asInt.toNat ≤ lenMax ∧ a.asInt.toNat * m ≤ 140737488355328)) := by rw [← decide_tt]; rfl
@[simp] theorem op_rowlen (n : Nat) : opD Φ (.rowlen n) [a] = .bool (tt (a.row.length = n)) := by rw [← decide_tt]; rfl
@[simp] theorem op_addn : opD Φ .addn [a, b] = .int ((a.asInt.toNat + b.asInt.toNat : Nat)) := rfl
@[simp] theorem op_subn : opD Φ .subn [a, b] = .int ((a.asInt.toNat - b.asInt.toNat : Nat)) := rfl
@[simp] theorem op_asl : opD Φ .asl [a] = .sl a.asList := rfl
@[simp] theorem op_ltlen : opD Φ .ltlen [a, b] = .bool (tt (a.asInt.toNat < b.asList.length)) := by rw [← decide_tt]; rfl
@[simp] theorem op_bstr : opD Φ .bstr [a] = .str (bytesOf a.asList) := rfl
@[simp] theorem op_fn (f j : Nat) (ds : List D) : opD Φ (.fn f j) ds = Φ f j ds := rfl
end
section
variable {post : List D → Prop} {B : Nat → List D → Prop}
@[simp] theorem conj_nil : conj Φ env [] = True := rfl
@[simp] theorem conj_cons (c : E) (cs : List E) : conj Φ env (c :: cs) = ((c.den Φ env).asBool = true ∧ conj Φ env cs) := rfl
@[simp] theorem kinds_nil (p : Prop) : kinds env [] p = p := rfl
@[simp] theorem kinds_cons (k : K) (i : Nat) (l : List (K × Nat)) (p : Prop) : kinds env ((k, i) :: l) p = (WFD k (cell env i) → kinds env l p) := rfl
@[simp] theorem wp_req' (cs : List E) (t : VC) : (VC.req cs t).wp Φ post env B = (conj Φ env cs ∧ t.wp Φ post env B) := rfl
@[simp] theorem wp_ite' (c : E) (x y : VC) : (VC.ite c x y).wp Φ post env B = (((c.den Φ env).asBool = true → x.wp Φ post env B) ∧ ((c.den Φ env).asBool = false → y.wp Φ post env B)) := rfl
@[simp] theorem wp_back' (l : Nat) (es : List E) : (VC.back l es).wp Φ post env B = B l (es.map (E.den Φ env)) := rfl
@[simp] theorem wp_ret' (es : List E) : (VC.ret es).wp Φ post env B = post (es.map (E.den Φ env)) := rfl
theorem wp_loop' {id l m : Nat} {fs : List (K × Nat)} {init : List E} {body : VC} (I : List D → Prop) (μ : List D → Nat) (h0 : I (init.map (E.den Φ env)))
   (hI : allN m fun vs => kinds (env ++ vs) fs (I vs → body.wp Φ post (env ++ vs) (setB B l fun v => I v ∧ μ v < μ vs))) : (VC.loop id l m fs init body).wp Φ post env B := ⟨I, μ, h0, hI⟩
end
end
@[simp] theorem allN_zero (p : List D → Prop) : allN 0 p = p [] := rfl
@[simp] theorem allN_succ (n : Nat) (p : List D → Prop) : allN (n + 1) p = ∀ d : D, allN n fun l => p (d :: l) := rfl
@[simp] theorem setB_eq (B : Nat → List D → Prop) (l : Nat) (p : List D → Prop) : setB B l p l = p := setB_same
@[simp] theorem WFD_int (k : IntKind) (d : D) : WFD (.int k) d = inR k d.asInt := rfl
@[simp] theorem WFD_bool (d : D) : WFD .bool d = True := rfl
@[simp] theorem WFD_str (d : D) : WFD .str d = (d.asStr.size ≤ lenMax) := rfl
@[simp] theorem WFD_sl (e : TypeId) (ks : List K) (d : D) : WFD (.sl e ks) d = (d.asList.length ≤ lenMax) := rfl
@[simp] theorem WFa_int (k : IntKind) (d : D) : WFa (.int k) d = inR k d.asInt := rfl
@[simp] theorem WFa_bool (d : D) : WFa .bool d = True := rfl
@[simp] theorem WFa_str (d : D) : WFa .str d = (d.asStr.size ≤ lenMax) := rfl
@[simp] theorem WFa_sl (e : TypeId) (ks : List K) (d : D) : WFa (.sl e ks) d = (d.asList.length ≤ lenMax ∧ ∀ row, row ∈ d.asList → WFas ks row) := rfl
@[simp] theorem WFas_nil (r : List D) : WFas [] r = True := rfl
@[simp] theorem WFas_cons (k : K) (ks : List K) (r : List D) : WFas (k :: ks) r = (WFa k (cell r 0) ∧ WFas ks r.tail) := by rw [WFas, headD_cell]
@[simp] theorem WFA_one (k : K) (d : D) : WFA (.one k) d = WFa k d := rfl
@[simp] theorem WFA_agg (ks : List K) (d : D) : WFA (.agg ks) d = WFas ks d.row := rfl
@[simp] theorem WFA_pim (ks : List K) (d : D) : WFA (.pim ks) d = WFas ks d.row := rfl
@[simp] theorem WFAs_nil (ds : List D) : WFAs [] ds = True := rfl
@[simp] theorem WFAs_cons (s : ASh) (ss : List ASh) (d : D) (ds : List D) : WFAs (s :: ss) (d :: ds) = (WFA s d ∧ WFAs ss ds) := rfl
theorem szDs_nil (r : List D) : szDs [] r = 0 := rfl
theorem szDs_cons (k : K) (ks : List K) (r : List D) : szDs (k :: ks) r = szD k (cell r 0) + szDs ks r.tail := by rw [szDs, headD_cell]
theorem cnDs_nil (r : List D) : cnDs [] r = [] := rfl
theorem cnDs_cons (k : K) (ks : List K) (r : List D) : cnDs (k :: ks) r = cnD k (cell r 0) :: cnDs ks r.tail := by rw [cnDs, headD_cell]
theorem eqDs_nil (r s : List D) : eqDs [] r s = true := rfl
theorem eqDs_cons (k : K) (ks : List K) (r s : List D) : eqDs (k :: ks) r s = (eqD k (cell r 0) (cell s 0) && eqDs ks r.tail s.tail) := by rw [eqDs, headD_cell, headD_cell]
@[simp] theorem retDs_nil (φ : Nat → D) (c : Nat) : retDs φ c [] = [] := rfl
@[simp] theorem retDs_cons (φ : Nat → D) (c : Nat) (r : RSh) (rs : List RSh) : retDs φ c (r :: rs) = r.ds (φ c) ++ retDs φ (c + 1) rs := rfl
def cellsOf : Nat → Nat → List D → List D
 | 0, _, _ => []
 | n + 1, j, r => cell r j :: cellsOf n (j + 1) r
theorem range'_map (r : List D) : ∀ n j, (List.range' j n).map (fun i => r.getD i default) = cellsOf n j r
 | 0, j => rfl
 | n + 1, j => by rw [List.range'_succ, List.map_cons, range'_map r n (j + 1)]; rfl
@[simp] theorem ds_one (c : RC) (d : D) : (RSh.one c).ds d = [d] := rfl
@[simp] theorem ds_agg (cs : List RC) (d : D) : (RSh.agg cs).ds d = cellsOf cs.length 0 d.row := by
 show (List.range cs.length).map (fun j => d.row.getD j default) = _
 rw [List.range_eq_range', range'_map]
@[simp] theorem cellsOf_zero (j : Nat) (r : List D) : cellsOf 0 j r = [] := rfl
@[simp] theorem cellsOf_succ (n j : Nat) (r : List D) : cellsOf (n + 1) j r = cell r j :: cellsOf n (j + 1) r := rfl
theorem args1 {p : List D → Prop} (h : ∀ a, p [a]) : ∀ ds : List D, ds.length = 1 → p ds
 | [a], _ => h a
theorem args2 {p : List D → Prop} (h : ∀ a b, p [a, b]) : ∀ ds : List D, ds.length = 2 → p ds
 | [a, b], _ => h a b
theorem args3 {p : List D → Prop} (h : ∀ a b c, p [a, b, c]) : ∀ ds : List D, ds.length = 3 → p ds
 | [a, b, c], _ => h a b c
noncomputable def con (pre : List D → Prop) (f : Nat → List D → D) (c : Nat) (ds : List D) : D := if c = 1000 then .bool (tt (pre ds)) else f c ds
@[simp] theorem con_ok (pre : List D → Prop) (f : Nat → List D → D) (ds : List D) : ((con pre f 1000 ds).asBool = true) = pre ds := by simp [con]
@[simp] theorem con_asBool (pre : List D → Prop) (f : Nat → List D → D) (ds : List D) : (con pre f 1000 ds).asBool = tt (pre ds) := rfl
@[simp] theorem con_zero (pre : List D → Prop) (f : Nat → List D → D) (ds : List D) : con pre f 0 ds = f 0 ds := rfl
@[simp] theorem con_one (pre : List D → Prop) (f : Nat → List D → D) (ds : List D) : con pre f 1 ds = f 1 ds := rfl
@[simp] theorem asBool_cond (c : Bool) (x y : D) : (bif c then x else y).asBool = bif c then x.asBool else y.asBool := by cases c <;> rfl
@[simp] theorem asInt_cond (c : Bool) (x y : D) : (bif c then x else y).asInt = bif c then x.asInt else y.asInt := by cases c <;> rfl
@[simp] theorem asStr_cond (c : Bool) (x y : D) : (bif c then x else y).asStr = bif c then x.asStr else y.asStr := by cases c <;> rfl
@[simp] theorem asList_cond (c : Bool) (x y : D) : (bif c then x else y).asList = bif c then x.asList else y.asList := by cases c <;> rfl
@[simp] theorem bool_cond (c : Bool) (x y : Bool) : (bif c then D.bool x else D.bool y) = D.bool (bif c then x else y) := by cases c <;> rfl
@[simp] theorem int_cond (c : Bool) (x y : Int) : (bif c then D.int x else D.int y) = D.int (bif c then x else y) := by cases c <;> rfl
theorem cond_ok (c x y : Bool) : ((bif c then x else y) = true) = ((c = true → x = true) ∧ (c = false → y = true)) := by cases c <;> simp
@[simp] theorem cond_true_right (c x : Bool) : (bif c then x else true) = (!c || x) := by cases c <;> rfl
@[simp] theorem cond_false_right (c x : Bool) : (bif c then x else false) = (c && x) := by cases c <;> rfl
@[simp] theorem cond_true_left (c x : Bool) : (bif c then true else x) = (c || x) := by cases c <;> rfl
@[simp] theorem cond_false_left (c x : Bool) : (bif c then false else x) = (!c && x) := by cases c <;> rfl
@[simp] theorem eqRets_nil (ds ds' : List D) : eqRets [] ds ds' = True := rfl
@[simp] theorem eqRets_cons (c : RC) (cs : List RC) (a b : D) (ds ds' : List D) : eqRets (c :: cs) (a :: ds) (b :: ds') = (eqRC c a b ∧ eqRets cs ds ds') := rfl
@[simp] theorem eqRC_im (k : K) (a b : D) : eqRC (.im k) a b = eqK k a b := rfl
@[simp] theorem eqRC_own (e : TypeId) (ks : List K) (dp : Bool) (a b : D) : eqRC (.own e ks dp) a b = (a.asList = b.asList) := rfl
@[simp] theorem eqK_int (k : IntKind) (a b : D) : eqK (.int k) a b = (a.asInt = b.asInt) := rfl
@[simp] theorem eqK_bool (a b : D) : eqK .bool a b = (a.asBool = b.asBool) := rfl
@[simp] theorem eqK_str (a b : D) : eqK .str a b = (a.asStr = b.asStr) := rfl
@[simp] theorem eqK_sl (e : TypeId) (ks : List K) (a b : D) : eqK (.sl e ks) a b = (a.asList = b.asList) := rfl
end Go.Vx
namespace Go.Vx
open Go.RowKit (Below)
theorem cnDs_length : ∀ (ks : List K) (r : List D), (cnDs ks r).length = ks.length
 | [], _ => rfl
 | k :: ks, r => by simp [cnDs, cnDs_length ks]
theorem rowAt_nat (xs : List (List D)) (i : Nat) : rowAt xs (i : Int) = rowN xs i := by simp [rowAt]
def mkE (x i : E) : E := .op .row [x, i]
section
variable {Φ : Fns} {env : List D}
@[simp] theorem mkE_den (x i : E) : (mkE x i).den Φ env = .sl [rowAt (x.den Φ env).asList (i.den Φ env).asInt] := rfl
end
theorem conj_append {Φ : Fns} {env : List D} : ∀ (cs ds : List E), conj Φ env (cs ++ ds) = (conj Φ env cs ∧ conj Φ env ds)
 | [], ds => by simp
 | c :: cs, ds => by simp [conj_append cs ds, and_assoc]
def szM (n : Nat) (l : Int) : Int := if l < n then -1 else l - n
theorem szM_neg {n : Nat} {l : Int} (h : l < n) : szM n l = -1 := if_pos h
theorem szM_pos {n : Nat} {l : Int} (h : (n : Int) ≤ l) : szM n l = l - n := if_neg (by omega)
def szPre (ds : List D) : Prop := 0 ≤ (cell ds 1).asInt ∧ (cell ds 1).asInt ≤ 1048576
noncomputable def mSzA (ks : List K) : Nat → List D → D := con szPre fun _ ds => .int (szM (szDs ks (cell ds 0).row) (cell ds 1).asInt)
noncomputable def mSzL (ks : List K) : Nat → List D → D := con szPre fun _ ds => .int (szM ((cell ds 0).asList.length + sumR (szDs ks) (cell ds 0).asList) (cell ds 1).asInt)
def szV (c : Nat) : VC := .ite (.op (.bin .lss .i64) [.op (.bin .sub .i64) [.var 1, .op .len [.var 0]], .int 0]) (.ret [.int (-1)])
 (.loop 5 0 2 [(.int .i64, 2), (.int .i64, 3)] [.op (.bin .sub .i64) [.var 1, .op .len [.var 0]], .int 0]
   (.ite (.op (.bin .lss .i64) [.var 3, .op .len [.var 0]])
     (.req [.op .le [.int 0, .var 3], .op .lt [.var 3, .op .len [.var 0]], .op (.fn c 1000) [mkE (.var 0) (.var 3), .var 2]]
       (.ite (.op (.bin .lss .i64) [.op (.fn c 0) [mkE (.var 0) (.var 3), .var 2], .int 0]) (.ret [.int (-1)])
         (.back 0 [.op (.fn c 0) [mkE (.var 0) (.var 3), .var 2], .op (.bin .add .i64) [.var 3, .int 1]])))
     (.ret [.var 2])))
theorem szV_wp {Φ : Fns} {c : Nat} {ks : List K} (hΦ : Φ c = mSzA ks) {a b : D} (ha : a.asList.length ≤ lenMax) (hb : 0 ≤ b.asInt ∧ b.asInt ≤ 1048576) (B : Nat → List D → Prop) :
   (szV c).wp Φ (fun l => l = [.int (szM (a.asList.length + sumR (szDs ks) a.asList) b.asInt)]) [a, b] B := by
 have hl : (a.asList.length : Int) ≤ 140737488355328 := by simp only [lenMax] at ha; omega
 have w1 : IntKind.i64.wrap (b.asInt - a.asList.length) = b.asInt - a.asList.length := w64 (by omega) (by omega)
 simp only [szV, wp_ite', den_op, dens_cons, dens_nil, den_var, op_bin, op_len, intV_sub, intV_lss, den_int, D.asInt_int, D.asBool_bool, tt_ok, tt_no, cell_zero, cell_succ, w1]
 refine ⟨fun h => ?_, fun h => ?_⟩
 · simp [szM]
   omega
 · refine wp_loop' (fun v => ∃ i : Nat, v = [.int (b.asInt - a.asList.length - sumR (szDs ks) (a.asList.take i)), .int i] ∧ i ≤ a.asList.length ∧ 0 ≤ b.asInt - a.asList.length - sumR (szDs ks) (a.asList.take i))
     (fun v => a.asList.length - (cell v 1).asInt.toNat) ⟨0, by simp [sumR, w1], by omega, by simp [sumR]; omega⟩ ?_
   simp
   intro d e _ _ i hd he hi hnn
   subst hd he
   have hsm := sumR_take_le (szDs ks) (xs := a.asList) (i := i)
   refine ⟨fun hlt => ?_, fun hge => ?_⟩
   · have hlt' : i < a.asList.length := by simpa using hlt
     simp [hΦ, mSzA, szPre, rowAt_nat]
     have hst := sumR_take (szDs ks) hlt'
     refine ⟨⟨by omega, by omega, by omega⟩, fun h1 => ?_, fun h1 => ?_⟩
     · have hs2 := sumR_take_le (szDs ks) (xs := a.asList) (i := i + 1)
       simp only [szM] at h1 ⊢
       split at h1 <;> split <;> omega
     · simp only [szM] at h1 ⊢
       split at h1
       · omega
       · rename_i h2
         refine ⟨⟨i + 1, ⟨?_, ?_⟩, by omega, ?_⟩, ?_⟩
         · rw [if_neg h2, hst]; simp only [Int.natCast_add]; omega
         · rw [w64 (by omega) (by omega)]; simp
         · rw [hst]; simp only [Int.natCast_add]; omega
         · rw [w64 (by omega) (by omega)]; omega
   · have hi' : i = a.asList.length := by simp at hge; omega
     subst hi'
     simp [szM] at hnn ⊢
     omega
inductive St1 where
 | s (e : E)
 | l (e : E)
 | c (f : Nat) (e : E)
def szSV : List St1 → E → VC
 | [], L => .ret [L]
 | .s e :: st, L => .ite (.op (.bin .lss .i64) [.op (.bin .sub .i64) [L, .op .slen [e]], .int 0]) (.ret [.int (-1)]) (szSV st (.op (.bin .sub .i64) [L, .op .slen [e]]))
 | .l e :: st, L => .ite (.op (.bin .lss .i64) [.op (.bin .sub .i64) [L, .op .len [e]], .int 0]) (.ret [.int (-1)]) (szSV st (.op (.bin .sub .i64) [L, .op .len [e]]))
 | .c f e :: st, L => .req [.op (.fn f 1000) [e, L]] (.ite (.op (.bin .lss .i64) [.op (.fn f 0) [e, L], .int 0]) (.ret [.int (-1)]) (szSV st (.op (.fn f 0) [e, L])))
def stOk (Φ : Fns) (env : List D) : List St1 → List Nat → Prop
 | [], [] => True
 | .s e :: st, n :: ns => ((e.den Φ env).asStr.size = n ∧ n ≤ lenMax) ∧ stOk Φ env st ns
 | .l e :: st, n :: ns => ((e.den Φ env).asList.length = n ∧ n ≤ lenMax) ∧ stOk Φ env st ns
 | .c f e :: st, n :: ns => (∀ d : D, 0 ≤ d.asInt → d.asInt ≤ 1048576 → (Φ f 1000 [e.den Φ env, d]).asBool = true ∧ Φ f 0 [e.den Φ env, d] = .int (szM n d.asInt)) ∧ stOk Φ env st ns
 | _, _ => False
def sumN : List Nat → Nat
 | [] => 0
 | n :: ns => n + sumN ns
theorem szSV_wp {Φ : Fns} {env : List D} {B : Nat → List D → Prop} : ∀ (st : List St1) (ns : List Nat) (L : E) (l : Int), stOk Φ env st ns → (L.den Φ env).asInt = l → (st = [] → L.den Φ env = .int l) → 0 ≤ l → l ≤ 1048576 →
   (szSV st L).wp Φ (fun r => r = [.int (szM (sumN ns) l)]) env B
 | [], [], L, l, _, _, h, h0, _ => by
   simp only [szSV, wp_ret', List.map_cons, List.map_nil, h rfl, sumN]
   rw [szM_pos (by simpa using h0)]; simp
 | [], _ :: _, _, _, h, _, _, _, _ => h.elim
 | .s _ :: _, [], _, _, h, _, _, _, _ => h.elim
 | .l _ :: _, [], _, _, h, _, _, _, _ => h.elim
 | .c _ _ :: _, [], _, _, h, _, _, _, _ => h.elim
 | .s e :: st, n :: ns, L, l, h, hL, _, h0, h1 => by
   obtain ⟨⟨rfl, hm⟩, h⟩ := h
   have hm' : ((e.den Φ env).asStr.size : Int) ≤ 140737488355328 := by simp only [lenMax] at hm; omega
   have hw : IntKind.i64.wrap (l - (e.den Φ env).asStr.size) = l - (e.den Φ env).asStr.size := w64 (by omega) (by omega)
   simp only [szSV, wp_ite', den_op, dens_cons, dens_nil, op_bin, op_slen, intV_sub, intV_lss, den_int, D.asInt_int, D.asBool_bool, tt_ok, tt_no, hL, hw]
   refine ⟨fun hn => ?_, fun hn => ?_⟩
   · simp only [wp_ret', List.map_cons, List.map_nil, den_int, sumN]
     rw [szM_neg (by simp only [Int.natCast_add]; omega)]
   · have := szSV_wp (Φ := Φ) (env := env) (B := B) st ns (.op (.bin .sub .i64) [L, .op .slen [e]]) (l - (e.den Φ env).asStr.size) h (by simp [hL, hw]) (fun _ => by simp [hL, hw]) (by omega) (by omega)
     have e1 : szM (sumN ((e.den Φ env).asStr.size :: ns)) l = szM (sumN ns) (l - (e.den Φ env).asStr.size) := by
       rw [show sumN ((e.den Φ env).asStr.size :: ns) = (e.den Φ env).asStr.size + sumN ns from rfl]
       unfold szM
       split <;> split <;> omega
     rw [e1]
     exact this
 | .l e :: st, n :: ns, L, l, h, hL, _, h0, h1 => by
   obtain ⟨⟨rfl, hm⟩, h⟩ := h
   have hm' : ((e.den Φ env).asList.length : Int) ≤ 140737488355328 := by simp only [lenMax] at hm; omega
   have hw : IntKind.i64.wrap (l - (e.den Φ env).asList.length) = l - (e.den Φ env).asList.length := w64 (by omega) (by omega)
   simp only [szSV, wp_ite', den_op, dens_cons, dens_nil, op_bin, op_len, intV_sub, intV_lss, den_int, D.asInt_int, D.asBool_bool, tt_ok, tt_no, hL, hw]
   refine ⟨fun hn => ?_, fun hn => ?_⟩
   · simp only [wp_ret', List.map_cons, List.map_nil, den_int, sumN]
     rw [szM_neg (by simp only [Int.natCast_add]; omega)]
   · have := szSV_wp (Φ := Φ) (env := env) (B := B) st ns (.op (.bin .sub .i64) [L, .op .len [e]]) (l - (e.den Φ env).asList.length) h (by simp [hL, hw]) (fun _ => by simp [hL, hw]) (by omega) (by omega)
     have e1 : szM (sumN ((e.den Φ env).asList.length :: ns)) l = szM (sumN ns) (l - (e.den Φ env).asList.length) := by
       rw [show sumN ((e.den Φ env).asList.length :: ns) = (e.den Φ env).asList.length + sumN ns from rfl]
       unfold szM
       split <;> split <;> omega
     rw [e1]
     exact this
 | .c f e :: st, n :: ns, L, l, h, hL, _, h0, h1 => by
   obtain ⟨hf, h⟩ := h
   obtain ⟨f1, f2⟩ := hf (L.den Φ env) (by omega) (by omega)
   rw [hL] at f2
   simp only [szSV, wp_req', wp_ite', conj_cons, conj_nil, den_op, dens_cons, dens_nil, op_bin, op_fn, intV_lss, den_int, D.asInt_int, D.asBool_bool, tt_ok, tt_no, f1, f2, and_true, true_and]
   refine ⟨fun hn => ?_, fun hn => ?_⟩
   · have hn' : l < n := by
       rcases Int.lt_or_le l n with h' | h'
       · exact h'
       · rw [szM_pos h'] at hn; omega
     simp only [wp_ret', List.map_cons, List.map_nil, den_int, sumN]
     rw [szM_neg (by simp only [Int.natCast_add]; omega)]
   · have hn' : szM n l = l - n := by
       rcases Int.lt_or_le l n with h' | h'
       · rw [szM_neg h'] at hn; omega
       · exact szM_pos h'
     have := szSV_wp (Φ := Φ) (env := env) (B := B) st ns (.op (.fn f 0) [e, L]) (l - n) h (by simp [f2, hn']) (fun _ => by simp [f2, hn']) (by rw [hn'] at hn; omega) (by omega)
     have e1 : szM (sumN (n :: ns)) l = szM (sumN ns) (l - n) := by
       rw [hn'] at hn
       rw [show sumN (n :: ns) = n + sumN ns from rfl]
       unfold szM
       split <;> split <;> omega
     rw [e1]
     exact this
noncomputable def mEqA (ks : List K) : Nat → List D → D := con (fun _ => True) fun _ ds => .bool (eqDs ks (cell ds 0).row (cell ds 1).row)
noncomputable def mEqL (ks : List K) : Nat → List D → D := con (fun _ => True) fun _ ds => .bool (eqR (eqDs ks) (cell ds 0).asList (cell ds 1).asList)
theorem eqR_len {p : List D → List D → Bool} : ∀ {xs ys : List (List D)}, xs.length ≠ ys.length → eqR p xs ys = false
 | [], [], h => by simp at h
 | [], _ :: _, _ => rfl
 | _ :: _, [], _ => rfl
 | x :: xs, y :: ys, h => by simp [eqR, eqR_len (p := p) (xs := xs) (ys := ys) (by simpa using h)]
theorem eqR_take {p : List D → List D → Bool} : ∀ {xs ys : List (List D)} {i : Nat}, i < xs.length → i < ys.length → eqR p (xs.take (i + 1)) (ys.take (i + 1)) = (eqR p (xs.take i) (ys.take i) && p (rowN xs i) (rowN ys i))
 | x :: xs, y :: ys, 0, _, _ => by simp [eqR]
 | x :: xs, y :: ys, i + 1, h, h' => by
   have := eqR_take (p := p) (xs := xs) (ys := ys) (i := i) (by simpa using h) (by simpa using h')
   simp only [List.take_succ_cons, eqR] at this ⊢
   rw [this, Bool.and_assoc]
   simp
theorem eqR_false {p : List D → List D → Bool} : ∀ {xs ys : List (List D)} {i : Nat}, i < xs.length → i < ys.length → p (rowN xs i) (rowN ys i) = false → eqR p xs ys = false
 | x :: xs, y :: ys, 0, _, _, h => by simp at h; simp [eqR, h]
 | x :: xs, y :: ys, i + 1, h, h', hp => by
   simp [eqR, eqR_false (p := p) (xs := xs) (ys := ys) (i := i) (by simpa using h) (by simpa using h') (by simpa using hp)]
def eqV' (tests : List E) (t : E) : VC := .ite (.op (.bin .neq .i64) [.op .len [.var 0], .op .len [.var 1]]) (.ret [.bool false])
 (.loop 4 0 1 [(.int .i64, 2)] [.int 0] (.ite (.op (.bin .lss .i64) [.var 2, .op .len [.var 0]])
   (.req ([.op .le [.int 0, .var 2], .op .lt [.var 2, .op .len [.var 0]], .op .lt [.var 2, .op .len [.var 1]]] ++ tests)
     (.ite t (.ret [.bool false]) (.back 0 [.op (.bin .add .i64) [.var 2, .int 1]])))
   (.ret [.bool true])))
def eqV (tests : List E) (t : E) : VC := eqV' tests (.op .not [t])
theorem eqV'_wp {Φ : Fns} {tests : List E} {t : E} {p : List D → List D → Bool} {a b : D} (ha : a.asList.length ≤ lenMax)
   (ht : ∀ i : Nat, i < a.asList.length → i < b.asList.length → conj Φ [a, b, .int i] tests ∧ (t.den Φ [a, b, .int i]).asBool = !p (rowN a.asList i) (rowN b.asList i)) (B : Nat → List D → Prop) :
   (eqV' tests t).wp Φ (fun l => l = [.bool (eqR p a.asList b.asList)]) [a, b] B := by
 have hl : (a.asList.length : Int) ≤ 140737488355328 := by simp only [lenMax] at ha; omega
 simp only [eqV', wp_ite', den_op, dens_cons, dens_nil, den_var, op_bin, op_len, intV_neq, D.asInt_int, D.asBool_bool, cell_zero, cell_succ]
 refine ⟨fun h => ?_, fun h => ?_⟩
 · simp at h ⊢
   exact eqR_len fun e => h (by rw [e])
 · have hlen : a.asList.length = b.asList.length := by simp at h; omega
   refine wp_loop' (fun v => ∃ i : Nat, v = [.int i] ∧ i ≤ a.asList.length ∧ eqR p (a.asList.take i) (b.asList.take i) = true) (fun v => a.asList.length - (cell v 0).asInt.toNat) ⟨0, by simp, by omega, by simp [eqR]⟩ ?_
   simp only [allN_succ, allN_zero, kinds_cons, kinds_nil, List.cons_append, List.nil_append]
   rintro d _ ⟨i, hd, hi, he⟩
   simp only [List.cons.injEq, and_true] at hd
   subst hd
   simp only [wp_ite', den_op, dens_cons, dens_nil, den_var, op_bin, op_len, intV_lss, D.asInt_int, D.asBool_bool, cell_zero, cell_succ, tt_ok, tt_no]
   refine ⟨fun hlt => ?_, fun hge => ?_⟩
   · have hlt' : i < a.asList.length := by omega
     obtain ⟨t1, t2⟩ := ht i hlt' (by omega)
     simp only [wp_req', conj_cons, den_op, dens_cons, dens_nil, den_var, den_int, op_le, op_lt, op_len, D.asInt_int, D.asBool_bool, cell_zero, cell_succ, tt_ok]
     refine ⟨⟨by omega, by omega, by omega, t1⟩, ?_⟩
     simp only [wp_ite', t2]
     refine ⟨fun hp => ?_, fun hp => ?_⟩
     · have : p (rowN a.asList i) (rowN b.asList i) = false := by simpa using hp
       simp [eqR_false hlt' (by omega) this]
     · have hp' : p (rowN a.asList i) (rowN b.asList i) = true := by simpa using hp
       simp only [wp_back', List.map_cons, List.map_nil, den_op, dens_cons, dens_nil, den_var, den_int, op_bin, intV_add, D.asInt_int, cell_zero, cell_succ, setB_eq]
       rw [w64 (by omega) (by omega)]
       refine ⟨⟨i + 1, by simp, by omega, ?_⟩, ?_⟩
       · rw [eqR_take hlt' (by omega), he, hp']; rfl
       · simp; omega
   · have hi' : i = a.asList.length := by omega
     subst hi'
     rw [List.take_length, hlen, List.take_length] at he
     simp [he]
theorem eqV_wp {Φ : Fns} {tests : List E} {t : E} {p : List D → List D → Bool} {a b : D} (ha : a.asList.length ≤ lenMax)
   (ht : ∀ i : Nat, i < a.asList.length → i < b.asList.length → conj Φ [a, b, .int i] tests ∧ (t.den Φ [a, b, .int i]).asBool = p (rowN a.asList i) (rowN b.asList i)) (B : Nat → List D → Prop) :
   (eqV tests t).wp Φ (fun l => l = [.bool (eqR p a.asList b.asList)]) [a, b] B :=
 eqV'_wp ha (fun i h1 h2 => ⟨(ht i h1 h2).1, by simp [(ht i h1 h2).2]⟩) B
def toPre (ks : List K) (ds : List D) : Prop := szDs ks (cell ds 0).row ≤ 1048576
def toPreL (ks : List K) (ds : List D) : Prop := (cell ds 0).asList.length + sumR (szDs ks) (cell ds 0).asList ≤ 1048576
noncomputable def mToA (ks : List K) : Nat → List D → D := con (toPre ks) fun _ ds => .sl [cnDs ks (cell ds 0).row]
noncomputable def mToL (ks : List K) : Nat → List D → D := con (toPreL ks) fun _ ds => .sl ((cell ds 0).asList.map (cnDs ks))
def zeroE : K → E
 | .int _ => .int 0
 | .bool => .bool false
 | .str => .str ⟨#[]⟩
 | .sl _ _ => .nl
def outE (e : E) : Nat → List K → List E
 | _, [] => []
 | j, .sl _ _ :: ks => .op .asl [.op (.fld j) [e]] :: outE e (j + 1) ks
 | j, _ :: ks => .op (.fld j) [e] :: outE e (j + 1) ks
def toV' (tests : List E) (src : E) (bytes tid : Nat) (ks : List K) : VC := .req [.op (.mkfit bytes) [.op .len [.var 0]]]
 (.loop 3 0 2 [(.int .i64, 1), (.sl tid ks, 2)] [.int 0, .op .rep [.op .len [.var 0], .op .mk (ks.map zeroE)]]
   (.ite (.op (.bin .lss .i64) [.var 1, .op .len [.var 0]])
     (.req ([.op .le [.int 0, .var 1], .op .lt [.var 1, .op .len [.var 0]]] ++ (tests ++ [.op .lt [.var 1, .op .len [.var 2]], .op .ltlen [.var 1, .var 2],
         .op (.rowlen ks.length) [.op .row [.var 2, .var 1]]]))
       (.back 0 [.op (.bin .add .i64) [.var 1, .int 1], .op .lset [.var 2, .var 1, .op (.rput 0) (.op .row [.var 2, .var 1] :: outE src 0 ks)]]))
     (.ret [.var 2])))
def toV (c bytes tid : Nat) (ks : List K) : VC := toV' [.op (.fn c 1000) [mkE (.var 0) (.var 1)]] (.op (.fn c 0) [mkE (.var 0) (.var 1)]) bytes tid ks
theorem outE_den {Φ : Fns} {env : List D} (e : E) (l : List K) : ∀ (ks : List K) (j : Nat) (r : List D), (∀ i, i < ks.length → cell (e.den Φ env).row (j + i) = cell (cnDs ks r) i) → E.dens Φ env (outE e j ks) = cnDs ks r
 | [], j, r, h => by simp [outE, cnDs]
 | k :: ks, j, r, h => by
   have ih := outE_den e l ks (j + 1) r.tail fun i hi => by
     have := h (i + 1) (by simpa using hi)
     rw [cnDs, cell_succ] at this
     rw [← this]
     congr 1
     omega
   have h0 : cell (e.den Φ env).row j = cnD k (r.headD default) := by simpa [cnDs] using h 0 (by simp)
   cases k <;> simp only [outE, dens_cons, den_op, dens_nil, op_fld, op_asl, h0, ih, cnDs, cnD, D.asList_sl]
theorem dens_zero {Φ : Fns} {env : List D} : ∀ (ks : List K), (E.dens Φ env (ks.map zeroE)).length = ks.length
 | [] => rfl
 | k :: ks => by simp [dens_zero ks]
theorem toV'_wp {Φ : Fns} {tests : List E} {src : E} {bytes tid : Nat} {ks ks' : List K} (hbytes : bytes ≤ 1000) (hlen : ks'.length = ks.length) (hcn : ∀ r, cnDs ks' r = cnDs ks r) {a : D}
   (ht : ∀ (i : Nat) (x : D), i < a.asList.length → conj Φ [a, .int i, x] tests ∧ ∀ j, j < ks.length → cell (src.den Φ [a, .int i, x]).row j = cell (cnDs ks (rowN a.asList i)) j)
   (ha : a.asList.length + sumR (szDs ks) a.asList ≤ 1048576) (B : Nat → List D → Prop) : (toV' tests src bytes tid ks').wp Φ (fun l => l = [.sl (a.asList.map (cnDs ks))]) [a] B := by
 have hb : a.asList.length * bytes ≤ 1048576 * 1000 := Nat.mul_le_mul (by omega) hbytes
 rw [toV', wp_req']
 refine ⟨by simp [lenMax]; omega, ?_⟩
 let z : List D := E.dens Φ [a] (ks'.map zeroE)
 have hz : z.length = ks'.length := dens_zero ks'
 refine wp_loop' (fun v => ∃ i : Nat, v = [.int i, .sl ((a.asList.take i).map (cnDs ks) ++ List.replicate (a.asList.length - i) z)] ∧ i ≤ a.asList.length) (fun v => a.asList.length - (cell v 0).asInt.toNat)
   ⟨0, by simp [z], by omega⟩ ?_
 simp only [allN_succ, allN_zero, kinds_cons, kinds_nil, List.cons_append, List.nil_append]
 rintro d e _ _ ⟨i, hd, hi⟩
 simp only [List.cons.injEq, and_true] at hd
 obtain ⟨rfl, rfl⟩ := hd
 simp only [wp_ite', den_op, dens_cons, dens_nil, den_var, op_bin, op_len, intV_lss, D.asInt_int, D.asBool_bool, cell_zero, cell_succ, tt_ok, tt_no]
 refine ⟨fun hlt => ?_, fun hge => ?_⟩
 · have hlt' : i < a.asList.length := by omega
   have hsum : szDs ks (rowN a.asList i) ≤ sumR (szDs ks) a.asList := by
     have h1 := sumR_take (szDs ks) hlt'
     have h2 := sumR_take_le (szDs ks) (xs := a.asList) (i := i + 1)
     omega
   have hll : ((a.asList.take i).map (cnDs ks) ++ List.replicate (a.asList.length - i) z).length = a.asList.length := by simp; omega
   have e5 : a.asList.length - i = (a.asList.length - (i + 1)) + 1 := by omega
   have e4 : i - ((a.asList.take i).map (cnDs ks)).length = 0 := by simp; omega
   have hrow : rowAt ((a.asList.take i).map (cnDs ks) ++ List.replicate (a.asList.length - i) z) (i : Int) = z := by
     rw [rowAt_nat, rowN, List.getD_eq_getElem?_getD, List.getElem?_append_right (by simp; omega), e4, e5, List.replicate_succ]
     rfl
   obtain ⟨t1, t2⟩ := ht i (.sl ((a.asList.take i).map (cnDs ks) ++ List.replicate (a.asList.length - i) z)) hlt'
   rw [wp_req', conj_cons, conj_cons, conj_append]
   constructor
   · refine ⟨?_, ?_, t1, ?_⟩ <;> simp only [conj_cons, conj_nil, den_op, dens_cons, dens_nil, den_var, den_int, mkE_den, op_le, op_lt, op_len, op_ltlen, op_rowlen, op_row, op_fn, cell_zero, D.row_sl, D.asInt_int, D.asBool_bool, D.asList_sl, cell_zero, cell_succ,
       hll, hrow, hz, rowAt_nat, Int.toNat_natCast, tt_ok]
     · omega
     · omega
     · exact ⟨by omega, by omega, trivial, trivial⟩
   simp only [wp_back', List.map_cons, List.map_nil, den_op, dens_cons, dens_nil, den_var, den_int, op_bin, intV_add, op_lset, op_rput, op_row, D.asInt_int, D.asList_sl, D.row_sl, cell_zero, cell_succ, setB_eq, hrow]
   have hden := outE_den (Φ := Φ) (env := [a, .int i, .sl ((a.asList.take i).map (cnDs ks) ++ List.replicate (a.asList.length - i) z)]) src [] ks' 0 (rowN a.asList i) fun j hj => by rw [Nat.zero_add, t2 _ (by omega), hcn]
   rw [hden, hcn, w64 (by omega) (by omega)]
   refine ⟨⟨i + 1, ?_, by omega⟩, ?_⟩
   · simp only [List.cons.injEq, and_true, D.int.injEq, D.sl.injEq]
     refine ⟨by simp, ?_⟩
     have e1 : z.drop (0 + (cnDs ks (rowN a.asList i)).length) = [] := by rw [cnDs_length, Nat.zero_add, ← hlen, ← hz, List.drop_length]
     rw [e1, List.take_zero, List.nil_append, List.append_nil, Int.toNat_natCast, e5, List.replicate_succ, List.set_append_right _ _ (by simp; omega), e4, List.set_cons_zero, List.take_add_one, List.getElem?_eq_getElem hlt', List.map_append]
     simp [rowN_lt hlt']
   · simp; omega
 · have hi' : i = a.asList.length := by omega
   subst hi'
   simp
theorem toV_wp {Φ : Fns} {c bytes tid : Nat} {ks ks' : List K} (hbytes : bytes ≤ 1000) (hlen : ks'.length = ks.length) (hcn : ∀ r, cnDs ks' r = cnDs ks r) (hΦ : Φ c = mToA ks) {a : D}
   (ha : a.asList.length + sumR (szDs ks) a.asList ≤ 1048576) (B : Nat → List D → Prop) : (toV c bytes tid ks').wp Φ (fun l => l = [.sl (a.asList.map (cnDs ks))]) [a] B := by
 refine toV'_wp hbytes hlen hcn (fun i x hi => ?_) ha B
 have hsum : szDs ks (rowN a.asList i) ≤ sumR (szDs ks) a.asList := by
   have h1 := sumR_take (szDs ks) hi
   have h2 := sumR_take_le (szDs ks) (xs := a.asList) (i := i + 1)
   omega
 simp only [conj_cons, conj_nil, den_op, dens_cons, dens_nil, den_var, mkE_den, op_fn, hΦ, mToA, con_ok, con_zero, toPre, cell_zero, cell_succ, D.row_sl, D.asInt_int, rowAt_nat, and_true]
 exact ⟨by omega, fun _ _ => trivial⟩
theorem sumR_zero {p : List D → Nat} (h : ∀ r, p r = 0) : ∀ xs, sumR p xs = 0
 | [] => rfl
 | x :: xs => by simp [sumR, h, sumR_zero h xs]
def szC : VC := .ite (.op (.bin .lss .i64) [.op (.bin .sub .i64) [.var 1, .op .len [.var 0]], .int 0]) (.ret [.int (-1)]) (.ret [.op (.bin .sub .i64) [.var 1, .op .len [.var 0]]])
theorem szC_wp {Φ : Fns} {ks : List K} (hk : ∀ r, szDs ks r = 0) {a b : D} (ha : a.asList.length ≤ lenMax) (hb : 0 ≤ b.asInt ∧ b.asInt ≤ 1048576) (B : Nat → List D → Prop) :
   szC.wp Φ (fun l => l = [.int (szM (a.asList.length + sumR (szDs ks) a.asList) b.asInt)]) [a, b] B := by
 have hl : (a.asList.length : Int) ≤ 140737488355328 := by simp only [lenMax] at ha; omega
 have w1 : IntKind.i64.wrap (b.asInt - a.asList.length) = b.asInt - a.asList.length := w64 (by omega) (by omega)
 simp only [szC, wp_ite', wp_ret', List.map_cons, List.map_nil, den_op, dens_cons, dens_nil, den_var, op_bin, op_len, intV_sub, intV_lss, den_int, D.asInt_int, D.asBool_bool, tt_ok, tt_no, cell_zero, cell_succ, w1, sumR_zero hk, szM]
 refine ⟨fun h => ?_, fun h => ?_⟩
 · rw [if_pos (by omega)]
 · rw [if_neg (by omega)]; simp
def szT : VC := .ite (.op (.bin .lss .i64) [.op (.bin .sub .i64) [.var 1, .op .len [.var 0]], .int 0]) (.ret [.int (-1)])
 (.loop 5 0 2 [(.int .i64, 2), (.int .i64, 3)] [.op (.bin .sub .i64) [.var 1, .op .len [.var 0]], .int 0]
   (.ite (.op (.bin .lss .i64) [.var 3, .op .len [.var 0]])
     (.req [.op .le [.int 0, .var 3], .op .lt [.var 3, .op .len [.var 0]]]
       (.ite (.op (.bin .lss .i64) [.op (.bin .sub .i64) [.var 2, .op .slen [.op (.fld 0) [.op .row [.var 0, .var 3]]]], .int 0]) (.ret [.int (-1)])
         (.back 0 [.op (.bin .sub .i64) [.var 2, .op .slen [.op (.fld 0) [.op .row [.var 0, .var 3]]]], .op (.bin .add .i64) [.var 3, .int 1]])))
     (.ret [.var 2])))
theorem szT_wp {Φ : Fns} {a b : D} (ha : a.asList.length ≤ lenMax) (hr : ∀ r ∈ a.asList, (cell r 0).asStr.size ≤ lenMax) (hb : 0 ≤ b.asInt ∧ b.asInt ≤ 1048576) (B : Nat → List D → Prop) :
   szT.wp Φ (fun l => l = [.int (szM (a.asList.length + sumR (szDs [.str]) a.asList) b.asInt)]) [a, b] B := by
 have hl : (a.asList.length : Int) ≤ 140737488355328 := by simp only [lenMax] at ha; omega
 have w1 : IntKind.i64.wrap (b.asInt - a.asList.length) = b.asInt - a.asList.length := w64 (by omega) (by omega)
 simp only [szT, wp_ite', den_op, dens_cons, dens_nil, den_var, op_bin, op_len, intV_sub, intV_lss, den_int, D.asInt_int, D.asBool_bool, tt_ok, tt_no, cell_zero, cell_succ, w1]
 refine ⟨fun h => ?_, fun h => ?_⟩
 · simp [szM]
   omega
 · refine wp_loop' (fun v => ∃ i : Nat, v = [.int (b.asInt - a.asList.length - sumR (szDs [.str]) (a.asList.take i)), .int i] ∧ i ≤ a.asList.length ∧ 0 ≤ b.asInt - a.asList.length - sumR (szDs [.str]) (a.asList.take i))
     (fun v => a.asList.length - (cell v 1).asInt.toNat) ⟨0, by simp [sumR, w1], by omega, by simp [sumR]; omega⟩ ?_
   simp
   intro d e _ _ i hd he hi hnn
   subst hd he
   have hsm := sumR_take_le (szDs [.str]) (xs := a.asList) (i := i)
   refine ⟨fun hlt => ?_, fun hge => ?_⟩
   · have hlt' : i < a.asList.length := by simpa using hlt
     have hst := sumR_take (szDs [.str]) hlt'
     have hs2 := sumR_take_le (szDs [.str]) (xs := a.asList) (i := i + 1)
     have hz : szDs [.str] (rowN a.asList i) = (cell (rowN a.asList i) 0).asStr.size := by simp only [szDs_cons, szDs_nil, szD]; rfl
     have hm : ((cell (rowN a.asList i) 0).asStr.size : Int) ≤ 140737488355328 := by have := hr _ (rowN_mem hlt'); simp only [lenMax] at this; omega
     rw [hz] at hst
     simp [rowAt_nat]
     rw [w64 (n := b.asInt - a.asList.length - sumR (szDs [.str]) (a.asList.take i) - (cell (rowN a.asList i) 0).asStr.size) (by omega) (by omega)]
     refine ⟨by omega, fun h1 => ?_, fun h1 => ?_⟩
     · simp only [szM]
       split <;> omega
     · refine ⟨⟨i + 1, ⟨?_, ?_⟩, by omega, ?_⟩, ?_⟩
       · rw [hst]; simp only [Int.natCast_add]; omega
       · rw [w64 (by omega) (by omega)]; simp
       · rw [hst]; simp only [Int.natCast_add]; omega
       · rw [w64 (by omega) (by omega)]; omega
   · have hi' : i = a.asList.length := by simp at hge; omega
     subst hi'
     simp [szM] at hnn ⊢
     omega
end Go.Vx
namespace Go.Vx
open Go.RowKit Go.ChangeShapes Go.WideShapes
def fldsChk (P : Program) (chk : TypeId → List K → Bool) : Nat → List Field → List K → Bool
 | _, [], [] => true
 | _, [], _ :: _ => false
 | j, x :: fs, ks => x.offset == j && (chk x.type (ks.take (P.cellsOf x.type)) && fldsChk P chk (j + P.cellsOf x.type) fs (ks.drop (P.cellsOf x.type)))
def ksChk (P : Program) : Nat → TypeId → List K → Bool
 | 0, _, _ => false
 | f + 1, t, ks => P.cellsOf t == ks.length && match P.underlying t, ks with
   | some .bool, [.bool] => true
   | some (.int k), [.int k'] => decide (k = k')
   | some .string, [.str] => true
   | some (.slice e), [.sl e' ks'] => e == e' && (Nat.blt 0 (P.bytesOf e) && (!(ks'.length == 0) && ksChk P f e ks'))
   | some (.struct fs), ks => fldsChk P (ksChk P f) 0 fs.toList ks
   | _, _ => false
theorem exists_list {α : Type} {P : Nat → α → Prop} : ∀ (n : Nat), (∀ i, i < n → ∃ x, P i x) → ∃ l : List α, l.length = n ∧ ∀ i x, l[i]? = some x → P i x
 | 0, _ => ⟨[], rfl, fun i x h => by simp at h⟩
 | n + 1, h => by
   obtain ⟨l, h1, h2⟩ := exists_list n fun i hi => h i (by omega)
   obtain ⟨x, hx⟩ := h n (by omega)
   refine ⟨l ++ [x], by simp [h1], fun i y hy => ?_⟩
   rcases Nat.lt_or_ge i n with hi | hi
   · rw [List.getElem?_append_left (by omega)] at hy
     exact h2 i y hy
   · rw [List.getElem?_append_right (by omega)] at hy
     have : i - l.length = 0 := by
       have := (List.getElem?_eq_some_iff.1 hy).1
       simp at this; omega
     rw [this] at hy
     simp at hy
     subst hy
     have : i = n := by omega
     subst this
     exact hx
section
variable {H : Type} {enc : TypeId × Value → H} {P : Program} {w : World}
theorem ksChk_len {f : Nat} {t : TypeId} {ks : List K} (h : ksChk P f t ks = true) : P.cellsOf t = ks.length := by
 cases f with
 | zero => simp [ksChk] at h
 | succ f => simp only [ksChk, Bool.and_eq_true, beq_iff_eq] at h; exact h.1
theorem flds_rep {chk : TypeId → List K → Bool} {n : Nat} {cs : List Value}
   (hchk : ∀ t ks, chk t ks = true → P.cellsOf t = ks.length ∧ ∀ cs d ps, DataW.trod enc P w 0 (fun _ => true) true n t cs = some (d, ps) → (∀ m ∈ d.weights P t, m ≤ reachBytes) → ∃ ds, ds.length = ks.length ∧ RepCs w (fun _ _ => False) ks cs ds) :
   ∀ (fs : List Field) (j : Nat) (ks : List K) (xs : List (DataW H × List MemPlace)), fldsChk P chk j fs ks = true → xs.length = fs.length → (∀ (i : Nat) (x : Field), fs[i]? = some x → DataW.trod enc P w 0 (fun _ => true) true n x.type ((cs.drop x.offset).take (P.cellsOf x.type)) = xs[i]?) →
     (∀ m ∈ DataW.weightsEach P (fs.map (·.type)) (xs.map (·.1)), m ≤ reachBytes) → j + ks.length = cs.length → ∃ ds, ds.length = ks.length ∧ RepCs w (fun _ _ => False) ks (cs.drop j) ds
 | [], j, [], xs, _, _, _, _, hl => ⟨[], rfl, by simp at hl; simp [RepCs, hl]⟩
 | [], j, _ :: _, xs, h, _, _, _, _ => by simp [fldsChk] at h
 | x :: fs, j, ks, [], _, hx, _, _, _ => by simp at hx
 | x :: fs, j, ks, y :: xs, h, hx, ht, hw, hl => by
   simp only [fldsChk, Bool.and_eq_true, beq_iff_eq] at h
   obtain ⟨h1, h2, h3⟩ := h
   obtain ⟨c1, c2⟩ := hchk _ _ h2
   have hn : P.cellsOf x.type ≤ ks.length := by rw [List.length_take] at c1; omega
   have t0 := ht 0 x rfl
   rw [h1] at t0
   simp only [List.map_cons, DataW.weightsEach, List.mem_append] at hw
   obtain ⟨ds1, l1, r1⟩ := c2 _ y.1 y.2 t0 fun m hm => hw m (.inl hm)
   obtain ⟨ds2, l2, r2⟩ := flds_rep hchk fs (j + P.cellsOf x.type) (ks.drop (P.cellsOf x.type)) xs h3 (by simpa using hx) (fun i z hz => by simpa using ht (i + 1) z (by simpa using hz)) (fun m hm => hw m (.inr hm)) (by rw [List.length_drop]; omega)
   refine ⟨ds1 ++ ds2, by rw [List.length_append, l1, l2, List.length_take, List.length_drop]; omega, ?_⟩
   have := RepCs.append l1 r1 r2
   rwa [List.take_append_drop, ← List.drop_drop, List.take_append_drop] at this
theorem trod_rep : ∀ (f : Nat) (t : TypeId) (ks : List K), ksChk P f t ks = true → ∀ (n : Nat) (cs : List Value) (d : DataW H) (ps : List MemPlace), DataW.trod enc P w 0 (fun _ => true) true n t cs = some (d, ps) →
   (∀ m ∈ d.weights P t, m ≤ reachBytes) → ∃ ds, ds.length = ks.length ∧ RepCs w (fun _ _ => False) ks cs ds
 | 0, _, _, h, _, _, _, _, _, _ => by simp [ksChk] at h
 | f + 1, t, ks, h, n, cs, d, ps, hd, hwt => by
   have hlen := ksChk_len h
   simp only [ksChk, Bool.and_eq_true] at h
   replace h := h.2
   split at h
   · rename_i hu
     obtain ⟨b, rfl, hx⟩ := DataW.trod_bool hu hd
     exact ⟨[.bool b], rfl, .bool b, [], rfl, rfl, rfl⟩
   · rename_i k k' hu
     have := of_decide_eq_true h
     subst this
     obtain ⟨m, rfl, hx, hwf⟩ := DataW.trod_int hu hd
     refine ⟨[.int m], rfl, .int k m, [], rfl, ⟨rfl, ?_⟩, rfl⟩
     simp only [Lit.wf, Bool.and_eq_true, decide_eq_true_eq] at hwf
     exact hwf
   · rename_i hu
     obtain ⟨s, rfl, hx, _⟩ := DataW.trod_string hu hd
     simp only [Prod.mk.injEq] at hx
     obtain ⟨rfl, rfl⟩ := hx
     refine ⟨[.str s], rfl, .string s, [], rfl, ⟨rfl, ?_⟩, rfl⟩
     have := hwt s.data.toList.length (by simp [DataW.weights])
     have h2 := reachBytes_lt
     have e : s.size = s.data.toList.length := rfl
     show s.size ≤ 2 ^ 47
     omega
   · rename_i e e' ks' hu
     simp only [Bool.and_eq_true, beq_iff_eq, Bool.not_eq_true', beq_eq_false_iff_ne, ne_eq] at h
     obtain ⟨rfl, hb, hk0, hc⟩ := h
     have hb : 0 < P.bytesOf e := Nat.le_of_ble_eq_true hb
     have hce := ksChk_len hc
     rcases DataW.trod_slice hu hd with ⟨rfl, hx⟩ | ⟨a, len, cap, elems, rest, n', _, rfl, hx, _, hl, _, hlen', hel, _, _⟩
     · exact ⟨[.sl []], rfl, .slice none 0 0, [], rfl, ⟨none, 0, rfl, Nat.le_refl _, by simp [lenMax], .inl rfl⟩, rfl⟩
     · simp only [Prod.mk.injEq] at hx
       obtain ⟨rfl, _⟩ := hx
       simp only [DataW.weights, hu, List.mem_cons, List.mem_append] at hwt
       have hlm : len ≤ lenMax := by
         have := hwt _ (.inl rfl)
         have h2 := reachBytes_lt
         simp only [List.length_map] at this
         have h3 : elems.length * 1 ≤ (elems.length + rest.length) * P.bytesOf e := Nat.mul_le_mul (by omega) hb
         simp only [lenMax]
         omega
       have hall : ∀ i, i < len → ∃ row, ∃ vs, w.cells? 0 (a.add (i * P.cellsOf e)) (P.cellsOf e) = some vs ∧ RepCs w (fun _ _ => False) ks' vs row := fun i hi => by
         have h1 := hel i hi
         have hget : elems[i]? = some elems[i] := List.getElem?_eq_getElem (by omega)
         rw [hget, Option.bind_eq_some_iff] at h1
         obtain ⟨vs, q1, q2⟩ := h1
         have hmem : ∀ (l : List (DataW H)) (x : DataW H), x ∈ l → ∀ m ∈ x.weights P e, m ∈ DataW.weightsAll P e l := by
           intro l
           induction l with
           | nil => intro x hx; simp at hx
           | cons y l ih =>
             intro x hx m hm
             simp only [DataW.weightsAll, List.mem_append]
             rcases List.mem_cons.1 hx with rfl | hx
             · exact .inl hm
             · exact .inr (ih x hx m hm)
         obtain ⟨row, _, hr⟩ := trod_rep f e ks' hc n' vs elems[i].1 elems[i].2 q2 fun m hm => hwt m (.inr (.inl (hmem _ _ (List.mem_map.2 ⟨_, List.getElem_mem _, rfl⟩) m hm)))
         exact ⟨row, vs, q1, hr⟩
       obtain ⟨rows, r1, r2⟩ := exists_list len hall
       refine ⟨[.sl rows], rfl, .slice (some a) len cap, [], rfl, ⟨some a, cap, by simp [r1], by simp [r1, hl], by simp [r1, hlm], ?_⟩, rfl⟩
       simp only [List.headD_cons, D.asList_sl]
       by_cases h0 : rows = []
       · exact .inl h0
       · right
         have hpos : 0 < len := by rw [← r1]; exact List.length_pos_iff.2 h0
         have hkpos : 0 < P.cellsOf e := by rw [hce]; omega
         have spot : a.spot = none := by
           obtain ⟨row, vs, q1, _⟩ := hall 0 hpos
           obtain ⟨_, s2, s3⟩ := World.cells?_some q1
           have := s3 0 hkpos
           rw [Nat.zero_mul, show a.add 0 = a by simp [Addr.add]] at this
           have hne : (a.add 0) = a := by simp [Addr.add]
           rw [hne] at this
           unfold World.cell? at this
           have hv : vs[0]? = some vs[0] := List.getElem?_eq_getElem (by omega)
           rw [hv] at this
           split at this
           · split at this
             · cases this
             · rename_i hs; simpa using hs
           · cases this
         obtain ⟨b, off, sp⟩ := a
         simp only at spot
         subst spot
         have hadd : ∀ m, (⟨b, off, none⟩ : Addr).add m = ⟨b, off + m, none⟩ := fun m => by unfold Addr.add; split <;> simp_all
         refine ⟨b, off, rfl, fun i row hi => ?_⟩
         obtain ⟨vs, q1, q2⟩ := r2 i row hi
         refine ⟨vs, Row.of_get fun j v hv => ?_, fun _ _ h => h, q2⟩
         obtain ⟨_, s2, s3⟩ := World.cells?_some q1
         have hjl := (List.getElem?_eq_some_iff.1 hv).1
         have := s3 j (by omega)
         rw [hadd, hv, hce] at this
         have hadd2 : (⟨b, off + i * ks'.length, none⟩ : Addr).add j = ⟨b, off + i * ks'.length + j, none⟩ := by unfold Addr.add; split <;> simp_all
         rw [hadd2] at this
         exact this
   · rename_i fs hu
     obtain ⟨xs, n', rfl, hx, hcl, hxl, hfl⟩ := DataW.trod_struct hu hd
     simp only [Prod.mk.injEq] at hx
     obtain ⟨rfl, _⟩ := hx
     simp only [DataW.weights, hu] at hwt
     have := flds_rep (H := H) (enc := enc) (P := P) (w := w) (chk := ksChk P f) (n := n') (cs := cs) (fun t ks hc => ⟨ksChk_len hc, fun cs d ps hd hw => trod_rep f t ks hc n' cs d ps hd hw⟩) fs.toList 0 _ xs h (by simpa using hxl)
       (fun i x hi => hfl i x (by simpa using hi)) hwt (by omega)
     simpa using this
   · cases h
def argChk (P : Program) (t : TypeId) : ASh → Bool
 | .one k => (match P.underlying t with | some (.struct _) => false | _ => true) && ksChk P 30 t [k]
 | .agg ks => (match P.underlying t with | some (.struct _) => true | _ => false) && ksChk P 30 t ks
 | .pim _ => false
def argsChk (P : Program) : List TypeId → List ASh → Bool
 | [], [] => true
 | t :: ts, s :: ss => argChk P t s && argsChk P ts ss
 | _, _ => false
theorem arg_rep {r : Reach} {b0 : Nat} {t : TypeId} {sh : ASh} (h : argChk P t sh = true) {v : Value} {d : DataW H} {ps : List MemPlace} (hv : Value.okWide P w r b0 t v) (hd : DataW.Trod enc P w 0 (fun _ => true) true t v d ps)
   (hw : ∀ m ∈ d.weights P t, m ≤ reachBytes) : ∃ x : D, ArgRep w (fun _ _ => False) sh v x := by
 obtain ⟨n, hn⟩ := hd
 cases sh with
 | one k =>
   simp only [argChk, Bool.and_eq_true] at h
   obtain ⟨ds, hl, hr⟩ := trod_rep 30 t [k] h.2 n _ d ps hn hw
   obtain ⟨u, us, hu, hc, rfl⟩ := hr
   have hcell : v.cells = #[v] := by
     have h2 := h.2
     simp only [ksChk, Bool.and_eq_true] at h2
     replace h2 := h2.2
     split at h2
     · rename_i hu _; obtain ⟨b, rfl⟩ := okWide_bool hu hv; rfl
     · rename_i hu _; obtain ⟨b, rfl⟩ := okWide_int hu hv; rfl
     · rename_i hu _; obtain ⟨b, rfl⟩ := okWide_string hu hv; rfl
     · rename_i hu _; obtain ⟨_, _, _, rfl⟩ := okWide_slice hu hv; rfl
     · rename_i hu; have := h.1; rw [hu] at this; cases this
     · cases h2
   rw [hcell] at hu
   simp only [List.cons.injEq, and_true] at hu
   subst hu
   exact ⟨_, hc⟩
 | agg ks =>
   simp only [argChk, Bool.and_eq_true] at h
   obtain ⟨ds, hl, hr⟩ := trod_rep 30 t ks h.2 n _ d ps hn hw
   have h1 := h.1
   split at h1
   · rename_i fs hu
     obtain ⟨cs, rfl, _⟩ := okWide_struct hu hv
     exact ⟨.sl [ds], cs.toList, by simp, hr⟩
   · cases h1
 | pim ks => simp [argChk] at h
theorem args_rep : ∀ {ts : List TypeId} {shs : List ASh}, argsChk P ts shs = true → ∀ {vs : List Value} {ds : List (DataW H)} {ps : List MemPlace}, DataW.TrodAll enc P w 0 (fun _ => true) true ts vs ds ps →
   (∀ (j : Nat) t v, ts[j]? = some t → vs[j]? = some v → ∃ r b0, Value.okWide P w r b0 t v) → (∀ m ∈ DataW.weightsEach P ts ds, m ≤ reachBytes) → ∃ xs, ArgReps w (fun _ _ => False) shs vs xs
 | [], [], _, vs, ds, ps, h, _, _ => by
   obtain ⟨rfl, rfl, rfl⟩ := trodAll_nil h
   exact ⟨[], rfl, rfl⟩
 | [], _ :: _, h, _, _, _, _, _, _ => by simp [argsChk] at h
 | _ :: _, [], h, _, _, _, _, _, _ => by simp [argsChk] at h
 | t :: ts, s :: ss, h, vs, ds, ps, ht, hv, hw => by
   simp only [argsChk, Bool.and_eq_true] at h
   obtain ⟨v, vs', d, ds', p, q, rfl, rfl, rfl, h1, h2⟩ := trodAll_cons ht
   simp only [DataW.weightsEach, List.mem_append] at hw
   obtain ⟨r, b0, hv0⟩ := hv 0 t v rfl rfl
   obtain ⟨x, hx⟩ := arg_rep h.1 hv0 h1 fun m hm => hw m (.inl hm)
   obtain ⟨xs, hxs⟩ := args_rep h.2 h2 (fun j t v q1 q2 => hv (j + 1) t v (by simpa using q1) (by simpa using q2)) fun m hm => hw m (.inr hm)
   exact ⟨x :: xs, v, vs', x, xs, rfl, rfl, hx, hxs⟩
theorem args_stay (hl : laidOutB P = true) : ∀ {ts : List TypeId}, (∀ t ∈ ts, P.readableRec t = true ∧ t < P.types.size) → ∀ {vs : List Value} {ds : List (DataW H)} {ps : List MemPlace} {W' : World} {sp : Nat → Bool},
   DataW.TrodAll enc P w 0 (fun _ => true) true ts vs ds ps → Below w.heap.size w W' → (∀ x ∈ ps, x.block < w.heap.size) → (∀ x ∈ ps, sp x.block = true) → DataW.TrodAll enc P W' 0 sp true ts vs ds ps
 | [], _, vs, ds, ps, W', sp, h, _, _, _ => by
   obtain ⟨rfl, rfl, rfl⟩ := trodAll_nil h
   exact rfl
 | t :: ts, ht, vs, ds, ps, W', sp, h, hb, hlt, hsp => by
   obtain ⟨v, vs', d, ds', p, q, rfl, rfl, rfl, h1, h2⟩ := trodAll_cons h
   obtain ⟨r1, r2⟩ := ht t (by simp)
   exact ⟨p, q, WideElems.Trod_stays hl r1 r2 h1 (fun x hx => hb.same (hlt x (by simp [hx]))) (fun x hx => hsp x (by simp [hx])),
     args_stay hl (fun t ht' => ht t (by simp [ht'])) h2 hb (fun x hx => hlt x (by simp [hx])) (fun x hx => hsp x (by simp [hx])), rfl⟩
theorem law_post {f : FuncId} {fn : Func} {s : ChangeSpec} {shs : List ASh} {φ : Nat → List D → D} (hF : FunR P f shs [.one (.im .bool)] φ) (hφ : ∀ xs, xs.length = shs.length → (φ 1000 xs).asBool = true ∧ (φ 0 xs).asBool = true)
   (hl : laidOutB P = true) (hr : ∀ t ∈ fn.params.toList, P.readableRec t = true ∧ t < P.types.size) (hc : argsChk P fn.params.toList shs = true) {tb : TypeId} (hres : fn.resultTypes = #[tb]) (htb : P.underlying tb = some .bool)
   (hs : ∀ ds : List (DataW H), ds.length = fn.params.toList.length → s.fn H ds = { results := [.lit (.bool true)], args := ds }) (hv : s.vars = []) {W : World} {base : Nat} {args : Array Value} {ds gs : List (DataW H)} {before : List MemPlace}
   (hval : ∀ (j : Nat) t v, fn.params[j]? = some t → args[j]? = some v → Value.okWide P W .any base t v) (hW : DataW.Whole enc P fn.params.toList s.vars false W args.toList ds gs before)
   (hw : (DataW.weightsEach P (fn.params.toList ++ s.plain.varTypes P) (ds ++ gs)).all (· ≤ reachBytes) = true) (hG : glob P W) :
   Calls P f args W fun e W' => ∃ v, e = .returned v ∧ s.post enc P fn false true false false W args v W' := by
 have hW' := hW
 have hlt := hW.lt
 obtain ⟨p, q, hA, hV, hpq, hfz, hnd⟩ := hW
 rw [hv] at hV
 obtain ⟨rfl, rfl⟩ := trodVars_none hV
 simp only [List.append_nil] at hpq
 subst hpq
 have hdl : ∀ {ts : List TypeId} {vs : List Value} {ds : List (DataW H)} {ps : List MemPlace}, DataW.TrodAll enc P W 0 (fun _ => true) true ts vs ds ps → ds.length = ts.length := by
   intro ts
   induction ts with
   | nil => intro vs ds ps h; obtain ⟨rfl, rfl, rfl⟩ := trodAll_nil h; rfl
   | cons t ts ih => intro vs ds ps h; obtain ⟨v, vs', d, ds', p, q, rfl, rfl, rfl, _, h2⟩ := trodAll_cons h; simp [ih h2]
 have hwt : ∀ m ∈ DataW.weightsEach P fn.params.toList ds, m ≤ reachBytes := fun m hm => by
   have h1 : s.plain.varTypes P = [] := by simp [DataSpec.varTypes, ChangeSpec.plain, hv]
   rw [h1, List.append_nil, List.append_nil] at hw
   simpa using List.all_eq_true.1 hw m hm
 obtain ⟨xs, hxs⟩ := args_rep hc hA (fun j t v h1 h2 => ⟨_, _, hval j t v (by simpa using h1) (by simpa using h2)⟩) hwt
 obtain ⟨_, hxl, _⟩ := hxs.wf
 obtain ⟨q1, q2⟩ := hφ xs hxl
 have := hF W (fun _ _ => False) args.toList xs (fun _ _ h => h.elim) hG hxs q1
 rw [show args.toList.toArray = args by simp] at this
 refine this.mono fun e W' ⟨us, Fs, he, hb, hret, _, _⟩ => ?_
 obtain ⟨u, us', rfl, hu, hret⟩ := hret
 obtain ⟨rfl, rfl⟩ := hret
 have hu : u = .bool true := by
   have : u = .bool (φ 0 xs).asBool := hu
   rw [this, q2]
 subst hu
 refine ⟨.bool true, he, ?_⟩
 have hfn : s.fn H (ds ++ []) = { results := [.lit (.bool true)], args := ds } := by rw [List.append_nil]; exact hs ds (hdl hA)
 have hold : ∀ x ∈ before, (fun b => decide (b < W.heap.size)) x.block = true := fun x hx => by simpa using hlt x hx
 have hres' : ∀ (b : Nat) (sp : Nat → Bool) (hd : Bool), DataW.TrodAll enc P W' b sp hd fn.resultTypes.toList ((Value.bool true).resultList fn.resultTypes.size) (s.fn H (ds ++ [])).results [] := fun b sp hd => by
   rw [hres, hfn]
   exact trodAll_cons_mk (shut_bool htb true) trodAll_mk0
 have hargs : ∀ sp : Nat → Bool, (∀ x ∈ before, sp x.block = true) → DataW.TrodAll enc P W' 0 sp true fn.params.toList args.toList (s.fn H (ds ++ [])).args before := fun sp hsp => by
   rw [hfn]
   exact args_stay hl hr hA hb hlt hsp
 have hvars : ∀ sp : Nat → Bool, DataW.TrodVars enc P W' sp s.vars (s.fn H (ds ++ [])).vars [] := fun sp => by
   rw [hv, hfn]
   rfl
 refine ⟨ds, [], before, [], before, [], hW', hres' _ _ _, hargs _ hold, hvars _, World.keptBut_mono (fun x hx => ⟨hx, .inr (by simpa using hx)⟩) (hb.frame (· ∈ before)), fun _ => ?_⟩
 refine ⟨ok_one hres rfl (okWide_bool_mk htb _), _, _, ([] ++ before) ++ [], ⟨[] ++ before, [], trodAll_append (hargs _ (fun _ _ => rfl)) (hres' _ _ _), hvars _, rfl, ?_, ?_⟩, ?_⟩
 · intro b off hp
   have hp : MemPlace.cell b off ∈ before := by simpa using hp
   rw [hb.frozen (hlt _ hp)]
   exact hfz b off hp
 · intro ha; cases ha
 · intro x hx _
   simpa using hx
end
end Go.Vx
namespace Go.Vx
open Go.RowKit (Below)
theorem kinds_intro {env : List D} : ∀ {l : List (K × Nat)} {p : Prop}, ((∀ q ∈ l, WFD q.1 (cell env q.2)) → p) → kinds env l p
 | [], p, h => h fun q hq => by simp at hq
 | (k, i) :: l, p, h => fun hw => kinds_intro fun hq => h fun q hm => by
     rcases List.mem_cons.1 hm with rfl | hm
     · exact hw
     · exact hq q hm
theorem VC.wp_mono2 {Φ : Fns} {post post' : List D → Prop} (h : ∀ l, post l → post' l) : ∀ (t : VC) (env : List D) (B B' : Nat → List D → Prop), (∀ l v, B l v → B' l v) → t.wp Φ post env B → t.wp Φ post' env B' := by
 have hN : ∀ (n : Nat) {p q : List D → Prop}, (∀ l, p l → q l) → allN n p → allN n q := by
   intro n
   induction n with
   | zero => intro p q hpq hp; exact hpq _ hp
   | succ n ih => intro p q hpq hp d; exact ih (fun l => hpq (d :: l)) (hp d)
 have hK : ∀ (l : List (K × Nat)) (env : List D) {p q : Prop}, (p → q) → kinds env l p → kinds env l q := by
   intro l env
   induction l with
   | nil => intro p q hpq hp; exact hpq hp
   | cons x l ih => intro p q hpq hp hw; exact ih hpq (hp hw)
 intro t
 induction t with
 | req cs t ih => intro env B B' hB ht; exact ⟨ht.1, ih env B B' hB ht.2⟩
 | ite c x y ihx ihy => intro env B B' hB ht; exact ⟨fun hc => ihx env B B' hB (ht.1 hc), fun hc => ihy env B B' hB (ht.2 hc)⟩
 | loop id l m fs init body ih =>
   intro env B B' hB ⟨I, μ, h0, hI⟩
   refine ⟨I, μ, h0, hN m (fun vs hk => hK fs _ (fun hb hi => ih _ _ _ (fun j v hv => ?_) (hb hi)) hk) hI⟩
   by_cases e : j = l
   · subst e; simpa only [setB_eq] using hv
   · rw [setB_ne e] at hv ⊢; exact hB j v hv
 | back l es => intro env B B' hB ht; exact hB _ _ ht
 | ret es => intro env B B' hB ht; exact h _ ht
 | join id l m fs x y ihx ihy =>
   intro env B B' hB ⟨I, h1, h2⟩
   refine ⟨I, ihx _ _ _ (fun j v hv => ?_) h1, hN m (fun vs hk => hK fs _ (fun hb hi => ihy _ _ _ hB (hb hi)) hk) h2⟩
   by_cases e : j = l
   · subst e; simpa only [setB_eq] using hv
   · rw [setB_ne e] at hv ⊢; exact hB j v hv
section
variable {Φ : Fns} {post : List D → Prop} {env : List D} {B : Nat → List D → Prop}
theorem loop1_wp {id l n : Nat} {fs : List (K × Nat)} {L : E} {body rest : VC} {N : Nat} (hn : env.length = n) (hL : ∀ d, (L.den Φ (env ++ [d])).asInt = N) (hN : (N : Int) ≤ 140737488355328) (I : Nat → Prop) (h0 : I 0)
   (hb : ∀ i : Nat, i < N → I i → body.wp Φ post (env ++ [.int i]) (setB B l fun v => v = [.int (IntKind.i64.wrap (i + 1))] ∧ I (i + 1)))
   (hr : I N → ∀ p, rest.wp Φ post (env ++ [.int N]) (setB B l p)) :
   (VC.loop id l 1 fs [.int 0] (.ite (.op (.bin .lss .i64) [.var n, L]) body rest)).wp Φ post env B := by
 refine wp_loop' (fun v => ∃ i : Nat, v = [.int i] ∧ i ≤ N ∧ I i) (fun v => N - (cell v 0).asInt.toNat) ⟨0, rfl, by omega, h0⟩ ?_
 simp only [allN_succ, allN_zero]
 intro d
 refine kinds_intro fun _ => ?_
 rintro ⟨i, hd, hi, hI⟩
 simp only [List.cons.injEq, and_true] at hd
 subst hd
 have hv : cell (env ++ [.int i]) n = .int i := by subst hn; simp [cell]
 simp only [wp_ite', den_op, dens_cons, dens_nil, den_var, op_bin, intV_lss, hL, hv, D.asInt_int, D.asBool_bool, cell_zero, cell_succ, tt_ok, tt_no]
 refine ⟨fun hlt => ?_, fun hge => ?_⟩
 · refine VC.wp_mono2 (fun _ h => h) _ _ _ _ (fun j v h => ?_) (hb i (by omega) hI)
   by_cases e : j = l
   · subst e
     simp only [setB_eq] at h ⊢
     obtain ⟨rfl, h⟩ := h
     rw [w64 (by omega) (by omega)]
     exact ⟨⟨i + 1, by simp, by omega, h⟩, by simp; omega⟩
   · rw [setB_ne e] at h ⊢; exact h
 · have : i = N := by omega
   subst this
   exact hr hI _
theorem loop2_wp {id l n : Nat} {fs : List (K × Nat)} {L e0 : E} {body rest : VC} {N : Nat} (hn : env.length = n) (hL : ∀ d d', (L.den Φ (env ++ [d, d'])).asInt = N) (hN : (N : Int) ≤ 140737488355328) (I : Nat → D → Prop) (h0 : I 0 (e0.den Φ env))
   (hb : ∀ (i : Nat) (x : D), i < N → (∀ q ∈ fs, WFD q.1 (cell (env ++ [.int i, x]) q.2)) → I i x → body.wp Φ post (env ++ [.int i, x]) (setB B l fun v => ∃ y, v = [.int (IntKind.i64.wrap (i + 1)), y] ∧ I (i + 1) y))
   (hr : ∀ x, (∀ q ∈ fs, WFD q.1 (cell (env ++ [.int N, x]) q.2)) → I N x → ∀ p, rest.wp Φ post (env ++ [.int N, x]) (setB B l p)) :
   (VC.loop id l 2 fs [.int 0, e0] (.ite (.op (.bin .lss .i64) [.var n, L]) body rest)).wp Φ post env B := by
 refine wp_loop' (fun v => ∃ (i : Nat) (x : D), v = [.int i, x] ∧ i ≤ N ∧ I i x) (fun v => N - (cell v 0).asInt.toNat) ⟨0, _, rfl, by omega, h0⟩ ?_
 simp only [allN_succ, allN_zero]
 intro d d'
 refine kinds_intro fun hk => ?_
 rintro ⟨i, x, hd, hi, hI⟩
 simp only [List.cons.injEq, and_true] at hd
 obtain ⟨rfl, rfl⟩ := hd
 have hv : cell (env ++ [.int i, d']) n = .int i := by subst hn; simp [cell]
 simp only [wp_ite', den_op, dens_cons, dens_nil, den_var, op_bin, intV_lss, hL, hv, D.asInt_int, D.asBool_bool, cell_zero, cell_succ, tt_ok, tt_no]
 refine ⟨fun hlt => ?_, fun hge => ?_⟩
 · refine VC.wp_mono2 (fun _ h => h) _ _ _ _ (fun j v h => ?_) (hb i d' (by omega) hk hI)
   by_cases e : j = l
   · subst e
     simp only [setB_eq] at h ⊢
     obtain ⟨y, rfl, h⟩ := h
     rw [w64 (by omega) (by omega)]
     exact ⟨⟨i + 1, y, by simp, by omega, h⟩, by simp; omega⟩
   · rw [setB_ne e] at h ⊢; exact h
 · have : i = N := by omega
   subst this
   exact hr _ hk hI _
theorem loop2'_wp {id l n : Nat} {fs : List (K × Nat)} {L e0 : E} {body rest : VC} {N : Nat} (hn : env.length + 1 = n) (hL : ∀ d d', (L.den Φ (env ++ [d', d])).asInt = N) (hN : (N : Int) ≤ 140737488355328) (I : Nat → D → Prop) (h0 : I 0 (e0.den Φ env))
   (hb : ∀ (i : Nat) (x : D), i < N → (∀ q ∈ fs, WFD q.1 (cell (env ++ [x, .int i]) q.2)) → I i x → body.wp Φ post (env ++ [x, .int i]) (setB B l fun v => ∃ y, v = [y, .int (IntKind.i64.wrap (i + 1))] ∧ I (i + 1) y))
   (hr : ∀ x, (∀ q ∈ fs, WFD q.1 (cell (env ++ [x, .int N]) q.2)) → I N x → ∀ p, rest.wp Φ post (env ++ [x, .int N]) (setB B l p)) :
   (VC.loop id l 2 fs [e0, .int 0] (.ite (.op (.bin .lss .i64) [.var n, L]) body rest)).wp Φ post env B := by
 refine wp_loop' (fun v => ∃ (i : Nat) (x : D), v = [x, .int i] ∧ i ≤ N ∧ I i x) (fun v => N - (cell v 1).asInt.toNat) ⟨0, _, rfl, by omega, h0⟩ ?_
 simp only [allN_succ, allN_zero]
 intro d d'
 refine kinds_intro fun hk => ?_
 rintro ⟨i, x, hd, hi, hI⟩
 simp only [List.cons.injEq, and_true] at hd
 obtain ⟨rfl, rfl⟩ := hd
 have hv : cell (env ++ [d, .int i]) n = .int i := by subst hn; simp [cell]
 simp only [wp_ite', den_op, dens_cons, dens_nil, den_var, op_bin, intV_lss, hL, hv, D.asInt_int, D.asBool_bool, cell_zero, cell_succ, tt_ok, tt_no]
 refine ⟨fun hlt => ?_, fun hge => ?_⟩
 · refine VC.wp_mono2 (fun _ h => h) _ _ _ _ (fun j v h => ?_) (hb i d (by omega) hk hI)
   by_cases e : j = l
   · subst e
     simp only [setB_eq] at h ⊢
     obtain ⟨y, rfl, h⟩ := h
     rw [w64 (by omega) (by omega)]
     exact ⟨⟨i + 1, y, by simp, by omega, h⟩, by simp; omega⟩
   · rw [setB_ne e] at h ⊢; exact h
 · have : i = N := by omega
   subst this
   exact hr _ hk hI _
end
open Classical in
noncomputable def findR (p : List D → Prop) : List (List D) → Nat → Int
 | [], _ => -1
 | x :: xs, n => if p x then n else findR p xs (n + 1)
theorem findR_at {p : List D → Prop} : ∀ {xs : List (List D)} {n i : Nat}, i < xs.length → (∀ m, m < i → ¬ p (rowN xs m)) → p (rowN xs i) → findR p xs n = (n + i : Nat)
 | [], n, i, h, _, _ => by simp at h
 | x :: xs, n, 0, _, _, h2 => by simp only [rowN_zero] at h2; simp [findR, h2]
 | x :: xs, n, i + 1, h, h1, h2 => by
   have h0 := h1 0 (by omega)
   simp only [rowN_zero] at h0
   rw [findR, if_neg h0, findR_at (xs := xs) (n := n + 1) (i := i) (by simpa using h) (fun m hm => by have := h1 (m + 1) (by omega); simpa using this) (by simpa using h2)]
   congr 1
   omega
theorem findR_no {p : List D → Prop} : ∀ {xs : List (List D)} {n : Nat}, (∀ m, m < xs.length → ¬ p (rowN xs m)) → findR p xs n = -1
 | [], n, _ => rfl
 | x :: xs, n, h => by
   have h0 := h 0 (by simp)
   simp only [rowN_zero] at h0
   rw [findR, if_neg h0, findR_no (xs := xs) fun m hm => by have := h (m + 1) (by simpa using hm); simpa using this]
theorem findR_cases (p : List D → Prop) (xs : List (List D)) : (findR p xs 0 = -1 ∧ ∀ m, m < xs.length → ¬ p (rowN xs m)) ∨ ∃ i : Nat, i < xs.length ∧ findR p xs 0 = i ∧ p (rowN xs i) ∧ ∀ m, m < i → ¬ p (rowN xs m) := by
 by_cases h : ∀ m, m < xs.length → ¬ p (rowN xs m)
 · exact .inl ⟨findR_no h, h⟩
 · simp only [Classical.not_forall, Classical.not_not] at h
   obtain ⟨m, hm, hp⟩ := h
   obtain ⟨i, ⟨hi, hpi⟩, hmin⟩ := least (p := fun i => i < xs.length ∧ p (rowN xs i)) m ⟨hm, hp⟩
   have h1 : ∀ j, j < i → ¬ p (rowN xs j) := fun j hj hpj => by
     have := hmin j ⟨by omega, hpj⟩
     omega
   exact .inr ⟨i, hi, by rw [findR_at hi h1 hpi]; simp, hpi, h1⟩
theorem rowN_take {xs : List (List D)} {n i : Nat} (h : i < n) : rowN (xs.take n) i = rowN xs i := by
 simp [rowN, List.getElem?_take, h]
theorem eqR_iff {p : List D → List D → Bool} : ∀ {xs ys : List (List D)}, eqR p xs ys = true ↔ xs.length = ys.length ∧ ∀ i, i < xs.length → p (rowN xs i) (rowN ys i) = true
 | [], [] => by simp [eqR]
 | [], _ :: _ => by simp [eqR]
 | _ :: _, [] => by simp [eqR]
 | x :: xs, y :: ys => by
   simp only [eqR, Bool.and_eq_true, eqR_iff (xs := xs) (ys := ys), List.length_cons, Nat.add_right_cancel_iff]
   constructor
   · rintro ⟨h1, h2, h3⟩
     refine ⟨h2, fun i hi => ?_⟩
     cases i with
     | zero => exact h1
     | succ i => exact h3 i (by omega)
   · rintro ⟨h1, h2⟩
     exact ⟨h2 0 (by omega), h1, fun i hi => by simpa using h2 (i + 1) (by omega)⟩
@[simp] theorem op_rows (Φ : Fns) (m : Nat) (ds : List D) : opD Φ (.rows m) ds = .sl (chunk m (ds.length / m) ds) := rfl
theorem sumR_map {p : List D → Nat} {f : List D → List D} (h : ∀ r, p (f r) = p r) : ∀ xs, sumR p (xs.map f) = sumR p xs
 | [] => rfl
 | x :: xs => by simp [sumR, h, sumR_map h xs]
mutual
theorem szD_cnD : ∀ (k : K) (d : D), szD k (cnD k d) = szD k d
 | .int _, d => rfl
 | .bool, d => rfl
 | .str, d => rfl
 | .sl _ ks, d => by simp only [cnD, szD, D.asList_sl, List.length_map, sumR_map (szDs_cnDs ks)]
theorem szDs_cnDs : ∀ (ks : List K) (r : List D), szDs ks (cnDs ks r) = szDs ks r
 | [], r => rfl
 | k :: ks, r => by simp only [cnDs, szDs, List.headD_cons, List.tail_cons, szD_cnD k, szDs_cnDs ks]
end
def aslC : K → D → D
 | .sl _ _, d => .sl d.asList
 | _, d => d
def aslRow : List K → Nat → List D → List D
 | [], _, _ => []
 | k :: ks, j, r => aslC k (cell r j) :: aslRow ks (j + 1) r
end Go.Vx
namespace Go.Vx
open Go.RowKit (Below)
def dgt : Nat → Nat → ByteArray → ByteArray
 | 0, _, s => s
 | f + 1, n, s => if n = 0 then s else dgt f (n / 10) (bytesOf [[.int ((48 + n % 10 : Nat) : Int)]] ++ s)
noncomputable def mtext (k : Int) : ByteArray := if k ≤ 0 then ⟨#[109, 48]⟩ else ⟨#[109]⟩ ++ dgt k.toNat k.toNat ⟨#[]⟩
theorem ba_size_append (a b : ByteArray) : (a ++ b).size = a.size + b.size := by simp
def scanR (f : List D → Int → List D) (c : List D → Nat) : List (List D) → Int → List (List D)
 | [], _ => []
 | r :: rs, n => f r n :: scanR f c rs (n + c r)
def allR (p : List D → Int → Prop) (c : List D → Nat) : List (List D) → Int → Prop
 | [], _ => True
 | r :: rs, n => p r n ∧ allR p c rs (n + c r)
mutual
def cntD : K → D → Nat
 | .sl _ ks, d => sumR (cntDs ks) d.asList
 | _, _ => 1
def cntDs : List K → List D → Nat
 | [], _ => 0
 | k :: ks, ds => cntD k (ds.headD default) + cntDs ks ds.tail
end
mutual
noncomputable def mrkD : K → D → Int → D
 | .int _, _, n => .int n
 | .bool, _, n => .bool (tt (n.tmod 3 = 0))
 | .str, _, n => .str (mtext n)
 | .sl _ ks, d, n => .sl (scanR (mrkDs ks) (cntDs ks) d.asList n)
noncomputable def mrkDs : List K → List D → Int → List D
 | [], _, _ => []
 | k :: ks, ds, n => mrkD k (ds.headD default) n :: mrkDs ks ds.tail (n + cntD k (ds.headD default))
end
mutual
def mkdD : K → D → Int → Prop
 | .int _, d, n => d.asInt = n
 | .bool, d, n => d.asBool = tt (n.tmod 3 = 0)
 | .str, d, n => d.asStr = mtext n
 | .sl _ ks, d, n => allR (mkdDs ks) (cntDs ks) d.asList n
def mkdDs : List K → List D → Int → Prop
 | [], _, _ => True
 | k :: ks, ds, n => mkdD k (ds.headD default) n ∧ mkdDs ks ds.tail (n + cntD k (ds.headD default))
end
mutual
def lenD : K → D → Prop
 | .sl _ ks, d => d.asList.length ≤ 140737488355328 ∧ ∀ r ∈ d.asList, r.length = ks.length ∧ lenDs ks r
 | _, _ => True
def lenDs : List K → List D → Prop
 | [], _ => True
 | k :: ks, ds => lenD k (ds.headD default) ∧ lenDs ks ds.tail
end
theorem cntDs_cons (k : K) (ks : List K) (r : List D) : cntDs (k :: ks) r = cntD k (cell r 0) + cntDs ks r.tail := by rw [cntDs, headD_cell]
theorem mrkDs_cons (k : K) (ks : List K) (r : List D) (n : Int) : mrkDs (k :: ks) r n = mrkD k (cell r 0) n :: mrkDs ks r.tail (n + cntD k (cell r 0)) := by rw [mrkDs, headD_cell]
theorem mkdDs_cons (k : K) (ks : List K) (r : List D) (n : Int) : mkdDs (k :: ks) r n = (mkdD k (cell r 0) n ∧ mkdDs ks r.tail (n + cntD k (cell r 0))) := by rw [mkdDs, headD_cell]
theorem lenDs_cons (k : K) (ks : List K) (r : List D) : lenDs (k :: ks) r = (lenD k (cell r 0) ∧ lenDs ks r.tail) := by rw [lenDs, headD_cell]
theorem cntD_sl (e : TypeId) (ks : List K) (d : D) : cntD (.sl e ks) d = sumR (cntDs ks) d.asList := rfl
theorem mrkD_sl (e : TypeId) (ks : List K) (d : D) (n : Int) : mrkD (.sl e ks) d n = .sl (scanR (mrkDs ks) (cntDs ks) d.asList n) := rfl
theorem scanR_sum {f : List D → Int → List D} {c p : List D → Nat} (h : ∀ r n, p (f r n) = p r) : ∀ (xs : List (List D)) (n : Int), sumR p (scanR f c xs n) = sumR p xs
 | [], _ => rfl
 | x :: xs, n => by simp [scanR, sumR, h, scanR_sum h xs]
theorem scanR_all {f : List D → Int → List D} {c : List D → Nat} {p : List D → Int → Prop} (h : ∀ r n, p (f r n) n) (hc : ∀ r n, c (f r n) = c r) : ∀ (xs : List (List D)) (n : Int), allR p c (scanR f c xs n) n
 | [], _ => trivial
 | x :: xs, n => ⟨h x n, by rw [hc]; exact scanR_all h hc xs _⟩
mutual
theorem cntD_mrk : ∀ (k : K) (d : D) (n : Int), cntD k (mrkD k d n) = cntD k d
 | .int _, _, _ => rfl
 | .bool, _, _ => rfl
 | .str, _, _ => rfl
 | .sl _ ks, d, n => by rw [mrkD_sl, cntD_sl, cntD_sl, D.asList_sl, scanR_sum (cntDs_mrk ks)]
theorem cntDs_mrk : ∀ (ks : List K) (r : List D) (n : Int), cntDs ks (mrkDs ks r n) = cntDs ks r
 | [], _, _ => rfl
 | k :: ks, r, n => by rw [mrkDs_cons, cntDs_cons, cntDs_cons, cell_zero, List.tail_cons, cntD_mrk k, cntDs_mrk ks]
end
mutual
theorem mkdD_mrk : ∀ (k : K) (d : D) (n : Int), mkdD k (mrkD k d n) n
 | .int _, _, _ => rfl
 | .bool, _, _ => rfl
 | .str, _, _ => rfl
 | .sl _ ks, d, n => scanR_all (mkdDs_mrk ks) (cntDs_mrk ks) d.asList n
theorem mkdDs_mrk : ∀ (ks : List K) (r : List D) (n : Int), mkdDs ks (mrkDs ks r n) n
 | [], _, _ => trivial
 | k :: ks, r, n => by
   rw [mrkDs_cons, mkdDs_cons, cell_zero, List.tail_cons, cntD_mrk k]
   exact ⟨mkdD_mrk k _ n, mkdDs_mrk ks _ _⟩
end
mutual
theorem cntD_cn : ∀ (k : K) (d : D), cntD k (cnD k d) = cntD k d
 | .int _, _ => rfl
 | .bool, _ => rfl
 | .str, _ => rfl
 | .sl _ ks, d => by simp only [cnD, cntD_sl, D.asList_sl, sumR_map (cntDs_cn ks)]
theorem cntDs_cn : ∀ (ks : List K) (r : List D), cntDs ks (cnDs ks r) = cntDs ks r
 | [], _ => rfl
 | k :: ks, r => by rw [cnDs_cons, cntDs_cons, cntDs_cons, cell_zero, List.tail_cons, cntD_cn k, cntDs_cn ks]
end
theorem sumR_mem {p : List D → Nat} : ∀ {xs : List (List D)} {x : List D}, x ∈ xs → p x ≤ sumR p xs
 | [], _, h => by simp at h
 | y :: xs, x, h => by
   rcases List.mem_cons.1 h with rfl | h
   · simp [sumR]
   · have := sumR_mem (p := p) h
     simp only [sumR]; omega
mutual
theorem lenD_cn : ∀ (k : K) (d : D), szD k d ≤ 140737488355328 → lenD k (cnD k d)
 | .int _, _, _ => trivial
 | .bool, _, _ => trivial
 | .str, _, _ => trivial
 | .sl _ ks, d, h => by
   simp only [szD] at h
   refine ⟨by simp only [cnD, D.asList_sl, List.length_map]; omega, fun r hr => ?_⟩
   simp only [cnD, D.asList_sl, List.mem_map] at hr
   obtain ⟨x, hx, rfl⟩ := hr
   have := sumR_mem (p := szDs ks) hx
   exact ⟨cnDs_length ks x, lenDs_cn ks x (by omega)⟩
theorem lenDs_cn : ∀ (ks : List K) (r : List D), szDs ks r ≤ 140737488355328 → lenDs ks (cnDs ks r)
 | [], _, _ => trivial
 | k :: ks, r, h => by
   rw [szDs_cons] at h
   rw [cnDs_cons, lenDs_cons, cell_zero, List.tail_cons]
   exact ⟨lenD_cn k _ (by omega), lenDs_cn ks _ (by omega)⟩
end
def thin (C : Nat) : K → Bool
 | .sl _ ks => Nat.ble ks.length C && thins C ks
 | _ => true
where thins (C : Nat) : List K → Bool
 | [] => true
 | k :: ks => thin C k && thins C ks
theorem sumR_bound {p q : List D → Nat} {C : Nat} (h : ∀ r, p r ≤ C + C * q r) : ∀ xs, sumR p xs ≤ C * (xs.length + sumR q xs)
 | [] => by simp [sumR]
 | x :: xs => by
   have h1 := h x
   have h2 := sumR_bound h xs
   simp only [sumR, List.length_cons]
   have : C * (xs.length + 1 + (q x + sumR q xs)) = C + C * q x + C * (xs.length + sumR q xs) := by
     rw [show xs.length + 1 + (q x + sumR q xs) = 1 + q x + (xs.length + sumR q xs) by omega, Nat.mul_add, Nat.mul_add, Nat.mul_one]
   omega
mutual
theorem cntD_le {C : Nat} : ∀ (k : K) (d : D), thin C k = true → cntD k d ≤ 1 + C * szD k d
 | .int _, _, _ => by simp [cntD]
 | .bool, _, _ => by simp [cntD]
 | .str, _, _ => by simp [cntD]
 | .sl _ ks, d, h => by
   simp only [thin, Bool.and_eq_true] at h
   have hl := Nat.le_of_ble_eq_true h.1
   have := sumR_bound (p := cntDs ks) (q := szDs ks) (C := C) (fun r => Nat.le_trans (cntDs_le ks r h.2) (by omega)) d.asList
   rw [cntD_sl]
   simp only [szD]
   omega
theorem cntDs_le {C : Nat} : ∀ (ks : List K) (r : List D), thin.thins C ks = true → cntDs ks r ≤ ks.length + C * szDs ks r
 | [], _, _ => by simp [cntDs]
 | k :: ks, r, h => by
   simp only [thin.thins, Bool.and_eq_true] at h
   have h1 := cntD_le k (cell r 0) h.1
   have h2 := cntDs_le ks r.tail h.2
   rw [cntDs_cons, szDs_cons, Nat.mul_add, List.length_cons]
   omega
end
@[simp] theorem con_2000 (pre : List D → Prop) (f : Nat → List D → D) (ds : List D) : con pre f 2000 ds = f 2000 ds := rfl
section
variable {Φ : Fns} {post : List D → Prop} {B : Nat → List D → Prop}
end
end Go.Vx
namespace Go.Vx
open Go.RowKit (Below)
section
variable {g : List D → List (List D)}
theorem fm_take {xs : List (List D)} {i : Nat} (h : i < xs.length) : (xs.take (i + 1)).flatMap g = (xs.take i).flatMap g ++ g (rowN xs i) := by
 rw [List.take_add_one, List.getElem?_eq_getElem h, List.flatMap_append, rowN_lt h]
 simp
theorem fm_len {q : List D → Nat} (h : ∀ r, (g r).length ≤ q r) : ∀ xs : List (List D), (xs.flatMap g).length ≤ sumR q xs
 | [] => by simp [sumR]
 | x :: xs => by
   have h1 := h x
   have h2 := fm_len h xs
   simp only [List.flatMap_cons, List.length_append, sumR]
   omega
theorem sumR_le {p q : List D → Nat} (h : ∀ r, p r ≤ q r) : ∀ xs : List (List D), sumR p xs ≤ sumR q xs
 | [] => by simp [sumR]
 | x :: xs => by
   have h1 := h x
   have h2 := sumR_le h xs
   simp only [sumR]
   omega
theorem sumR_rowN {p : List D → Nat} {xs : List (List D)} {i : Nat} (h : i < xs.length) : p (rowN xs i) ≤ sumR p xs := sumR_mem (rowN_mem h)
end
section
variable {Φ : Fns} {post : List D → Prop} {env : List D} {B : Nat → List D → Prop} {g : List D → List (List D)}
theorem fm_wp {id l n : Nat} {fs : List (K × Nat)} {L e0 : E} {body rest : VC} {xs : List (List D)} (hn : env.length = n) (hL : ∀ d d', (L.den Φ (env ++ [d, d'])).asInt = xs.length) (hN : (xs.length : Int) ≤ 140737488355328) (h0 : (e0.den Φ env).asList = [])
   (hb : ∀ (i : Nat) (x : D), i < xs.length → x.asList = (xs.take i).flatMap g → body.wp Φ post (env ++ [.int i, x]) (setB B l fun v => ∃ y, v = [.int (IntKind.i64.wrap (i + 1)), y] ∧ y.asList = x.asList ++ g (rowN xs i)))
   (hr : ∀ x, x.asList = xs.flatMap g → ∀ p, rest.wp Φ post (env ++ [.int xs.length, x]) (setB B l p)) :
   (VC.loop id l 2 fs [.int 0, e0] (.ite (.op (.bin .lss .i64) [.var n, L]) body rest)).wp Φ post env B := by
 refine loop2_wp hn hL hN (fun i x => x.asList = (xs.take i).flatMap g) (by simp [h0]) (fun i x hi _ hx => ?_) fun x _ hx p => hr x (by rw [hx, List.take_of_length_le (Nat.le_refl _)]) p
 refine VC.wp_mono2 (fun _ h => h) _ _ _ _ (fun j v h => ?_) (hb i x hi hx)
 by_cases e : j = l
 · subst e
   simp only [setB_eq] at h ⊢
   obtain ⟨y, rfl, h1⟩ := h
   exact ⟨y, rfl, by rw [fm_take hi, ← hx]; exact h1⟩
 · rw [setB_ne e] at h ⊢; exact h
theorem fm_wp' {id l n : Nat} {fs : List (K × Nat)} {L e0 : E} {body rest : VC} {xs : List (List D)} (hn : env.length + 1 = n) (hL : ∀ d d', (L.den Φ (env ++ [d', d])).asInt = xs.length) (hN : (xs.length : Int) ≤ 140737488355328) (h0 : (e0.den Φ env).asList = [])
   (hb : ∀ (i : Nat) (x : D), i < xs.length → x.asList = (xs.take i).flatMap g → body.wp Φ post (env ++ [x, .int i]) (setB B l fun v => ∃ y, v = [y, .int (IntKind.i64.wrap (i + 1))] ∧ y.asList = x.asList ++ g (rowN xs i)))
   (hr : ∀ x, x.asList = xs.flatMap g → ∀ p, rest.wp Φ post (env ++ [x, .int xs.length]) (setB B l p)) :
   (VC.loop id l 2 fs [e0, .int 0] (.ite (.op (.bin .lss .i64) [.var n, L]) body rest)).wp Φ post env B := by
 refine loop2'_wp hn hL hN (fun i x => x.asList = (xs.take i).flatMap g) (by simp [h0]) (fun i x hi _ hx => ?_) fun x _ hx p => hr x (by rw [hx, List.take_of_length_le (Nat.le_refl _)]) p
 refine VC.wp_mono2 (fun _ h => h) _ _ _ _ (fun j v h => ?_) (hb i x hi hx)
 by_cases e : j = l
 · subst e
   simp only [setB_eq] at h ⊢
   obtain ⟨y, rfl, h1⟩ := h
   exact ⟨y, rfl, by rw [fm_take hi, ← hx]; exact h1⟩
 · rw [setB_ne e] at h ⊢; exact h
end
end Go.Vx
namespace Go.Vx
section
variable {Φ : Fns} {post : List D → Prop} {env : List D} {B : Nat → List D → Prop}
theorem loopS_wp {id l n s : Nat} {fs : List (K × Nat)} {L : E} {body rest : VC} {N : Nat} (hn : env.length = n) (hL : ∀ d, (L.den Φ (env ++ [d])).asInt = N) (hN : (N : Int) ≤ 140737488355328) (hs : s ≤ 1) (I : Nat → Prop) (h0 : I s)
   (hb : ∀ i : Nat, s ≤ i → i < N → I i → body.wp Φ post (env ++ [.int i]) (setB B l fun v => v = [.int (IntKind.i64.wrap (i + 1))] ∧ I (i + 1)))
   (hr : ∀ i : Nat, N ≤ i → (i = N ∨ i = s) → I i → ∀ p, rest.wp Φ post (env ++ [.int i]) (setB B l p)) :
   (VC.loop id l 1 fs [.int (s : Int)] (.ite (.op (.bin .lss .i64) [.var n, L]) body rest)).wp Φ post env B := by
 refine wp_loop' (fun v => ∃ i : Nat, v = [.int i] ∧ s ≤ i ∧ (i ≤ N ∨ i = s) ∧ I i) (fun v => N - (cell v 0).asInt.toNat) ⟨s, rfl, by omega, by omega, h0⟩ ?_
 simp only [allN_succ, allN_zero]
 intro d
 refine kinds_intro fun _ => ?_
 rintro ⟨i, hd, hsi, hi, hI⟩
 simp only [List.cons.injEq, and_true] at hd
 subst hd
 have hv : cell (env ++ [.int i]) n = .int i := by subst hn; simp [cell]
 simp only [wp_ite', den_op, dens_cons, dens_nil, den_var, op_bin, intV_lss, hL, hv, D.asInt_int, D.asBool_bool, cell_zero, cell_succ, tt_ok, tt_no]
 refine ⟨fun hlt => ?_, fun hge => ?_⟩
 · refine VC.wp_mono2 (fun _ h => h) _ _ _ _ (fun j v h => ?_) (hb i hsi (by omega) hI)
   by_cases e : j = l
   · subst e
     simp only [setB_eq] at h ⊢
     obtain ⟨rfl, h⟩ := h
     rw [w64 (by omega) (by omega)]
     exact ⟨⟨i + 1, by simp, by omega, by omega, h⟩, by simp; omega⟩
   · rw [setB_ne e] at h ⊢; exact h
 · exact hr i (by omega) (by omega) hI _
section
variable {id l n s : Nat} {fs : List (K × Nat)} {L c : E} {cs cs2 : List E} {x rest : VC} {N : Nat}
theorem scan_next {p : Nat → Prop} {s i : Nat} (h : ∀ j, s ≤ j → j < i → ¬ p j) (hi : ¬ p i) : ∀ j, s ≤ j → j < i + 1 → ¬ p j := fun j h1 h2 => by
 by_cases e : j = i
 · exact e ▸ hi
 · exact h j h1 (by omega)
theorem back_next (hn : env.length = n) {i : Nat} {I : Nat → Prop} (h : I (i + 1)) : (VC.back l [.op (.bin .add .i64) [.var n, .int 1]]).wp Φ post (env ++ [.int i]) (setB B l fun v => v = [.int (IntKind.i64.wrap (i + 1))] ∧ I (i + 1)) := by
 have hv : cell (env ++ [.int (i : Int)]) n = .int i := by subst hn; simp [cell]
 simp only [wp_back', setB_eq, List.map_cons, List.map_nil, den_op, dens_cons, dens_nil, den_var, den_int, hv, op_bin, intV_add, D.asInt_int]
 exact ⟨trivial, h⟩
theorem scan_wp (p : Nat → Prop) (hn : env.length = n) (hL : ∀ d, (L.den Φ (env ++ [d])).asInt = N) (hN : (N : Int) ≤ 140737488355328) (hs : s ≤ 1)
   (hc : ∀ i, s ≤ i → i < N → (∀ j, s ≤ j → j < i → ¬ p j) → conj Φ (env ++ [.int i]) cs ∧ ((c.den Φ (env ++ [.int i])).asBool = true ↔ p i))
   (hx : ∀ i, s ≤ i → i < N → (∀ j, s ≤ j → j < i → ¬ p j) → p i → ∀ q, x.wp Φ post (env ++ [.int i]) (setB B l q))
   (hr : (∀ j, s ≤ j → j < N → ¬ p j) → ∀ (i : Nat) q, rest.wp Φ post (env ++ [.int i]) (setB B l q)) :
   (VC.loop id l 1 fs [.int (s : Int)] (.ite (.op (.bin .lss .i64) [.var n, L]) (.req cs (.ite c x (.back l [.op (.bin .add .i64) [.var n, .int 1]]))) rest)).wp Φ post env B := by
 refine loopS_wp hn hL hN hs (fun i => ∀ j, s ≤ j → j < i → ¬ p j) (fun j _ _ => by omega) (fun i h1 h2 hI => ?_) fun i h1 h2 hI q => hr (fun j h3 h4 => hI j h3 (by omega)) i q
 obtain ⟨h3, h4⟩ := hc i h1 h2 hI
 rw [wp_req', wp_ite']
 refine ⟨h3, fun h => hx i h1 h2 hI (h4.1 h) _, fun h => back_next (I := fun i => ∀ j, s ≤ j → j < i → ¬ p j) hn (scan_next hI fun hp => ?_)⟩
 rw [h4.2 hp] at h; cases h
theorem scan2_wp (p : Nat → Prop) (hn : env.length = n) (hL : ∀ d, (L.den Φ (env ++ [d])).asInt = N) (hN : (N : Int) ≤ 140737488355328) (hs : s ≤ 1)
   (hc : ∀ i, s ≤ i → i < N → (∀ j, s ≤ j → j < i → ¬ p j) → conj Φ (env ++ [.int i]) cs ∧ conj Φ (env ++ [.int i]) cs2 ∧ ((c.den Φ (env ++ [.int i])).asBool = true ↔ p i))
   (hx : ∀ i, s ≤ i → i < N → (∀ j, s ≤ j → j < i → ¬ p j) → p i → ∀ q, x.wp Φ post (env ++ [.int i]) (setB B l q))
   (hr : (∀ j, s ≤ j → j < N → ¬ p j) → ∀ (i : Nat) q, rest.wp Φ post (env ++ [.int i]) (setB B l q)) :
   (VC.loop id l 1 fs [.int (s : Int)] (.ite (.op (.bin .lss .i64) [.var n, L]) (.req cs (.req cs2 (.ite c x (.back l [.op (.bin .add .i64) [.var n, .int 1]])))) rest)).wp Φ post env B := by
 refine loopS_wp hn hL hN hs (fun i => ∀ j, s ≤ j → j < i → ¬ p j) (fun j _ _ => by omega) (fun i h1 h2 hI => ?_) fun i h1 h2 hI q => hr (fun j h3 h4 => hI j h3 (by omega)) i q
 obtain ⟨h3, h5, h4⟩ := hc i h1 h2 hI
 rw [wp_req', wp_req', wp_ite']
 refine ⟨h3, h5, fun h => hx i h1 h2 hI (h4.1 h) _, fun h => back_next (I := fun i => ∀ j, s ≤ j → j < i → ¬ p j) hn (scan_next hI fun hp => ?_)⟩
 rw [h4.2 hp] at h; cases h
theorem scan_all {P : Prop} (good : Nat → Prop) (hn : env.length = n) (hL : ∀ d, (L.den Φ (env ++ [d])).asInt = N) (hN : (N : Int) ≤ 140737488355328) (hs : s ≤ 1) (hP : P → ∀ i, s ≤ i → i < N → good i)
   (hc : ∀ i, s ≤ i → i < N → (∀ j, s ≤ j → j < i → good j) → conj Φ (env ++ [.int i]) cs ∧ ((c.den Φ (env ++ [.int i])).asBool = true ↔ ¬ good i))
   (hr : (∀ j, s ≤ j → j < N → good j) → ∀ (i : Nat) q, rest.wp Φ (fun l => l = [.bool (tt P)]) (env ++ [.int i]) (setB B l q)) :
   (VC.loop id l 1 fs [.int (s : Int)] (.ite (.op (.bin .lss .i64) [.var n, L]) (.req cs (.ite c (.ret [.bool false]) (.back l [.op (.bin .add .i64) [.var n, .int 1]]))) rest)).wp Φ (fun l => l = [.bool (tt P)]) env B := by
 refine scan_wp (fun i => ¬ good i) hn hL hN hs (fun i h1 h2 h => hc i h1 h2 fun j h3 h4 => Classical.not_not.1 (h j h3 h4)) (fun i h1 h2 _ hp q => ?_) fun h i q => hr (fun j h3 h4 => Classical.not_not.1 (h j h3 h4)) i q
 show [D.bool false] = [.bool (tt P)]
 rw [(tt_no P).mpr fun hP' => hp (hP hP' i h1 h2)]
theorem scan_all2 {P : Prop} (good : Nat → Prop) (hn : env.length = n) (hL : ∀ d, (L.den Φ (env ++ [d])).asInt = N) (hN : (N : Int) ≤ 140737488355328) (hs : s ≤ 1) (hP : P → ∀ i, s ≤ i → i < N → good i)
   (hc : ∀ i, s ≤ i → i < N → (∀ j, s ≤ j → j < i → good j) → conj Φ (env ++ [.int i]) cs ∧ conj Φ (env ++ [.int i]) cs2 ∧ ((c.den Φ (env ++ [.int i])).asBool = true ↔ ¬ good i))
   (hr : (∀ j, s ≤ j → j < N → good j) → ∀ (i : Nat) q, rest.wp Φ (fun l => l = [.bool (tt P)]) (env ++ [.int i]) (setB B l q)) :
   (VC.loop id l 1 fs [.int (s : Int)] (.ite (.op (.bin .lss .i64) [.var n, L]) (.req cs (.req cs2 (.ite c (.ret [.bool false]) (.back l [.op (.bin .add .i64) [.var n, .int 1]])))) rest)).wp Φ (fun l => l = [.bool (tt P)]) env B := by
 refine scan2_wp (fun i => ¬ good i) hn hL hN hs (fun i h1 h2 h => hc i h1 h2 fun j h3 h4 => Classical.not_not.1 (h j h3 h4)) (fun i h1 h2 _ hp q => ?_) fun h i q => hr (fun j h3 h4 => Classical.not_not.1 (h j h3 h4)) i q
 show [D.bool false] = [.bool (tt P)]
 rw [(tt_no P).mpr fun hP' => hp (hP hP' i h1 h2)]
end
end
theorem wfs_at : ∀ {ks : List K} {r : List D}, WFas ks r → ∀ (j : Nat) {e : TypeId} {ks' : List K}, ks[j]? = some (.sl e ks') → ((cell r j).asList.length : Int) ≤ 140737488355328
 | [], _, _, j, _, _, h => by simp at h
 | k :: ks, r, hw, 0, e, ks', h => by
   simp only [List.getElem?_cons_zero, Option.some.injEq] at h
   subst h
   rw [WFas_cons] at hw
   have := hw.1.1
   simp only [lenMax] at this
   omega
 | k :: ks, r, hw, j + 1, e, ks', h => by
   rw [WFas_cons] at hw
   have := wfs_at hw.2 j (by simpa using h)
   rwa [cell_tail] at this
theorem eqR_symm' {p : List D → List D → Bool} (h : ∀ x y, p x y = p y x) : ∀ xs ys : List (List D), eqR p xs ys = eqR p ys xs
 | [], [] => rfl
 | [], _ :: _ => rfl
 | _ :: _, [] => rfl
 | x :: xs, y :: ys => by simp only [eqR, h x y, eqR_symm' h xs ys]
mutual
theorem eqD_symm : ∀ (k : K) (d e : D), eqD k d e = eqD k e d
 | .int _, d, e => by simp only [eqD]; rw [Bool.eq_iff_iff]; simp; exact eq_comm
 | .bool, d, e => by simp only [eqD]; cases d.asBool <;> cases e.asBool <;> rfl
 | .str, d, e => by simp only [eqD]; rw [Bool.eq_iff_iff]; simp; exact eq_comm
 | .sl _ ks, d, e => eqR_symm' (fun x y => eqDs_symm ks x y) d.asList e.asList
theorem eqDs_symm : ∀ (ks : List K) (d e : List D), eqDs ks d e = eqDs ks e d
 | [], _, _ => rfl
 | k :: ks, d, e => by rw [eqDs, eqDs, eqD_symm k, eqDs_symm ks]
end
theorem eqr_int (k : IntKind) (x y : D) : eqRets (RSh.one (RC.im (.int k))).cells [x] [y] = (x.asInt = y.asInt) := propext ⟨fun h => h.1, fun h => ⟨h, trivial⟩⟩
theorem eq_tt (b : Bool) (p : Prop) : (b = tt p) = (b = true ↔ p) := propext ⟨fun h => by rw [h, tt_ok], fun h => by rw [Bool.eq_iff_iff, tt_ok]; exact h⟩
theorem bif_tt {α : Type} (p : Prop) (x y : α) [Decidable p] : (bif tt p then x else y) = if p then x else y := by
 by_cases h : p
 · rw [(tt_ok p).mpr h, if_pos h]; rfl
 · rw [(tt_no p).mpr h, if_neg h]; rfl
theorem findR_eq {p : List D → Prop} {xs : List (List D)} {i : Nat} (hi : i < xs.length) (h : ∀ j, 0 ≤ j → j < i → ¬ p (rowN xs j)) (hp : p (rowN xs i)) : findR p xs 0 = i := by
 rw [findR_at hi (fun m hm => h m (Nat.zero_le m) hm) hp]; simp
theorem findR_none {p : List D → Prop} {xs : List (List D)} (h : ∀ j, 0 ≤ j → j < xs.length → ¬ p (rowN xs j)) : findR p xs 0 = -1 := findR_no fun m hm => h m (Nat.zero_le m) hm
end Go.Vx

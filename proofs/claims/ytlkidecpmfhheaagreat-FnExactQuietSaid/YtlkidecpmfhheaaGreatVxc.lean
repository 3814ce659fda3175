import Derived.Test.YtlkidecpmfhheaaGreatVxb
import Derived.Orders
set_option linter.all false
namespace Go.Vx
open Go.RowKit (Below)
def AC.mapK (m : Nat → Option Nat) : AC → AC
 | .ref z p => match m z with
   | some z' => .ref z' p
   | none => .dead
 | c => c
mutual
def AV.mapK (m : Nat → Option Nat) : AV → AV
 | .one c => .one (c.mapK m)
 | .agg cs => .agg (cs.map (AC.mapK m))
 | .ptr z i j => match m z with
   | some z' => .ptr z' i j
   | none => .dead
 | .pim ks row => .pim ks row
 | .tup vs => .tup (AV.mapKs m vs)
 | .whn b v => .whn b (v.mapK m)
 | .lod z i j => match m z with
   | some z' => .lod z' i j
   | none => .dead
 | .dead => .dead
def AV.mapKs (m : Nat → Option Nat) : List AV → List AV
 | [] => []
 | v :: vs => v.mapK m :: AV.mapKs m vs
end
def Ob.mapK (m : Nat → Option Nat) : Ob → Ob
 | .box T cs => .box T (cs.map (AC.mapK m))
 | o => o
def Gh.ren (g : Gh) (n : Nat → Option Nat) : Gh :=
 ⟨fun y => match n y with | some x => g.hd x | none => undef, fun y => match n y with | some x => g.fp x | none => []⟩
section
variable {C : Cx} {g : Gh} {σ σ' : St} {a : Act} {w : World} {m n : Nat → Option Nat}
structure Ren (m n : Nat → Option Nat) (σ σ' : St) : Prop where
 mn : ∀ x y, m x = some y → n y = some x
 nm : ∀ x y, n y = some x → m x = some y
 obj : ∀ y, σ'.obj y = match n y with | some x => (σ.obj x).map (Ob.mapK m) | none => none
theorem Ob.live_mapK (o : Option Ob) : Ob.live (o.map (Ob.mapK m)) = Ob.live o := by
 cases o with
 | none => rfl
 | some o => cases o <;> rfl
theorem Ob.isX_mapK (o : Option Ob) : Ob.isX (o.map (Ob.mapK m)) = Ob.isX o := by
 cases o with
 | none => rfl
 | some o => cases o <;> rfl
theorem Ren.me (r : Ren m n σ σ') {b o : Nat} (h : Me C.M σ'.obj (g.ren n).hd (g.ren n).fp b o) : Me C.M σ.obj g.hd g.fp b o := by
 rcases h with hM | ⟨y, hl, hb⟩ | ⟨y, hl, hb⟩
 · exact .inl hM
 · rw [r.obj] at hl
   cases hn : n y with
   | none => rw [hn] at hl; simp [Ob.live] at hl
   | some x =>
     rw [hn] at hl
     simp only [Gh.ren, hn] at hb
     exact .inr (.inl ⟨x, by rw [Ob.live_mapK] at hl; exact hl, hb⟩)
 · rw [r.obj] at hl
   cases hn : n y with
   | none => rw [hn] at hl; simp [Ob.isX] at hl
   | some x =>
     rw [hn] at hl
     simp only [Gh.ren, hn] at hb
     exact .inr (.inr ⟨x, by rw [Ob.isX_mapK] at hl; exact hl, hb⟩)
theorem Ren.keeps (r : Ren m n σ σ') : Keeps w (Me C.M σ.obj g.hd g.fp) w (Me C.M σ'.obj (g.ren n).hd (g.ren n).fp) := fun _ _ _ hc hn => ⟨hc, fun h => hn (r.me h)⟩
theorem Ren.ref (r : Ren m n σ σ') {x y : Nat} (hxy : m x = some y) {p : Option (Nat × Nat)} {v : Value} (h : RefRep (sur C g σ w) x p v) : RefRep (sur C (g.ren n) σ' w) y p v := by
 have hn := r.mn x y hxy
 unfold RefRep at h ⊢
 simp only [sur, r.obj, hn] at h ⊢
 have hh : (g.ren n).hd y = g.hd x := by simp only [Gh.ren, hn]
 cases he : σ.obj x with
 | none => rw [he] at h; exact h
 | some o =>
   rw [he] at h
   cases o with
   | box T cs => exact h
   | arr e ks dp xs => simp only [Option.map_some, Ob.mapK, hh]; exact h
   | «sealed» e ks xs => exact ⟨h.1, h.2.keeps r.keeps⟩
   | gone => trivial
   | arx e ks xs => simp only [Option.map_some, Ob.mapK, hh]; exact h
theorem Ren.ptr (r : Ren m n σ σ') {x y : Nat} (hxy : m x = some y) {i j : Nat} {v : Value} (h : PtrRep (sur C g σ w) x i j v) : PtrRep (sur C (g.ren n) σ' w) y i j v := by
 have hn := r.mn x y hxy
 unfold PtrRep at h ⊢
 simp only [sur, r.obj, hn] at h ⊢
 have hh : (g.ren n).hd y = g.hd x := by simp only [Gh.ren, hn]
 cases he : σ.obj x with
 | none => rw [he] at h; exact h
 | some o =>
   rw [he] at h
   cases o with
   | box T cs => simp only [Option.map_some, Ob.mapK, hh]; exact h
   | arr e ks dp xs => simp only [Option.map_some, Ob.mapK, hh]; exact h
   | «sealed» e ks xs => trivial
   | gone => trivial
   | arx e ks xs => simp only [Option.map_some, Ob.mapK, hh]; exact h
theorem Ren.lod (r : Ren m n σ σ') {x y : Nat} (hxy : m x = some y) {i j : Nat} {v : Value} (h : LodRep (sur C g σ w) x i j v) : LodRep (sur C (g.ren n) σ' w) y i j v := by
 have hn := r.mn x y hxy
 unfold LodRep at h ⊢
 simp only [sur, r.obj, hn] at h ⊢
 have hh : (g.ren n).hd y = g.hd x := by simp only [Gh.ren, hn]
 cases he : σ.obj x with
 | none => rw [he] at h; exact h
 | some o =>
   rw [he] at h
   cases o with
   | arx e ks xs => simp only [Option.map_some, Ob.mapK, hh]; exact h
   | _ => trivial
theorem Ren.ac (r : Ren m n σ σ') : ∀ {c : AC} {v : Value}, RepAC (sur C g σ w) c v → RepAC (sur C (g.ren n) σ' w) (c.mapK m) v
 | .dat k d, v, h => RepC.keeps r.keeps h
 | .nil _ _, v, h => h
 | .ref x p, v, h => by
   simp only [AC.mapK]
   cases hm : m x with
   | none => trivial
   | some y => exact r.ref hm h
 | .dead, v, h => trivial
theorem Ren.acs (r : Ren m n σ σ') : ∀ {cs : List AC} {vs : List Value}, RepACs (sur C g σ w) cs vs → RepACs (sur C (g.ren n) σ' w) (cs.map (AC.mapK m)) vs
 | [], _, h => h
 | _ :: _, _, ⟨v, vs', e, o, h1, h2⟩ => ⟨v, vs', e, o, r.ac h1, r.acs h2⟩
mutual
theorem Ren.av (r : Ren m n σ σ') : ∀ {u : AV} {v : Value}, RepAV (sur C g σ w) u v → RepAV (sur C (g.ren n) σ' w) (u.mapK m) v
 | .one _, _, h => ⟨r.ac h.1, h.2⟩
 | .agg _, _, h => let ⟨vs, e, h⟩ := h; ⟨vs, e, r.acs h⟩
 | .ptr x i j, _, h => by
   simp only [AV.mapK]
   cases hm : m x with
   | none => trivial
   | some y => exact r.ptr hm h
 | .pim ks row, _, h => by
   obtain ⟨b, o, vs, rfl, hr, hn, hc⟩ := h
   exact ⟨b, o, vs, rfl, hr, fun j hj hme => hn j hj (r.me hme), hc.keeps r.keeps⟩
 | .tup _, _, h => let ⟨vs, e, h⟩ := h; ⟨vs, e, r.avs h⟩
 | .whn _ _, _, h => ⟨fun e => r.av (h.1 e), h.2⟩
 | .lod x i j, _, h => by
   simp only [AV.mapK]
   cases hm : m x with
   | none => trivial
   | some y => exact r.lod hm h
 | .dead, _, _ => trivial
theorem Ren.avs (r : Ren m n σ σ') : ∀ {us : List AV} {vs : List Value}, RepAVs (sur C g σ w) us vs → RepAVs (sur C (g.ren n) σ' w) (AV.mapKs m us) vs
 | [], _, h => h
 | _ :: _, _, ⟨v, vs', e, h1, h2⟩ => ⟨v, vs', e, r.av h1, r.avs h2⟩
end
theorem Rel.ren (R : Rel C g σ a w) (r : Ren m n σ σ') (hpin : ∀ p ∈ C.pin, n p.1 = some p.1) (hpinB : ∀ p ∈ C.pinB, n p.1 = some p.1) (ht : σ'.tmps = σ.tmps.map (AV.mapK m)) : Rel C (g.ren n) σ' a w := by
 refine ⟨R.defers, R.size, by rw [ht, List.length_map]; exact R.len, fun t => ?_, fun y => ?_, fun y => ?_, fun y z hyz b hy hz => ?_, fun y b hy => ?_, R.fr, ⟨fun p hp => ?_, fun p hp => ?_⟩⟩
 rotate_right
 · exact r.ptr (r.nm _ _ (hpinB p hp)) (R.pin.2 p hp)
 rotate_right
 · obtain ⟨o, ho, hx⟩ := R.pin.1 p hp
   have hn := hpin p hp
   have hh : (g.ren n).hd p.1 = g.hd p.1 := by simp only [Gh.ren, hn]
   refine ⟨o.mapK m, by simp only [sur] at ho ⊢; rw [r.obj, hn]; simp only [ho, Option.map_some], fun e ks xs he => ?_⟩
   have ho' : o = .arx e ks xs := by cases o <;> simp only [Ob.mapK, reduceCtorEq] at he <;> exact he
   have := hx e ks xs ho'
   simp only [sur] at this ⊢
   rw [hh]
   exact this
 · have : σ'.tmp t = (σ.tmp t).mapK m := by
     unfold St.tmp
     rw [ht, List.getD_eq_getElem?_getD, List.getD_eq_getElem?_getD, List.getElem?_map]
     cases σ.tmps[t]? <;> rfl
   rw [this]
   exact r.av (R.tmps t)
 · unfold RepOb
   simp only [sur]
   cases hn : n y with
   | none =>
     have e0 : σ'.obj y = none := by rw [r.obj, hn]
     rw [e0]
     simp only [Gh.ren, hn]
   | some x =>
     have e0 : σ'.obj y = (σ.obj x).map (Ob.mapK m) := by rw [r.obj, hn]
     rw [e0]
     have hh : (g.ren n).hd y = g.hd x := by simp only [Gh.ren, hn]
     have hf : (g.ren n).fp y = g.fp x := by simp only [Gh.ren, hn]
     have h := R.objs x
     unfold RepOb at h
     simp only [sur] at h
     rw [hh, hf]
     cases he : σ.obj x with
     | none => rw [he] at h; exact h
     | some o =>
       rw [he] at h
       cases o with
       | box T cs =>
         obtain ⟨b, vs, h1, h2, h3, h4⟩ := h
         exact ⟨b, vs, h1, h2, h3, r.acs h4⟩
       | arr e ks dp xs =>
         obtain ⟨vss, fps, h1, h2, h3, h4, h5, h6⟩ := h
         refine ⟨vss, fps, h1, h2, h3, h4, h5, fun i row vs f q1 q2 q3 => ?_⟩
         have := h6 i row vs f q1 q2 q3
         split at this
         · rename_i hd; rw [if_pos hd]; exact this
         · rename_i hd; rw [if_neg hd]; exact ⟨this.1.keeps r.keeps, this.2⟩
       | «sealed» e ks xs => exact h
       | gone => exact h
       | arx e ks xs => exact h
 · cases hn : n y with
   | none => simp only [Gh.ren, hn]; exact List.nodup_nil
   | some x => simp only [Gh.ren, hn]; exact R.own x
 · cases hn : n y with
   | none => simp [Gh.ren, hn] at hy
   | some x =>
     cases hn' : n z with
     | none => simp [Gh.ren, hn'] at hz
     | some x' =>
       simp only [Gh.ren, hn] at hy
       simp only [Gh.ren, hn'] at hz
       refine R.apart x x' (fun e => ?_) b hy hz
       subst e
       have h1 := r.nm x y hn
       have h2 := r.nm x z hn'
       rw [h1] at h2
       exact hyz (Option.some.inj h2)
 · cases hn : n y with
   | none => simp [Gh.ren, hn] at hy
   | some x => simp only [Gh.ren, hn] at hy; exact R.alw x b hy
end
end Go.Vx
namespace Go.Vx
open Go.RowKit (Below)
def SC.mapK (m : Nat → Option Nat) : SC → SC
 | .ref z p => match m z with
   | some z' => .ref z' p
   | none => .dead
 | c => c
mutual
def SV.mapK (m : Nat → Option Nat) : SV → SV
 | .one c => .one (c.mapK m)
 | .agg cs => .agg (cs.map (SC.mapK m))
 | .ptr z i j => match m z with
   | some z' => .ptr z' i j
   | none => .dead
 | .pim ks e off => .pim ks e off
 | .tup vs => .tup (SV.mapKs m vs)
 | .whn b v => .whn b (v.mapK m)
 | .lod z i j => match m z with
   | some z' => .lod z' i j
   | none => .dead
 | .dead => .dead
def SV.mapKs (m : Nat → Option Nat) : List SV → List SV
 | [] => []
 | v :: vs => v.mapK m :: SV.mapKs m vs
end
def SOb.mapK (m : Nat → Option Nat) : SOb → SOb
 | .box T cs => .box T (cs.map (SC.mapK m))
 | o => o
def killM (d : Nat) (z : Nat) : Option Nat := bif z / 64 == d then none else some z
def skill (d : Nat) : List (Nat × SOb) → List (Nat × SOb)
 | [] => []
 | (y, o) :: l => bif y / 64 == d then skill d l else (y, o.mapK (killM d)) :: skill d l
def SSt.kill (d : Nat) (s : SSt) : SSt := ⟨s.tmps.map (SV.mapK (killM d)), skill d s.objs⟩
def SSt.free (d : Nat) (s : SSt) : SSt := bif Nat.blt d 1000000 && s.objs.any fun p => p.1 / 64 == d then s.kill d else s
section
variable {Φ : Fns} {env : List D}
theorem SC.den_mapK (m : Nat → Option Nat) (c : SC) : (c.mapK m).den Φ env = (c.den Φ env).mapK m := by
 cases c with
 | ref z p => simp only [SC.mapK, SC.den, AC.mapK]; cases m z <;> rfl
 | _ => rfl
theorem SC.dens_mapK (m : Nat → Option Nat) (cs : List SC) : (cs.map (SC.mapK m)).map (SC.den Φ env) = (cs.map (SC.den Φ env)).map (AC.mapK m) := by
 simp [Function.comp_def, SC.den_mapK]
mutual
theorem SV.den_mapK (m : Nat → Option Nat) : ∀ v : SV, (v.mapK m).den Φ env = (v.den Φ env).mapK m
 | .one c => by simp only [SV.mapK, SV.den, AV.mapK, SC.den_mapK]
 | .agg cs => by simp only [SV.mapK, SV.den, AV.mapK, SC.dens_mapK]
 | .ptr z i j => by simp only [SV.mapK, SV.den, AV.mapK]; cases m z <;> rfl
 | .pim _ _ _ => rfl
 | .tup vs => by simp only [SV.mapK, SV.den, AV.mapK, SV.dens_mapK m vs]
 | .whn c v => by simp only [SV.mapK, SV.den, AV.mapK, SV.den_mapK m v]
 | .lod z i j => by simp only [SV.mapK, SV.den, AV.mapK]; cases m z <;> rfl
 | .dead => rfl
theorem SV.dens_mapK (m : Nat → Option Nat) : ∀ vs : List SV, SV.dens Φ env (SV.mapKs m vs) = AV.mapKs m (SV.dens Φ env vs)
 | [] => rfl
 | v :: vs => by simp only [SV.mapKs, SV.dens, AV.mapKs, SV.den_mapK m v, SV.dens_mapK m vs]
end
theorem SOb.den_mapK (m : Nat → Option Nat) (o : SOb) : (o.mapK m).den Φ env = (o.den Φ env).mapK m := by
 cases o with
 | box T cs => simp only [SOb.mapK, SOb.den, Ob.mapK, SC.dens_mapK]
 | _ => rfl
theorem slook_skill (d y : Nat) : ∀ l, slook y (skill d l) = match killM d y with | some _ => (slook y l).map (SOb.mapK (killM d)) | none => none
 | [] => by simp only [skill, slook]; split <;> rfl
 | (z, o) :: l => by
   have ih := slook_skill d y l
   by_cases hz : z / 64 = d
   · have h1 : (z / 64 == d) = true := by simpa using hz
     simp only [skill, h1, cond_true, ih, slook]
     by_cases hy : y = z
     · subst hy; simp [killM, h1]
     · have h2 : (y == z) = false := by simpa using hy
       simp [h2]
   · have h1 : (z / 64 == d) = false := by simpa using hz
     simp only [skill, h1, cond_false, slook]
     by_cases hy : y = z
     · subst hy; simp [killM, h1]
     · have h2 : (y == z) = false := by simpa using hy
       simp only [h2, cond_false, ih]
theorem kill_free (d : Nat) (s : SSt) {y : Nat} (h : y / 64 = d) : (s.kill d).obj y = none := by
 have := slook_skill d y s.objs
 have hk : killM d y = none := by simp [killM, h]
 rw [hk] at this
 exact this
theorem ren_kill (d : Nat) (s : SSt) : Ren (killM d) (killM d) (s.den Φ env) ((s.kill d).den Φ env) := by
 have key : ∀ x y, killM d x = some y → killM d y = some x := fun x y h => by
   unfold killM at h
   cases hx : (x / 64 == d) with
   | true => simp [hx] at h
   | false => simp [hx] at h; subst h; simp [killM, hx]
 refine ⟨key, fun x y h => key y x h, fun y => ?_⟩
 rw [SSt.den_obj, show (s.kill d).obj y = slook y (skill d s.objs) from rfl, slook_skill]
 cases hk : killM d y with
 | none => rfl
 | some x =>
   have hx : x = y := by
     unfold killM at hk
     cases hy : (y / 64 == d) with
     | true => simp [hy] at hk
     | false => simp [hy] at hk; exact hk.symm
   subst hx
   show Option.map (SOb.den Φ env) (Option.map (SOb.mapK (killM d)) (slook x s.objs)) = Option.map (Ob.mapK (killM d)) ((SSt.den Φ env s).obj x)
   rw [SSt.den_obj, show s.obj x = slook x s.objs from rfl]
   cases slook x s.objs with
   | none => rfl
   | some o => simp [SOb.den_mapK]
variable {C : Cx} {g : Gh} {s : SSt} {a : Act} {w : World}
theorem Rel.kill (R : Rel C g (s.den Φ env) a w) (d : Nat) (hd : d < 1000000) : ∃ g', Rel C g' ((s.kill d).den Φ env) a w :=
 ⟨_, R.ren (ren_kill d s) (fun p hp => by
   have := C.pinBig p hp
   have : (p.1 / 64 == d) = false := by
     simp only [beq_eq_false_iff_ne, ne_eq]
     omega
   simp [killM, this]) (fun p hp => by
   have := C.pinBBig p hp
   have : (p.1 / 64 == d) = false := by
     simp only [beq_eq_false_iff_ne, ne_eq]
     omega
   simp [killM, this]) (by simp [SSt.den, SSt.kill, Function.comp_def, SV.den_mapK])⟩
theorem Rel.free (R : Rel C g (s.den Φ env) a w) (d : Nat) : ∃ g', Rel C g' ((s.free d).den Φ env) a w := by
 unfold SSt.free
 cases hc : Nat.blt d 1000000 && s.objs.any fun p => p.1 / 64 == d with
 | true =>
   simp only [Bool.and_eq_true] at hc
   exact R.kill d (Nat.le_of_ble_eq_true hc.1)
 | false => exact ⟨g, R⟩
theorem slook_none (x : Nat) : ∀ l : List (Nat × SOb), (l.any fun p => p.1 / 64 == x / 64) = false → slook x l = none
 | [], _ => rfl
 | (y, o) :: l, h => by
   simp only [List.any_cons, Bool.or_eq_false_iff, beq_eq_false_iff_ne, ne_eq] at h
   have : (x == y) = false := by
     simp only [beq_eq_false_iff_ne, ne_eq]
     intro e; subst e; exact h.1 rfl
   simp only [slook, this, cond_false]
   exact slook_none x l h.2
theorem free_free (d : Nat) (s : SSt) (hd : d < 1000000) {y : Nat} (h : y / 64 = d) : (s.free d).obj y = none := by
 unfold SSt.free
 have hb : Nat.blt d 1000000 = true := Nat.ble_eq_true_of_le hd
 rw [hb, Bool.true_and]
 cases hc : s.objs.any fun p => p.1 / 64 == d with
 | true => exact kill_free d s h
 | false => subst h; exact slook_none y s.objs hc
end
end Go.Vx
namespace Go.Vx
open Go.RowKit (Below)
def strip (cs : List E) (v : SV) : SV := bif v.conds.all fun c => cs.any (E.eqb c) then v.core else v
def SSt.strip (cs : List E) (s : SSt) : SSt := ⟨s.tmps.map (Vx.strip cs), s.objs⟩
def wrap : List E → SV → SV
 | [], v => v
 | c :: cs, v => .whn c (wrap cs v)
def gimp : List E → E → E
 | [], e => e
 | c :: cs, e => .op .ite [c, gimp cs e, .bool true]
def guardCs (s : SSt) (ops : Array Oper) (o : Oper) : Option (List E) := match o.guard with
 | none => some []
 | some (j, want) => match (ops[j]?).bind (·.dst) with
   | some t => match (s.tmp t).core with
     | .one (.dat .bool c) => some ((s.tmp t).conds ++ [bif want then c else .op .not [c]])
     | _ => none
   | none => none
def fOp (T : TypeId → TI) (CT : Nat → Option Sig) (key : Nat) (s : SSt) (o : Oper) : Option Res := match o.op with
 | .call c => match c.callee with
   | .value (.func f) => fCallA T CT key s f c.argTypes.toList c.args.toList
   | _ => opF T key s o
 | _ => opF T key s o
section
variable {Φ : Fns} {env : List D} {C : Cx} {g : Gh} {s : SSt} {a : Act} {w : World} {o : Oper} {key : Nat}
def Told (P : Program) (Φ : Fns) (CT : Nat → Option Sig) : Prop :=
 ∀ f sg, CT f = some sg → (sg.xs = none → FunRB P f sg.bs sg.so sg.nb sg.args sg.rets (Φ f)) ∧ (∀ l, sg.xs = some l → FunX P f l sg.rets (Φ f)) ∧ ∃ fn, P.funcs[f]? = some fn ∧ fn.body ≠ none ∧ fn.name ≠ "runtime.NumGoroutine"
theorem good_fOp (R : Rel C g (s.den Φ env) a w) {CT : Nat → Option Sig} (hCT : Told C.P Φ CT) (hkey : s.obj key = none) {r : Res} (h : fOp C.T CT key s o = some r) (hr : holds Φ env r.cs) :
   Does C a w o (r.v.den Φ env) ((s.upds r.upd).den Φ env) := by
 unfold fOp at h
 split at h
 · rename_i c ho
   split at h
   · rename_i f hc
     unfold fCallA at h
     split at h
     · rename_i sg hsg
       split at h
       · rename_i hx
         obtain ⟨q1, _, q3⟩ := hCT f sg hsg
         have q1 := q1 hx
         unfold FunRB at q1
         split at h
         · rename_i q hq
           rw [hq] at q1
           exact good_callS R q1 q3 ho hc h hr
         · rename_i hq
           rw [hq] at q1
           split at h
           · rename_i hb
             rw [hb] at q1
             split at h
             · rename_i hnb
               rw [hnb] at q1
               exact good_callR R (fun sg' hsg' => by
                 rw [hsg] at hsg'
                 simp only [Option.some.injEq] at hsg'
                 subst hsg'
                 exact ⟨q1, q3⟩) ho hc h hr
             · rename_i q hnb
               rw [hnb] at q1
               exact good_callN R q1 q3 ho hc h hr
           · rename_i l hb
             rw [hb] at q1
             exact good_callB R q1 q3 ho hc h hr
       · rename_i l hx
         obtain ⟨_, q2, q3⟩ := hCT f sg hsg
         exact good_callX R (q2 l hx) q3 ho hc h hr
     · cases h
   · exact (good_op R hkey h hr).does
 · exact (good_op R hkey h hr).does
theorem Rel.retmps {σ σ' : St} (R : Rel C g σ a w) (ho : σ'.objs = σ.objs) (hl : σ'.tmps.length = σ.tmps.length) (ht : ∀ t v, RepAV (sur C g σ w) (σ.tmp t) v → RepAV (sur C g σ w) (σ'.tmp t) v) : Rel C g σ' a w := by
 have hob : ∀ x, σ'.obj x = σ.obj x := fun x => by unfold St.obj; rw [ho]
 have hs := sur_eq (C := C) (g := g) (w := w) hob
 exact ⟨R.defers, R.size, by rw [hl]; exact R.len, fun t => by rw [hs]; exact ht t _ (R.tmps t), fun x => by rw [hs]; exact R.objs x, R.own, R.apart, R.alw, R.fr, by rw [hs]; exact R.pin⟩
theorem strip_den {cs : List E} (hcs : holds Φ env cs) (v : SV) {S : Sur} {x : Value} : RepAV S (v.den Φ env) x ↔ RepAV S ((strip cs v).den Φ env) x := by
 unfold strip
 cases hc : v.conds.all fun c => cs.any (E.eqb c) with
 | false => rfl
 | true =>
   have hall : ∀ b ∈ (v.den Φ env).conds, b = true := fun b hb => by
     rw [SV.den_conds, List.mem_map] at hb
     obtain ⟨c, hm, rfl⟩ := hb
     have := List.all_eq_true.1 hc c hm
     obtain ⟨c', hm', he⟩ := List.any_eq_true.1 this
     rw [E.eqb_eq he]
     exact hcs c' hm'
   show _ ↔ RepAV S (v.core.den Φ env) x
   rw [SV.den_core]
   exact ⟨fun h => h.core hall, fun h => RepAV.uncore h hall⟩
theorem strip_tmp (cs : List E) (s : SSt) (t : Nat) : (s.strip cs).tmp t = strip cs (s.tmp t) := by
 unfold SSt.tmp SSt.strip
 simp only [List.getD_eq_getElem?_getD, List.getElem?_map]
 cases s.tmps[t]? <;> rfl
theorem Rel.strip (R : Rel C g (s.den Φ env) a w) {cs : List E} (hcs : holds Φ env cs) : Rel C g ((s.strip cs).den Φ env) a w :=
 R.retmps rfl (by simp [SSt.den, SSt.strip]) fun t v h => by
   rw [SSt.den_tmp] at h ⊢
   rw [strip_tmp]
   exact (strip_den hcs _).1 h
theorem Rel.unstrip {cs : List E} (R : Rel C g ((s.strip cs).den Φ env) a w) (hcs : holds Φ env cs) : Rel C g (s.den Φ env) a w :=
 R.retmps rfl (by simp [SSt.den, SSt.strip]) fun t v h => by
   rw [SSt.den_tmp] at h ⊢
   rw [strip_tmp] at h
   exact (strip_den hcs _).2 h
theorem gimp_den (cs : List E) (e : E) (h : ((gimp cs e).den Φ env).asBool = true) (hcs : holds Φ env cs) : (e.den Φ env).asBool = true := by
 induction cs with
 | nil => exact h
 | cons c cs ih =>
   have hc := hcs c (by simp)
   refine ih ?_ fun x hx => hcs x (by simp [hx])
   simpa [gimp, E.den, E.dens, opD, hc] using h
theorem wrap_rep {S : Sur} {v : SV} {x : Value} : ∀ {cs : List E}, (holds Φ env cs → RepAV S (v.den Φ env) x) → (¬ holds Φ env cs → x = undef) → RepAV S ((wrap cs v).den Φ env) x
 | [], h, _ => h fun _ hc => by simp at hc
 | c :: cs, h, h' => by
   refine ⟨fun hc => wrap_rep (cs := cs) (fun hs => h fun e he => ?_) (fun hs => h' fun ha => hs fun e he => ha e (by simp [he])), fun hc => h' fun ha => ?_⟩
   · rcases List.mem_cons.1 he with rfl | he
     · exact hc
     · exact hs e he
   · have := ha c (by simp)
     rw [hc] at this
     cases this
theorem wrap_undef {S : Sur} {v : SV} {cs : List E} (h : ¬ holds Φ env cs) : RepAV S ((wrap cs v).den Φ env) undef := wrap_rep (fun hs => absurd hs h) fun _ => rfl
theorem whn_false {S : Sur} : ∀ {v : SV} {x : Value}, RepAV S (v.den Φ env) x → ¬ holds Φ env v.conds → x = undef
 | .whn c v, x, h, hn => by
   by_cases hc : (c.den Φ env).asBool = true
   · exact whn_false (v := v) (h.1 hc) fun hs => hn fun e he => by
       simp only [SV.conds, List.mem_cons] at he
       rcases he with rfl | he
       · exact hc
       · exact hs e he
   · exact h.2 (by simpa using hc)
 | .one _, _, _, hn => absurd (fun _ hc => by simp [SV.conds] at hc) hn
 | .agg _, _, _, hn => absurd (fun _ hc => by simp [SV.conds] at hc) hn
 | .ptr _ _ _, _, _, hn => absurd (fun _ hc => by simp [SV.conds] at hc) hn
 | .pim _ _ _, _, _, hn => absurd (fun _ hc => by simp [SV.conds] at hc) hn
 | .tup _, _, _, hn => absurd (fun _ hc => by simp [SV.conds] at hc) hn
 | .lod _ _ _, _, _, hn => absurd (fun _ hc => by simp [SV.conds] at hc) hn
 | .dead, _, _, hn => absurd (fun _ hc => by simp [SV.conds] at hc) hn
theorem guard_wanted (R : Rel C g (s.den Φ env) a w) {ops : Array Oper} {cs : List E} (h : guardCs s ops o = some cs) : Region.wanted o (yielded ops a.tmps) = true ↔ holds Φ env cs := by
 unfold guardCs at h
 unfold Region.wanted
 split at h
 · rename_i hg
   simp only [Option.some.injEq] at h
   subst h
   rw [hg]
   exact ⟨fun _ _ hc => by simp at hc, fun _ => rfl⟩
 · rename_i j want hg
   rw [hg]
   split at h
   · rename_i t ht
     split at h
     · rename_i c hcore
       simp only [Option.some.injEq] at h
       subst h
       have hr := R.tmps t
       rw [SSt.den_tmp] at hr
       have hget : ∀ b : Bool, a.tmps.getD t undef = .bool b → a.tmps[t]? = some (.bool b) := fun b hb => by
         rw [Array.getD_eq_getD_getElem?] at hb
         cases ha : a.tmps[t]? with
         | none => rw [ha] at hb; simp [undef] at hb
         | some x => rw [ha] at hb; exact congrArg some hb
       simp only [yielded, ht, Option.bind_some, beq_iff_eq]
       by_cases hall : holds Φ env (s.tmp t).conds
       · have hv : a.tmps.getD t undef = .bool (c.den Φ env).asBool := by
           have := hr.core (fun b hb => by
             rw [SV.den_conds, List.mem_map] at hb
             obtain ⟨e, he, rfl⟩ := hb
             exact hall e he)
           rw [← SV.den_core, hcore] at this
           exact this.1
         rw [hget _ hv]
         simp only [Option.some.injEq]
         constructor
         · intro hb e he
           rcases List.mem_append.1 he with he | he
           · exact hall e he
           · simp only [List.mem_singleton] at he
             subst he
             cases want with
             | true => exact hb
             | false => simp only [cond_false, E.den, E.dens, opD, D.asBool, List.getD_cons_zero]; simp only [D.asBool] at hb; rw [hb]; rfl
         · intro hh
           have := hh _ (List.mem_append.2 (.inr (List.mem_singleton.2 rfl)))
           cases want with
           | true => exact this
           | false => simpa [E.den, E.dens, opD, D.asBool] using this
       · have hu := whn_false hr hall
         constructor
         · intro hb
           exfalso
           rw [Array.getD_eq_getD_getElem?] at hu
           cases ha : a.tmps[t]? with
           | none => rw [ha] at hb; simp at hb
           | some x =>
             rw [ha] at hu hb
             simp only [Option.getD_some] at hu
             rw [hu] at hb
             simp [undef] at hb
         · intro hh
           exact absurd (fun e he => hh e (List.mem_append.2 (.inl he))) hall
     · cases h
   · cases h
end
end Go.Vx
namespace Go.Vx
open Go.RowKit (Below)
def andE : List E → E
 | [] => .bool true
 | [c] => c
 | c :: cs => .op .ite [c, andE cs, .bool false]
def gcells (b : E) : List SC → List SC → Option (List SC)
 | [], [] => some []
 | .dat k e' :: cs, .dat k' e :: ds => match gcells b cs ds with
   | some us => bif K.eqb k k' then some (.dat k (.op .ite [b, e', e]) :: us) else none
   | none => none
 | _, _ => none
def gobj (cs : List E) (s : SSt) : List (Nat × SOb) → Option (List (Nat × SOb))
 | [] => some []
 | (z, .arr e ks dp xs) :: l => match s.obj z, gobj cs (s.setO z (.arr e ks dp (.op .ite [andE cs, xs, .nl]))) l with
   | none, some l' => some ((z, .arr e ks dp (.op .ite [andE cs, xs, .nl])) :: l')
   | _, _ => none
 | (z, .box T us) :: l => match s.obj z with
   | some (.box T' ds) => match gcells (andE cs) us ds with
     | some vs => match gobj cs (s.setO z (.box T vs)) l with
       | some l' => bif T == T' then some ((z, .box T vs) :: l') else none
       | none => none
     | none => none
   | _ => none
 | _ => none
def sstep (T : TypeId → TI) (CT : Nat → Option Sig) (ops : Array Oper) (s : SSt) (o : Oper) : Option (List E × SSt) :=
 match o.dst with
 | some d => bif Nat.blt d s.tmps.length && Nat.blt d 1000000 then match guardCs (s.free d) ops o with
   | some [] => match fOp T CT (d * 64) (s.free d) o with
     | some r => some (r.cs, ((s.free d).upds r.upd).setT d r.v)
     | none => none
   | some (c :: cs) => match fOp T CT (d * 64) ((s.free d).strip (c :: cs)) o with
     | some r => bif r.upd.isEmpty then some (r.cs.map (gimp (c :: cs)), (s.free d).setT d (wrap (c :: cs) r.v)) else match gobj (c :: cs) (s.free d) r.upd with
       | some u => some (r.cs.map (gimp (c :: cs)), ((s.free d).upds u).setT d (wrap (c :: cs) r.v))
       | none => none
     | none => none
   | none => none
   else none
 | none => match o.guard with
   | none => match fOp T CT 6400000 (s.free 100000) o with
     | some r => some (r.cs, (s.free 100000).upds r.upd)
     | none => none
   | some _ => none
def srun (T : TypeId → TI) (CT : Nat → Option Sig) (ops : Array Oper) : List Nat → SSt → Option (List E × SSt)
 | [], s => some ([], s)
 | i :: l, s => match ops[i]? with
   | some o => match sstep T CT ops s o with
     | some (cs, s1) => match srun T CT ops l s1 with
       | some (cs', s2) => some (cs ++ cs', s2)
       | none => none
     | none => none
   | none => none
section
variable {Φ : Fns} {env : List D} {C : Cx} {g : Gh} {s : SSt} {a : Act} {w : World} {o : Oper}
theorem free_len (d : Nat) (s : SSt) : (s.free d).tmps.length = s.tmps.length := by
 unfold SSt.free
 cases Nat.blt d 1000000 && s.objs.any fun p => p.1 / 64 == d <;> simp [SSt.kill]
theorem Rel.slen (R : Rel C g (s.den Φ env) a w) : s.tmps.length = C.n := by
 have := R.len
 simpa [SSt.den] using this
theorem andE_den : ∀ (cs : List E), ((andE cs).den Φ env).asBool = true ↔ holds Φ env cs
 | [] => ⟨fun _ e he => by simp at he, fun _ => rfl⟩
 | [c] => ⟨fun h e he => by rw [List.mem_singleton.1 he]; exact h, fun h => h c (by simp)⟩
 | c :: d :: cs => by
   have ih := andE_den (d :: cs)
   show ((if ((c.den Φ env)).asBool = true then (andE (d :: cs)).den Φ env else D.bool false)).asBool = true ↔ _
   by_cases hc : (c.den Φ env).asBool = true
   · rw [if_pos hc, ih]
     exact ⟨fun h e he => by rcases List.mem_cons.1 he with rfl | he; exact hc; exact h e he, fun h e he => h e (List.mem_cons_of_mem _ he)⟩
   · rw [if_neg hc]
     exact ⟨fun h => by simp [D.asBool] at h, fun h => absurd (h c (by simp)) hc⟩
theorem ite_den (b x y : E) : (E.op .ite [b, x, y]).den Φ env = if (b.den Φ env).asBool = true then x.den Φ env else y.den Φ env := rfl
theorem upds_den_obj : ∀ {l l' : List (Nat × SOb)} {s s' : SSt}, (∀ x, (s.den Φ env).obj x = (s'.den Φ env).obj x) → l.map (fun p => (p.1, p.2.den Φ env)) = l'.map (fun p => (p.1, p.2.den Φ env)) → ∀ x, ((s.upds l).den Φ env).obj x = ((s'.upds l').den Φ env).obj x
 | [], [], _, _, h, _ => h
 | [], _ :: _, _, _, _, e => by simp at e
 | _ :: _, [], _, _, _, e => by simp at e
 | (z, o) :: l, (z', o') :: l', s, s', h, e => by
   simp only [List.map_cons, List.cons.injEq, Prod.mk.injEq] at e
   obtain ⟨⟨rfl, ho⟩, e⟩ := e
   refine upds_den_obj (s := s.setO z o) (s' := s'.setO z o') (fun x => ?_) e
   rw [SSt.den_setO, SSt.den_setO, St.obj_setO, St.obj_setO, ho, h]
theorem gcells_den {b : E} : ∀ {cs ds us : List SC}, gcells b cs ds = some us → ((b.den Φ env).asBool = true → us.map (SC.den Φ env) = cs.map (SC.den Φ env)) ∧ ((b.den Φ env).asBool ≠ true → us.map (SC.den Φ env) = ds.map (SC.den Φ env))
 | [], [], us, h => by simp only [gcells, Option.some.injEq] at h; subst h; exact ⟨fun _ => rfl, fun _ => rfl⟩
 | c :: cs, d :: ds, us, h => by
   cases c with
   | dat k e' =>
     cases d with
     | dat k' e =>
       simp only [gcells] at h
       split at h
       · rename_i us' hu
         obtain ⟨hk, hx⟩ := bif_some h
         clear h
         replace hk := K.eqb_eq hk
         subst hk
         obtain rfl := Option.some.inj hx
         obtain ⟨h1, h2⟩ := gcells_den hu
         refine ⟨fun hb => ?_, fun hb => ?_⟩
         · simp only [List.map_cons, h1 hb]
           congr 1
           show AC.dat k ((E.op .ite [b, e', e]).den Φ env) = AC.dat k (e'.den Φ env)
           rw [ite_den, if_pos hb]
         · simp only [List.map_cons, h2 hb]
           congr 1
           show AC.dat k ((E.op .ite [b, e', e]).den Φ env) = AC.dat k (e.den Φ env)
           rw [ite_den, if_neg hb]
       · cases h
     | _ => simp [gcells] at h
   | _ => simp [gcells] at h
 | [], _ :: _, _, h => by simp [gcells] at h
 | _ :: _, [], _, h => by simp [gcells] at h
theorem gobj_den {cs : List E} (hc : holds Φ env cs) : ∀ {l u : List (Nat × SOb)} {s : SSt}, gobj cs s l = some u → u.map (fun p => (p.1, p.2.den Φ env)) = l.map (fun p => (p.1, p.2.den Φ env))
 | [], u, s, h => by simp only [gobj, Option.some.injEq] at h; subst h; rfl
 | (z, o) :: l, u, s, h => by
   cases o with
   | arr e ks dp xs =>
     simp only [gobj] at h
     split at h
     · rename_i l' hz hl
       simp only [Option.some.injEq] at h
       subst h
       simp only [List.map_cons, gobj_den hc hl]
       congr 2
       show Ob.arr e ks dp ((E.op .ite [andE cs, xs, .nl]).den Φ env).asList = Ob.arr e ks dp (xs.den Φ env).asList
       rw [ite_den, if_pos ((andE_den cs).2 hc)]
     · cases h
   | box T us =>
     simp only [gobj] at h
     split at h
     · split at h
       · rename_i vs hv
         split at h
         · rename_i l' hl
           obtain ⟨_, h⟩ := bif_some h
           simp only [Option.some.injEq] at h
           subst h
           simp only [List.map_cons, gobj_den hc hl]
           congr 2
           show Ob.box T (vs.map (SC.den Φ env)) = Ob.box T (us.map (SC.den Φ env))
           rw [(gcells_den hv).1 ((andE_den cs).2 hc)]
         · cases h
       · cases h
     · cases h
   | _ => simp [gobj] at h
theorem Rel.retmps0 {σ σ' : St} (R : Rel C g σ a w) (hob : ∀ x, σ'.obj x = σ.obj x) (hl : σ'.tmps.length = σ.tmps.length) (ht : ∀ t v, RepAV (sur C g σ w) (σ.tmp t) v → RepAV (sur C g σ w) (σ'.tmp t) v) : Rel C g σ' a w := by
 have hs := sur_eq (C := C) (g := g) (w := w) hob
 exact ⟨R.defers, R.size, by rw [hl]; exact R.len, fun t => by rw [hs]; exact ht t _ (R.tmps t), fun x => by rw [hs]; exact R.objs x, R.own, R.apart, R.alw, R.fr, by rw [hs]; exact R.pin⟩
theorem strip_upds (cs : List E) : ∀ (l : List (Nat × SOb)) (s : SSt), (s.strip cs).upds l = (s.upds l).strip cs
 | [], _ => rfl
 | (z, o) :: l, s => strip_upds cs l (s.setO z o)
theorem Rel.nilArr0 {σ : St} (R : Rel C g σ a w) {x : Nat} (hx : σ.obj x = none) (e : TypeId) (ks : List K) (dp : Bool) : Rel C (g.upd x (.slice none 0 0) []) (σ.setO x (.arr e ks dp [])) a w := by
 refine R.grow (Below.refl _ _) hx (fun b hb => by simp [blkOf] at hb) (by simp) (fun b hb => by simp at hb) ?_
 unfold RepOb
 simp only [sur, St.obj_setO, if_pos, Gh.upd, upd_eq]
 exact ⟨[], [], World.ownsRow_nil _ _ _ _, by simp [lenMax], rfl, rfl, rfl, fun i row vs f h => by simp at h⟩
theorem gobj_none {cs : List E} (hc : ¬ holds Φ env cs) : ∀ {l u : List (Nat × SOb)} {g : Gh} {s : SSt}, gobj cs s l = some u → Rel C g (s.den Φ env) a w → ∃ g', Rel C g' ((s.upds u).den Φ env) a w
 | [], u, g, s, h, R => by simp only [gobj, Option.some.injEq] at h; subst h; exact ⟨g, R⟩
 | (z, o) :: l, u, g, s, h, R => by
   cases o with
   | arr e ks dp xs =>
     simp only [gobj] at h
     split at h
     · rename_i l' hz hl
       simp only [Option.some.injEq] at h
       subst h
       have R1 := R.nilArr0 (x := z) (by rw [SSt.den_obj, hz]; rfl) e ks dp
       have e1 : (s.den Φ env).setO z (.arr e ks dp []) = (s.setO z (.arr e ks dp (.op .ite [andE cs, xs, .nl]))).den Φ env := by
         rw [SSt.den_setO]
         congr 1
         show _ = Ob.arr e ks dp ((E.op .ite [andE cs, xs, .nl]).den Φ env).asList
         rw [ite_den, if_neg fun h => hc ((andE_den cs).1 h)]
         rfl
       rw [e1] at R1
       show ∃ g', Rel C g' (((s.setO z (.arr e ks dp (.op .ite [andE cs, xs, .nl]))).upds l').den Φ env) a w
       exact gobj_none hc hl R1
     · cases h
   | box T us =>
     simp only [gobj] at h
     split at h
     · rename_i T' ds hz
       split at h
       · rename_i vs hv
         split at h
         · rename_i l' hl
           obtain ⟨hT, hx⟩ := bif_some h
           clear h
           replace hT := beq_iff_eq.1 hT
           subst hT
           obtain rfl := Option.some.inj hx
           have hob : ∀ x, ((s.setO z (.box T vs)).den Φ env).obj x = (s.den Φ env).obj x := fun x => by
             rw [SSt.den_setO, St.obj_setO]
             split
             · rename_i e
               subst e
               rw [obj_is hz]
               show some (Ob.box T (vs.map (SC.den Φ env))) = some (Ob.box T (ds.map (SC.den Φ env)))
               rw [(gcells_den hv).2 fun h => hc ((andE_den cs).1 h)]
             · rfl
           have R1 : Rel C g ((s.setO z (.box T vs)).den Φ env) a w := R.retmps0 hob rfl fun t v h => h
           show ∃ g', Rel C g' (((s.setO z (.box T vs)).upds l').den Φ env) a w
           exact gobj_none hc hl R1
         · cases h
       · cases h
     · cases h
   | _ => simp [gobj] at h
theorem sstep_sound (R : Rel C g (s.den Φ env) a w) {CT : Nat → Option Sig} (hCT : Told C.P Φ CT) {ops : Array Oper} {cs : List E} {s' : SSt} (h : sstep C.T CT ops s o = some (cs, s')) (hc : holds Φ env cs)
   (next : Act → World → Prop) (Q : Exit → Act → World → Prop) (hn : ∀ a' w' g', Rel C g' (s'.den Φ env) a' w' → next a' w') :
   if Region.wanted o (yielded ops a.tmps) = true then o.wp C.P a w next Q else next (a.put o.dst undef) w := by
 unfold sstep at h
 split at h
 · rename_i d hd
   obtain ⟨h1, h2⟩ := bif_some h
   clear h
   simp only [Bool.and_eq_true] at h1
   have hdn : d < C.n := by rw [← R.slen]; exact Nat.le_of_ble_eq_true h1.1
   obtain ⟨g1, R1⟩ := R.free d
   have hkey : (s.free d).obj (d * 64) = none := free_free d s (Nat.le_of_ble_eq_true h1.2) (by omega)
   split at h2
   · rename_i hg
     have hw := (guard_wanted R1 hg).2 (fun _ hc => by simp at hc)
     rw [if_pos hw]
     split at h2
     · rename_i r hr
       simp only [Option.some.injEq, Prod.mk.injEq] at h2
       obtain ⟨rfl, rfl⟩ := h2
       refine good_fOp R1 hCT hkey hr hc next Q fun v w' g' hv R' => hn _ _ g' ?_
       rw [SSt.den_setT, hd]
       exact R'.put hdn hv
     · cases h2
   · rename_i c cs0 hg
     split at h2
     · rename_i r hr
       cases h3 : r.upd.isEmpty with
       | false =>
         rw [h3] at h2
         simp only [cond_false] at h2
         split at h2
         · rename_i u hu
           simp only [Option.some.injEq, Prod.mk.injEq] at h2
           obtain ⟨rfl, rfl⟩ := h2
           have hwi := guard_wanted R1 hg
           by_cases hall : holds Φ env (c :: cs0)
           · rw [if_pos (hwi.2 hall)]
             have hkey' : ((s.free d).strip (c :: cs0)).obj (d * 64) = none := hkey
             refine good_fOp (R1.strip hall) hCT hkey' hr (fun e he => gimp_den _ _ (hc _ (List.mem_map.2 ⟨e, he, rfl⟩)) hall) next Q fun v w' g' hv R' => hn _ _ g' ?_
             rw [strip_upds] at hv R'
             have R2 := Rel.unstrip (cs := c :: cs0) R' hall
             have hob : ∀ x, (((s.free d).upds u).den Φ env).obj x = (((s.free d).upds r.upd).den Φ env).obj x := upds_den_obj (fun _ => rfl) (gobj_den hall hu)
             have hs := sur_eq (C := C) (g := g') (w := w') hob
             have R3 : Rel C g' (((s.free d).upds u).den Φ env) _ w' := R2.retmps0 hob (by simp [SSt.den, SSt.upds_tmps]) fun t x hx => by
               rw [SSt.den_tmp] at hx ⊢
               have : ((s.free d).upds u).tmp t = ((s.free d).upds r.upd).tmp t := by unfold SSt.tmp; rw [SSt.upds_tmps, SSt.upds_tmps]
               rw [this]
               exact hx
             rw [SSt.den_setT, hd]
             exact R3.put hdn (wrap_rep (fun _ => by rw [hs]; exact hv) fun hno => absurd hall hno)
           · rw [if_neg fun hq => hall (hwi.1 hq)]
             obtain ⟨g2, R2⟩ := gobj_none hall hu R1
             refine hn _ _ g2 ?_
             rw [SSt.den_setT, hd]
             exact R2.put hdn (wrap_undef hall)
         · cases h2
       | true =>
       rw [h3] at h2
       simp only [cond_true, Option.some.injEq, Prod.mk.injEq] at h2
       obtain ⟨rfl, rfl⟩ := h2
       have hupd : r.upd = [] := by simpa using h3
       have hwi := guard_wanted R1 hg
       by_cases hall : holds Φ env (c :: cs0)
       · rw [if_pos (hwi.2 hall)]
         have hkey' : ((s.free d).strip (c :: cs0)).obj (d * 64) = none := hkey
         refine good_fOp (R1.strip hall) hCT hkey' hr (fun e he => gimp_den _ _ (hc _ (List.mem_map.2 ⟨e, he, rfl⟩)) hall) next Q fun v w' g' hv R' => hn _ _ g' ?_
         rw [hupd] at hv R'
         have R2 := Rel.unstrip (s := s.free d) (cs := c :: cs0) R' hall
         rw [SSt.den_setT, hd]
         exact R2.put hdn (wrap_rep (fun _ => hv) fun hno => absurd hall hno)
       · rw [if_neg fun hq => hall (hwi.1 hq)]
         refine hn _ _ g1 ?_
         rw [SSt.den_setT, hd]
         exact R1.put hdn (wrap_undef hall)
     · cases h2
   · cases h2
 · rename_i hd
   split at h
   · rename_i hg
     have hw : Region.wanted o (yielded ops a.tmps) = true := by unfold Region.wanted; rw [hg]
     rw [if_pos hw]
     obtain ⟨g1, R1⟩ := R.free 100000
     have hkey : (s.free 100000).obj 6400000 = none := free_free 100000 s (by decide) (by decide)
     split at h
     · rename_i r hr
       simp only [Option.some.injEq, Prod.mk.injEq] at h
       obtain ⟨rfl, rfl⟩ := h
       refine good_fOp R1 hCT hkey hr hc next Q fun v w' g' hv R' => hn _ _ g' ?_
       rw [hd]
       exact R'
     · cases h
   · cases h
theorem srun_sound {CT : Nat → Option Sig} (hCT : Told C.P Φ CT) {ops : Array Oper} {Q : Exit → Act → World → Prop} : ∀ (l : List Nat) {g : Gh} {s : SSt} {a : Act} {w : World} {cs : List E} {s' : SSt}, Rel C g (s.den Φ env) a w →
   srun C.T CT ops l s = some (cs, s') → holds Φ env cs → (∀ a' w' g', Rel C g' (s'.den Φ env) a' w' → Q .normal a' w') → wpOps C.P ops Q l a w
 | [], g, s, a, w, cs, s', R, h, hc, hQ => by
   simp only [srun, Option.some.injEq, Prod.mk.injEq] at h
   obtain ⟨rfl, rfl⟩ := h
   exact hQ _ _ g R
 | i :: l, g, s, a, w, cs, s', R, h, hc, hQ => by
   simp only [srun] at h
   split at h
   · rename_i o ho
     split at h
     · rename_i cs1 s1 h1
       split at h
       · rename_i cs2 s2 h2
         simp only [Option.some.injEq, Prod.mk.injEq] at h
         obtain ⟨rfl, rfl⟩ := h
         have := sstep_sound R hCT h1 (fun e he => hc e (List.mem_append.2 (.inl he))) (wpOps C.P ops Q l) Q (fun a' w' g' R' => srun_sound hCT l R' h2 (fun e he => hc e (List.mem_append.2 (.inr he))) hQ)
         simp only [wpOps, ho]
         split at this
         · rename_i hw; rw [if_pos hw]; exact .inl this
         · rename_i hw; rw [if_neg hw]; exact this
       · cases h
     · cases h
   · cases h
theorem region_sound {CT : Nat → Option Sig} (hCT : Told C.P Φ CT) {ops : Array Oper} {id : Nat} {Q : Exit → Act → World → Prop} {cs : List E} {s' : SSt} (R : Rel C g (s.den Φ env) a w)
   (h : srun C.T CT ops (List.range ops.size) s = some (cs, s')) (hc : holds Φ env cs) (hQ : ∀ a' w' g', Rel C g' (s'.den Φ env) a' w' → Q .normal a' w') : (Code.region id ops false).wp C.P Q a w :=
 wp_region (srun_sound hCT _ R h hc hQ)
def ssplit (T : TypeId → TI) (CT : Nat → Option Sig) (ops : Array Oper) (s : SSt) (o : Oper) : Option (List E × List E × SSt × SSt) :=
 match o.dst with
 | some d => bif Nat.blt d s.tmps.length && Nat.blt d 1000000 then match guardCs (s.free d) ops o with
   | some (c :: cs) => match fOp T CT (d * 64) ((s.free d).strip (c :: cs)) o with
     | some r => some (c :: cs, r.cs, (((s.free d).strip (c :: cs)).upds r.upd).setT d r.v, (s.free d).setT d .dead)
     | none => none
   | _ => none
   else none
 | none => none
theorem ssplit_sound (R : Rel C g (s.den Φ env) a w) {CT : Nat → Option Sig} (hCT : Told C.P Φ CT) {ops : Array Oper} {gs cs : List E} {s1 s2 : SSt} (h : ssplit C.T CT ops s o = some (gs, cs, s1, s2)) (hc : holds Φ env gs → holds Φ env cs)
   (next : Act → World → Prop) (Q : Exit → Act → World → Prop) (hn : holds Φ env gs → ∀ a' w' g', Rel C g' (s1.den Φ env) a' w' → next a' w') (hn' : ¬ holds Φ env gs → ∀ a' w' g', Rel C g' (s2.den Φ env) a' w' → next a' w') :
   if Region.wanted o (yielded ops a.tmps) = true then o.wp C.P a w next Q else next (a.put o.dst undef) w := by
 unfold ssplit at h
 split at h
 · rename_i d hd
   obtain ⟨h1, h2⟩ := bif_some h
   clear h
   simp only [Bool.and_eq_true] at h1
   have hdn : d < C.n := by rw [← R.slen]; exact Nat.le_of_ble_eq_true h1.1
   obtain ⟨g1, R1⟩ := R.free d
   have hkey : (s.free d).obj (d * 64) = none := free_free d s (Nat.le_of_ble_eq_true h1.2) (by omega)
   split at h2
   · rename_i c0 cs0 hg
     split at h2
     · rename_i r hr
       simp only [Option.some.injEq, Prod.mk.injEq] at h2
       obtain ⟨rfl, rfl, rfl, rfl⟩ := h2
       have hwi := guard_wanted R1 hg
       by_cases hall : holds Φ env (c0 :: cs0)
       · rw [if_pos (hwi.2 hall)]
         have hkey' : ((s.free d).strip (c0 :: cs0)).obj (d * 64) = none := hkey
         refine good_fOp (R1.strip hall) hCT hkey' hr (hc hall) next Q fun v w' g' hv R' => hn hall _ _ g' ?_
         rw [SSt.den_setT, hd]
         exact R'.put hdn hv
       · rw [if_neg fun hq => hall (hwi.1 hq)]
         refine hn' hall _ _ g1 ?_
         rw [SSt.den_setT, hd]
         exact R1.put hdn trivial
     · cases h2
   · cases h2
 · cases h
def noneOf (N : List (List E)) (cs : List E) : Bool := N.any fun ns => ns.all fun c => cs.any (E.eqb c)
theorem noneOf_ok {N : List (List E)} (hN : ∀ ns ∈ N, ¬ holds Φ env ns) {cs : List E} (h : noneOf N cs = true) : ¬ holds Φ env cs := fun hc => by
 obtain ⟨ns, hm, h1⟩ := List.any_eq_true.1 h
 refine hN ns hm fun c hcm => ?_
 obtain ⟨c', hm', he⟩ := List.any_eq_true.1 (List.all_eq_true.1 h1 c hcm)
 rw [E.eqb_eq he]
 exact hc c' hm'
def sskip (N : List (List E)) (ops : Array Oper) (s : SSt) (o : Oper) : Option SSt := match o.dst with
 | some d => bif Nat.blt d s.tmps.length && Nat.blt d 1000000 then match guardCs (s.free d) ops o with
   | some cs => bif noneOf N cs then some ((s.free d).setT d .dead) else none
   | none => none
   else none
 | none => none
theorem sskip_sound (R : Rel C g (s.den Φ env) a w) {N : List (List E)} (hN : ∀ ns ∈ N, ¬ holds Φ env ns) {ops : Array Oper} {s1 : SSt} (h : sskip N ops s o = some s1)
   (next : Act → World → Prop) (Q : Exit → Act → World → Prop) (hn : ∀ a' w' g', Rel C g' (s1.den Φ env) a' w' → next a' w') :
   if Region.wanted o (yielded ops a.tmps) = true then o.wp C.P a w next Q else next (a.put o.dst undef) w := by
 unfold sskip at h
 split at h
 · rename_i d hd
   obtain ⟨h1, h2⟩ := bif_some h
   clear h
   simp only [Bool.and_eq_true] at h1
   have hdn : d < C.n := by rw [← R.slen]; exact Nat.le_of_ble_eq_true h1.1
   obtain ⟨g1, R1⟩ := R.free d
   split at h2
   · rename_i cs hg
     obtain ⟨h3, h4⟩ := bif_some h2
     simp only [Option.some.injEq] at h4
     subst h4
     have hwi := guard_wanted R1 hg
     rw [if_neg fun hq => noneOf_ok hN h3 (hwi.1 hq)]
     refine hn _ _ g1 ?_
     rw [SSt.den_setT, hd]
     exact R1.put hdn trivial
   · cases h2
 · cases h
def spick (T : TypeId → TI) (N : List (List E)) (ops : Array Oper) (s : SSt) (o : Oper) : Option SSt := match o.dst, o.op with
 | some d, .pick c x y => bif Nat.blt d s.tmps.length && Nat.blt d 1000000 then match guardCs (s.free d) ops o, (sev T 0 (s.free d) c).dn with
   | some [], .one (.dat .bool e) => bif noneOf N [.op .not [e]] then some ((s.free d).setT d (sev T o.type (s.free d) x)) else bif noneOf N [e] then some ((s.free d).setT d (sev T o.type (s.free d) y)) else none
   | _, _ => none
   else none
 | _, _ => none
theorem spick_sound (R : Rel C g (s.den Φ env) a w) {N : List (List E)} (hN : ∀ ns ∈ N, ¬ holds Φ env ns) {ops : Array Oper} {s1 : SSt} (h : spick C.T N ops s o = some s1)
   (next : Act → World → Prop) (Q : Exit → Act → World → Prop) (hn : ∀ a' w' g', Rel C g' (s1.den Φ env) a' w' → next a' w') :
   if Region.wanted o (yielded ops a.tmps) = true then o.wp C.P a w next Q else next (a.put o.dst undef) w := by
 unfold spick at h
 split at h
 · rename_i d c x y hd ho
   obtain ⟨h1, h2⟩ := bif_some h
   clear h
   simp only [Bool.and_eq_true] at h1
   have hdn : d < C.n := by rw [← R.slen]; exact Nat.le_of_ble_eq_true h1.1
   obtain ⟨g1, R1⟩ := R.free d
   split at h2
   · rename_i e hg he
     have hw := (guard_wanted R1 hg).2 (fun _ hc => by simp at hc)
     rw [if_pos hw]
     have D := (did_pick1 R1 ho (sev_dat he)).does
     cases hb : (e.den Φ env).asBool with
     | true =>
       rw [hb, if_pos rfl] at D
       have hs1 : s1 = (s.free d).setT d (sev C.T o.type (s.free d) x) := by
         cases h3 : noneOf N [.op .not [e]] with
         | true => rw [h3] at h2; simpa using h2.symm
         | false =>
           rw [h3] at h2
           obtain ⟨h4, _⟩ := bif_some h2
           exact absurd (fun c hc => by rw [List.mem_singleton.1 hc]; exact hb) (noneOf_ok (Φ := Φ) (env := env) hN h4)
       refine D next Q fun v w' g' hv R' => hn _ _ g' ?_
       rw [hs1, SSt.den_setT, sev_den, hd]
       exact R'.put hdn hv
     | false =>
       rw [hb, if_neg Bool.false_ne_true] at D
       have hs1 : s1 = (s.free d).setT d (sev C.T o.type (s.free d) y) := by
         cases h3 : noneOf N [.op .not [e]] with
         | true =>
           refine absurd (fun c hc => ?_) (noneOf_ok (Φ := Φ) (env := env) hN h3)
           rw [List.mem_singleton.1 hc]
           show (Go.Vx.D.bool (!((e.den Φ env).asBool))).asBool = true
           rw [hb]; rfl
         | false =>
           rw [h3] at h2
           obtain ⟨_, h5⟩ := bif_some h2
           simpa using h5.symm
       refine D next Q fun v w' g' hv R' => hn _ _ g' ?_
       rw [hs1, SSt.den_setT, sev_den, hd]
       exact R'.put hdn hv
   · cases h2
 · cases h
end
end Go.Vx
namespace Go.Vx
open Go.RowKit (Below)
def Alike (τ s : SSt) (x : Operand) : Prop := ∀ t, x = .tmp t → τ.tmp t = s.tmp t
section
variable {T : TypeId → TI} {CT : Nat → Option Sig} {τ s : SSt} {key : Nat}
theorem Alike.sev {x : Operand} (h : Alike τ s x) (ty : TypeId) : sev T ty τ x = sev T ty s x := by
 cases x with
 | tmp t => exact h t rfl
 | _ => rfl
theorem fLoad_loc (ho : ∀ y, τ.obj y = s.obj y) {t : TypeId} {x : Operand} (h : Alike τ s x) : fLoad T τ t x = fLoad T s t x := by
 unfold fLoad; simp only [h.sev, ho]
theorem fFieldAddr_loc (ho : ∀ y, τ.obj y = s.obj y) {t : TypeId} {x : Operand} {f : Nat} (h : Alike τ s x) : fFieldAddr T τ t x f = fFieldAddr T s t x f := by
 unfold fFieldAddr; simp only [h.sev, ho]
theorem fIndexAddr_loc (ho : ∀ y, τ.obj y = s.obj y) {t : TypeId} {x y : Operand} (h : Alike τ s x) (h' : Alike τ s y) : fIndexAddr T τ t x y = fIndexAddr T s t x y := by
 unfold fIndexAddr; simp only [h.sev, h'.sev, ho]
theorem fBin_loc {op : BinOp} {t u : TypeId} {x y : Operand} (h : Alike τ s x) (h' : Alike τ s y) : fBin T τ op t x y u = fBin T s op t x y u := by
 unfold fBin; simp only [h.sev, h'.sev]
theorem fEq_loc {op : BinOp} {t u : TypeId} {x y : Operand} (h : Alike τ s x) (h' : Alike τ s y) : fEq T τ op t x y u = fEq T s op t x y u := by
 unfold fEq; simp only [h.sev, h'.sev]
theorem fUn_loc {op : UnOp} {t : TypeId} {x : Operand} (h : Alike τ s x) : fUn T τ op t x = fUn T s op t x := by
 unfold fUn; simp only [h.sev]
theorem fConv_loc {st t : TypeId} {x : Operand} (h : Alike τ s x) : fConv T τ st t x = fConv T s st t x := by
 unfold fConv; simp only [h.sev]
theorem ssrc_loc (ho : ∀ y, τ.obj y = s.obj y) {t : TypeId} {ks : List K} {x : Operand} (h : Alike τ s x) : ssrc T τ t ks x = ssrc T s t ks x := by
 unfold ssrc; simp only [h.sev, ho]
theorem fBytes_loc (ho : ∀ y, τ.obj y = s.obj y) {st t : TypeId} {x : Operand} (h : Alike τ s x) : fBytes T τ st t x = fBytes T s st t x := by
 unfold fBytes; simp only [ssrc_loc ho h]
theorem fIndex_loc {t : TypeId} {x y : Operand} (h : Alike τ s x) (h' : Alike τ s y) : fIndex T τ t x y = fIndex T s t x y := by
 unfold fIndex; simp only [h.sev, h'.sev]
theorem fPick_loc {ty : TypeId} {c x y : Operand} (h0 : Alike τ s c) (h : Alike τ s x) (h' : Alike τ s y) : fPick T τ ty c x y = fPick T s ty c x y := by
 unfold fPick; simp only [h0.sev, h.sev, h'.sev]
theorem fLen_loc (ho : ∀ y, τ.obj y = s.obj y) {t : TypeId} {x : Operand} (h : Alike τ s x) : fLen T τ t x = fLen T s t x := by
 unfold fLen; simp only [h.sev, ho]
theorem sbnd_loc {d : E} {x : Option Operand} (h : ∀ y, x = some y → Alike τ s y) : sbnd T τ d x = sbnd T s d x := by
 cases x with
 | none => rfl
 | some y => simp only [sbnd, (h y rfl).sev]
theorem fSlice_loc (ho : ∀ y, τ.obj y = s.obj y) {t : TypeId} {x : Operand} {lo hi : Option Operand} (h : Alike τ s x) (hl : ∀ y, lo = some y → Alike τ s y) (hh : ∀ y, hi = some y → Alike τ s y) : fSlice T τ t x lo hi = fSlice T s t x lo hi := by
 unfold fSlice; simp only [h.sev, ho, sbnd_loc hl, sbnd_loc hh]
theorem fExtract_loc {x : Operand} {i : Nat} (h : Alike τ s x) : fExtract T τ x i = fExtract T s x i := by
 unfold fExtract; simp only [h.sev]
theorem fField_loc {t : TypeId} {x : Operand} {f : Nat} (h : Alike τ s x) : fField T τ t x f = fField T s t x f := by
 unfold fField; simp only [h.sev]
theorem fNilCheck_loc (ho : ∀ y, τ.obj y = s.obj y) {x : Operand} (h : Alike τ s x) : fNilCheck T τ x = fNilCheck T s x := by
 unfold fNilCheck; simp only [h.sev, ho]
theorem sargC_loc (ho : ∀ y, τ.obj y = s.obj y) (k : K) (c : SC) : sargC τ k c = sargC s k c := by
 cases c <;> simp only [sargC, ho]
theorem sargCs_loc (ho : ∀ y, τ.obj y = s.obj y) : ∀ (ks : List K) (cs : List SC), sargCs τ ks cs = sargCs s ks cs
 | [], [] => rfl
 | [], _ :: _ => rfl
 | _ :: _, [] => rfl
 | k :: ks, c :: cs => by simp only [sargCs, sargC_loc ho, sargCs_loc ho ks cs]
theorem sarg_loc (ho : ∀ y, τ.obj y = s.obj y) {ty : TypeId} {x : Operand} (h : Alike τ s x) (sh : ASh) : sarg T τ ty x sh = sarg T s ty x sh := by
 cases sh <;> simp only [sarg, h.sev, sargC_loc ho, sargCs_loc ho]
theorem sargs_loc (ho : ∀ y, τ.obj y = s.obj y) : ∀ (hs : List ASh) (ts : List TypeId) (xs : List Operand), (∀ x ∈ xs, Alike τ s x) → sargs T τ hs ts xs = sargs T s hs ts xs
 | [], [], [], _ => rfl
 | h :: hs, t :: ts, x :: xs, hx => by
   simp only [sargs, sarg_loc ho (hx x (by simp)), sargs_loc ho hs ts xs fun y hy => hx y (by simp [hy])]
 | [], [], _ :: _, _ => rfl
 | [], _ :: _, _, _ => rfl
 | _ :: _, [], _, _ => rfl
 | _ :: _, _ :: _, [], _ => rfl
theorem fCall_loc (ho : ∀ y, τ.obj y = s.obj y) {f : Nat} {ts : List TypeId} {xs : List Operand} (h : ∀ x ∈ xs, Alike τ s x) : fCall T CT key τ f ts xs = fCall T CT key s f ts xs := by
 unfold fCall
 simp only [sargs_loc ho _ _ _ h, ho]
theorem xcell_loc (ho : ∀ y, τ.obj y = s.obj y) (c : RC) (x : SC) : xcell τ c x = xcell s c x := by
 cases c with
 | im k => simp only [xcell, sargC_loc ho]
 | own t ks dp =>
   cases x with
   | ref z p => cases p <;> simp only [xcell, ho]
   | _ => rfl
theorem xcells_loc (ho : ∀ y, τ.obj y = s.obj y) : ∀ (cs : List RC) (xs : List SC), xcells τ cs xs = xcells s cs xs
 | [], [] => rfl
 | [], _ :: _ => rfl
 | _ :: _, [] => rfl
 | c :: cs, x :: xs => by simp only [xcells, xcell_loc ho, xcells_loc ho cs xs]
theorem xarg_loc (ho : ∀ y, τ.obj y = s.obj y) {ty : TypeId} {x : Operand} (h : Alike τ s x) (sh : XSh) : xarg T τ ty x sh = xarg T s ty x sh := by
 cases sh <;> simp only [xarg, h.sev, sarg_loc ho h, xcell_loc ho, xcells_loc ho]
theorem xargs_loc (ho : ∀ y, τ.obj y = s.obj y) : ∀ (hs : List XSh) (ts : List TypeId) (xs : List Operand), (∀ x ∈ xs, Alike τ s x) → xargs T τ hs ts xs = xargs T s hs ts xs
 | [], [], [], _ => rfl
 | h :: hs, t :: ts, x :: xs, hx => by
   simp only [xargs, xarg_loc ho (hx x (by simp)), xargs_loc ho hs ts xs fun y hy => hx y (by simp [hy])]
 | [], [], _ :: _, _ => rfl
 | [], _ :: _, _, _ => rfl
 | _ :: _, [], _, _ => rfl
 | _ :: _, _ :: _, [], _ => rfl
theorem fCallX_loc (ho : ∀ y, τ.obj y = s.obj y) {args : List XSh} {rets : List RSh} {f : Nat} {ts : List TypeId} {xs : List Operand} (h : ∀ x ∈ xs, Alike τ s x) : fCallX T args rets τ f ts xs = fCallX T args rets s f ts xs := by
 unfold fCallX
 rw [xargs_loc ho _ _ _ h]
 cases xargs T s args ts xs with
 | some q => rfl
 | none =>
   rcases args with _ | ⟨a, args⟩
   · rfl
   · rcases ts with _ | ⟨ty, ts⟩
     · cases a with
       | one c => cases c <;> rfl
       | _ => rfl
     · rcases xs with _ | ⟨x, xs⟩
       · cases a with
         | one c => cases c <;> rfl
         | _ => rfl
       · have h1 := xargs_loc (T := T) ho args ts xs fun y hy => h y (by simp [hy])
         have h2 := (h x (by simp)).sev (T := T) ty
         cases a with
         | one c =>
           cases c with
           | own t ks dp => simp only [h1, h2, ho]
           | _ => rfl
         | _ => rfl
theorem liveK_loc (ho : ∀ y, τ.obj y = s.obj y) (c : SC) : liveK τ c = liveK s c := by
 cases c <;> simp only [liveK, ho]
theorem liveV_loc (ho : ∀ y, τ.obj y = s.obj y) (v : SV) : liveV τ v = liveV s v := by
 cases v <;> simp only [liveV, liveK_loc ho]
 exact congrArg (fun f => List.flatMap f _) (funext fun c => liveK_loc ho c)
theorem bcell_loc (ho : ∀ y, τ.obj y = s.obj y) (c : BC) (x : SC) : bcell τ c x = bcell s c x := by
 cases c with
 | keep k => simp only [bcell, sargC_loc ho, liveK_loc ho]
 | im k => simp only [bcell, sargC_loc ho, liveK_loc ho]
 | own t ks =>
   cases x with
   | ref z p => cases p <;> simp only [bcell, ho]
   | _ => rfl
 | ex t ks pin =>
   cases x with
   | ref z p => cases p <;> simp only [bcell, ho]
   | _ => rfl
theorem bcells_loc (ho : ∀ y, τ.obj y = s.obj y) : ∀ (cs : List BC) (xs : List SC), bcells τ cs xs = bcells s cs xs
 | [], [] => rfl
 | [], _ :: _ => rfl
 | _ :: _, [] => rfl
 | c :: cs, x :: xs => by simp only [bcells, bcell_loc ho, bcells_loc ho cs xs]
theorem barg_loc (ho : ∀ y, τ.obj y = s.obj y) {ty : TypeId} {x : Operand} (h : Alike τ s x) (sh : BSh) : barg T τ ty x sh = barg T s ty x sh := by
 cases sh <;> simp only [barg, h.sev, sarg_loc ho h, liveV_loc ho, bcell_loc ho, bcells_loc ho, ho]
theorem bargs_loc (ho : ∀ y, τ.obj y = s.obj y) : ∀ (hs : List BSh) (ts : List TypeId) (xs : List Operand), (∀ x ∈ xs, Alike τ s x) → bargs T τ hs ts xs = bargs T s hs ts xs
 | [], [], [], _ => rfl
 | h :: hs, t :: ts, x :: xs, hx => by
   simp only [bargs, barg_loc ho (hx x (by simp)), bargs_loc ho hs ts xs fun y hy => hx y (by simp [hy])]
 | [], [], _ :: _, _ => rfl
 | [], _ :: _, _, _ => rfl
 | _ :: _, [], _, _ => rfl
 | _ :: _, _ :: _, [], _ => rfl
theorem fCallB1_loc (ho : ∀ y, τ.obj y = s.obj y) {args : List BSh} {rets : List RSh} {f : Nat} {ts : List TypeId} {xs : List Operand} (h : ∀ x ∈ xs, Alike τ s x) : fCallB1 T args rets key τ f ts xs = fCallB1 T args rets key s f ts xs := by
 unfold fCallB1
 simp only [bargs_loc ho _ _ _ h, ho]
theorem setO_loc {τ s : SSt} (ho : ∀ y, τ.obj y = s.obj y) (x : Nat) (q : SOb) : ∀ y, (τ.setO x q).obj y = (s.setO x q).obj y := fun y => by
 have hd : ∀ l : List (Nat × SOb), slook y (sdrop x l) = if y = x then none else slook y l := fun l => by
   induction l with
   | nil => simp [sdrop, slook]
   | cons p l ih =>
     obtain ⟨z, o⟩ := p
     by_cases hz : x = z
     · subst hz
       simp only [sdrop, beq_self_eq_true, cond_true, ih, slook]
       by_cases hy : y = x
       · simp [hy]
       · have : (y == x) = false := by simpa using hy
         simp [hy, this]
     · have hz' : (x == z) = false := by simpa using hz
       simp only [sdrop, hz', cond_false, slook, ih]
       by_cases hy : y = z
       · subst hy
         have : ¬ y = x := fun e => hz e.symm
         simp [this]
       · have : (y == z) = false := by simpa using hy
         simp [this]
 show slook y ((x, q) :: sdrop x τ.objs) = slook y ((x, q) :: sdrop x s.objs)
 simp only [slook, hd]
 cases hyx : y == x with
 | true => rfl
 | false =>
   have : ¬ y = x := by simpa using hyx
   simp only [cond_false, if_neg this]
   exact ho y
theorem sealL_loc : ∀ (zs : List Nat) {τ s : SSt}, (∀ y, τ.obj y = s.obj y) → sealL τ zs = sealL s zs
 | [], _, _, _ => rfl
 | z :: zs, τ, s, ho => by
   simp only [sealL, ho z]
   split
   · rw [sealL_loc zs (setO_loc ho _ _)]
   · exact sealL_loc zs ho
   · rfl
theorem upds_loc : ∀ (l : List (Nat × SOb)) {τ s : SSt}, (∀ y, τ.obj y = s.obj y) → ∀ y, (τ.upds l).obj y = (s.upds l).obj y
 | [], _, _, ho => ho
 | (x, o) :: l, τ, s, ho => upds_loc l (setO_loc ho x o)
theorem SSt.upds_tmp (l : List (Nat × SOb)) (s : SSt) (t : Nat) : (s.upds l).tmp t = s.tmp t := by unfold SSt.tmp; rw [SSt.upds_tmps]
theorem fCallB_loc (ho : ∀ y, τ.obj y = s.obj y) {args : List BSh} {rets : List RSh} {f : Nat} {ts : List TypeId} {xs : List Operand} (h : ∀ x ∈ xs, Alike τ s x) : fCallB T args rets key τ f ts xs = fCallB T args rets key s f ts xs := by
 unfold fCallB
 rw [fCallB1_loc ho h, bargs_loc ho _ _ _ h]
 cases fCallB1 T args rets key s f ts xs with
 | some r => rfl
 | none =>
   cases bargs T s args ts xs with
   | none => rfl
   | some t =>
     simp only
     rw [sealL_loc _ ho]
     cases sealL s t.ls with
     | none => rfl
     | some l =>
       simp only
       rw [fCallB1_loc (upds_loc l ho) fun x hx t e => by rw [SSt.upds_tmp, SSt.upds_tmp]; exact h x hx t e]
theorem fCallR_loc (ho : ∀ y, τ.obj y = s.obj y) {args : List ASh} {f : Nat} {ts : List TypeId} {xs : List Operand} (h : ∀ x ∈ xs, Alike τ s x) : fCallR T CT args key τ f ts xs = fCallR T CT args key s f ts xs := by
 unfold fCallR
 rw [fCall_loc ho h, bargs_loc ho _ _ _ h]
 cases fCall T CT key s f ts xs with
 | some r => rfl
 | none =>
   cases bargs T s (args.map BSh.im) ts xs with
   | none => rfl
   | some t =>
     simp only
     rw [sealL_loc _ ho]
     cases sealL s t.ls with
     | none => rfl
     | some l =>
       simp only
       rw [fCall_loc (upds_loc l ho) fun x hx t e => by rw [SSt.upds_tmp, SSt.upds_tmp]; exact h x hx t e]
theorem fCallS_loc (ho : ∀ y, τ.obj y = s.obj y) {t : TypeId} {ks : List K} {f : Nat} {ts : List TypeId} {xs : List Operand} (h : ∀ x ∈ xs, Alike τ s x) : fCallS T t ks τ f ts xs = fCallS T t ks s f ts xs := by
 unfold fCallS
 split
 · rename_i ty x
   simp only [(h x (by simp)).sev, ho]
 · rfl
theorem fCallN_loc (ho : ∀ y, τ.obj y = s.obj y) {args : List ASh} {bt : TypeId} {ks : List K} {f : Nat} {ts : List TypeId} {xs : List Operand} (h : ∀ x ∈ xs, Alike τ s x) : fCallN T args bt ks key τ f ts xs = fCallN T args bt ks key s f ts xs := by
 unfold fCallN
 simp only [sargs_loc ho _ _ _ h, ho]
theorem fCallA_loc (ho : ∀ y, τ.obj y = s.obj y) {f : Nat} {ts : List TypeId} {xs : List Operand} (h : ∀ x ∈ xs, Alike τ s x) : fCallA T CT key τ f ts xs = fCallA T CT key s f ts xs := by
 unfold fCallA
 cases CT f with
 | none => rfl
 | some sg =>
   simp only
   cases sg.xs with
   | none =>
     cases sg.so with
     | some q => exact fCallS_loc ho h
     | none =>
       cases sg.bs with
       | none =>
         cases sg.nb with
         | none => exact fCallR_loc ho h
         | some q => exact fCallN_loc ho h
       | some l => exact fCallB_loc ho h
   | some l => exact fCallX_loc ho h
theorem fBuild_loc {t : TypeId} {parts : List (Nat × Operand)} (h : ∀ p ∈ parts, Alike τ s p.2) : fBuild T τ t parts = fBuild T s t parts := by
 unfold fBuild
 have e : (parts.map fun p => (p.1, sev T (((T t).flds.getD p.1 (0, 0)).2) τ p.2)) = parts.map fun p => (p.1, sev T (((T t).flds.getD p.1 (0, 0)).2) s p.2) :=
   List.map_congr_left fun p hp => by rw [(h p hp).sev]
 rw [e]
def quietOp (o : Oper) : Bool := match o.op with
 | .move _ | .assign _ | .load .. | .fieldAddr .. | .indexAddr .. | .binOp .. | .unOp .. | .convert .. | .index .. | .pick .. | .extract .. | .field .. | .nilCheck _ | .build .. => true
 | .slice _ _ _ _ none => true
 | .call c => match c.callee with
   | .value (.func _) => true
   | .builtin .len => true
   | _ => false
 | _ => false
theorem fOp_loc (ho : ∀ y, τ.obj y = s.obj y) {o : Oper} (hq : quietOp o = true) (h : ∀ x ∈ o.op.operands.toList, Alike τ s x) : fOp T CT key τ o = fOp T CT key s o := by
 obtain ⟨dst, op, type, pos, after, guard⟩ := o
 cases op with
 | move x => simp only [fOp, opF, (h x (by simp [Op.operands])).sev]
 | assign x => simp only [fOp, opF, (h x (by simp [Op.operands])).sev]
 | load t x => exact fLoad_loc ho (h x (by simp [Op.operands]))
 | fieldAddr t x f => exact fFieldAddr_loc ho (h x (by simp [Op.operands]))
 | indexAddr t x y => exact fIndexAddr_loc ho (h x (by simp [Op.operands])) (h y (by simp [Op.operands]))
 | binOp op t x y u => simp only [fOp, opF, fBin_loc (op := op) (t := t) (u := u) (h x (by simp [Op.operands])) (h y (by simp [Op.operands])), fEq_loc (op := op) (t := t) (u := u) (h x (by simp [Op.operands])) (h y (by simp [Op.operands]))]
 | unOp op t x => exact fUn_loc (h x (by simp [Op.operands]))
 | convert st t x => simp only [fOp, opF, fConv_loc (st := st) (t := t) (h x (by simp [Op.operands])), fBytes_loc (st := st) (t := t) ho (h x (by simp [Op.operands]))]
 | index t x y => exact fIndex_loc (h x (by simp [Op.operands])) (h y (by simp [Op.operands]))
 | pick c x y => exact fPick_loc (h c (by simp [Op.operands])) (h x (by simp [Op.operands])) (h y (by simp [Op.operands]))
 | extract x i => exact fExtract_loc (h x (by simp [Op.operands]))
 | field t x f => exact fField_loc (h x (by simp [Op.operands]))
 | build t parts => exact fBuild_loc fun p hp => h p.2 (by simp only [Op.operands, Array.toList_map, List.mem_map]; exact ⟨p, hp, rfl⟩)
 | nilCheck x => exact fNilCheck_loc ho (h x (by simp [Op.operands]))
 | slice t x lo hi m =>
   cases m with
   | none => exact fSlice_loc ho (h x (by simp [Op.operands])) (fun y hy => h y (by simp [Op.operands, hy])) (fun y hy => h y (by simp [Op.operands, hy]))
   | some m => simp [quietOp] at hq
 | call c =>
   obtain ⟨callee, args, argTypes⟩ := c
   cases callee with
   | value f =>
     cases f with
     | func f => exact fCallA_loc ho fun x hx => h x (by simp [Op.operands, Call.operands, Array.mem_toList_iff.1 hx])
     | _ => simp [quietOp] at hq
   | builtin b =>
     cases b with
     | len =>
       simp only [fOp, opF]
       split
       · rename_i x t _ hx _
         exact fLen_loc ho (h x (by simp [Op.operands, Call.operands, ← Array.mem_toList_iff, hx]))
       · rename_i hb _ _; cases hb
       · rename_i hb _ _; cases hb
       · rename_i hb _ _; cases hb
       · rfl
     | _ => simp [quietOp] at hq
   | invoke _ _ => simp [quietOp] at hq
 | _ => simp [quietOp] at hq
end
end Go.Vx
namespace Go.Vx
open Go.RowKit (Below)
def qstep (T : TypeId → TI) (CT : Nat → Option Sig) (ops : Array Oper) (s : SSt) (o : Oper) : Option (Nat × List E × SV) :=
 match o.dst, guardCs s ops o with
 | some d, some cs => bif quietOp o && Nat.blt d s.tmps.length then match fOp T CT (d * 64) (s.strip cs) o with
   | some r => bif r.upd.isEmpty then some (d, r.cs.map (gimp cs), wrap cs r.v) else none
   | none => none
   else none
 | _, _ => none
section
variable {Φ : Fns} {env : List D} {C : Cx} {g : Gh} {s τ : SSt} {a : Act} {w : World} {o : Oper}
theorem qstep_sound (R : Rel C g (s.den Φ env) a w) {CT : Nat → Option Sig} (hCT : Told C.P Φ CT) {ops : Array Oper} {d : Nat} {cs : List E} {v : SV} (h : qstep C.T CT ops s o = some (d, cs, v)) (hkey : s.obj (d * 64) = none)
   (hc : holds Φ env cs) (next : Act → World → Prop) (Q : Exit → Act → World → Prop) (hn : ∀ a' w' g', Rel C g' ((s.setT d v).den Φ env) a' w' → next a' w') :
   if Region.wanted o (yielded ops a.tmps) = true then o.wp C.P a w next Q else next (a.put o.dst undef) w := by
 unfold qstep at h
 split at h
 · rename_i d' cs0 hd hg
   obtain ⟨h1, h2⟩ := bif_some h
   clear h
   simp only [Bool.and_eq_true] at h1
   split at h2
   · rename_i r hr
     obtain ⟨h3, h4⟩ := bif_some h2
     clear h2
     simp only [Option.some.injEq, Prod.mk.injEq] at h4
     obtain ⟨rfl, rfl, rfl⟩ := h4
     have hdn : d' < C.n := by rw [← R.slen]; exact Nat.le_of_ble_eq_true h1.2
     have hupd : r.upd = [] := by simpa using h3
     have hwi := guard_wanted R hg
     by_cases hall : holds Φ env cs0
     · rw [if_pos (hwi.2 hall)]
       have hkey' : (s.strip cs0).obj (d' * 64) = none := hkey
       refine good_fOp (R.strip hall) hCT hkey' hr (fun e he => gimp_den _ _ (hc _ (List.mem_map.2 ⟨e, he, rfl⟩)) hall) next Q fun x w' g' hv R' => hn _ _ g' ?_
       rw [hupd] at hv R'
       have R2 := Rel.unstrip (s := s) (cs := cs0) R' hall
       rw [SSt.den_setT, hd]
       exact R2.put hdn (wrap_rep (fun _ => hv) fun hno => absurd hall hno)
     · rw [if_neg fun hq => hall (hwi.1 hq)]
       refine hn _ _ g ?_
       rw [SSt.den_setT, hd]
       exact R.put hdn (wrap_undef hall)
   · cases h2
 · cases h
theorem qstep_loc {T : TypeId → TI} {CT : Nat → Option Sig} {ops : Array Oper} (ho : ∀ y, τ.obj y = s.obj y) (hl : τ.tmps.length = s.tmps.length) (h : ∀ t ∈ o.looksAt ops, τ.tmp t = s.tmp t) : qstep T CT ops τ o = qstep T CT ops s o := by
 have hg : guardCs τ ops o = guardCs s ops o := by
   unfold guardCs
   cases hgu : o.guard with
   | none => rfl
   | some q =>
     obtain ⟨j, want⟩ := q
     simp only
     cases hj : (ops[j]?).bind (·.dst) with
     | none => rfl
     | some t =>
       have := h t (by simp [Oper.looksAt, hgu, hj])
       simp only [this]
 have hx : ∀ cs, ∀ x ∈ o.op.operands.toList, Alike (τ.strip cs) (s.strip cs) x := fun cs x hx t ht => by
   subst ht
   rw [strip_tmp, strip_tmp, h t]
   unfold Oper.looksAt
   refine List.mem_append.2 (.inl (List.mem_filterMap.2 ⟨.tmp t, hx, rfl⟩))
 unfold qstep
 rw [hg, hl]
 cases o.dst with
 | none => rfl
 | some d =>
   cases guardCs s ops o with
   | none => rfl
   | some cs =>
     simp only
     cases hq : quietOp o with
     | false => rfl
     | true =>
       rw [fOp_loc (τ := τ.strip cs) (s := s.strip cs) (fun y => ho y) hq (hx cs)]
end
end Go.Vx
namespace Go.Vx
open Go.RowKit (Below)
abbrev Plan := List (Nat × List E × SV)
def qrun (T : TypeId → TI) (CT : Nat → Option Sig) (ops : Array Oper) : List Nat → SSt → Option (Plan × SSt)
 | [], s => some ([], s)
 | i :: l, s => match ops[i]? with
   | some o => match qstep T CT ops s o with
     | some (d, cs, v) => match qrun T CT ops l (s.setT d v) with
       | some (p, s') => some ((d, cs, v) :: p, s')
       | none => none
     | none => none
   | none => none
def freeAll : List Nat → SSt → SSt
 | [], s => s
 | d :: ds, s => freeAll ds (s.free d)
def binding (ops : Array Oper) (i j : Nat) : Bool := match ops[i]? with
 | some o => o.after.toList.any fun e => Region.binds .any e && e.on == j
 | none => false
def looksB (ops : Array Oper) (i t : Nat) : Bool := match ops[i]? with
 | some o => (o.looksAt ops).any fun u => u == t
 | none => false
def orderOk (ops : Array Oper) (p : Plan) (n : Nat) : Bool :=
 (List.range n).all fun i =>
   (match ops[i]? with
     | some o => o.after.toList.all fun e => !Region.binds .any e || Nat.blt e.on i
     | none => false) &&
   (List.range n).all fun j => match p[i]?, p[j]? with
     | some pi, some pj => (i == j || !(pi.1 == pj.1)) && (!looksB ops i pj.1 || bif Nat.blt j i then binding ops i j else i == j || binding ops j i)
     | _, _ => false
def dsts (ops : Array Oper) : List Nat := ops.toList.filterMap (·.dst)
def drun (T : TypeId → TI) (CT : Nat → Option Sig) (ops : Array Oper) (s : SSt) : Option (List E × SSt) :=
 match qrun T CT ops (List.range ops.size) (freeAll (dsts ops) s) with
 | some (p, s') => bif orderOk ops p ops.size && p.all fun q => Nat.blt q.1 s.tmps.length && match (freeAll (dsts ops) s).obj (q.1 * 64) with | none => true | some _ => false then some (p.flatMap fun q => q.2.1, s') else none
 | none => none
section
variable {Φ : Fns} {env : List D} {C : Cx} {g : Gh} {s τ : SSt} {a : Act} {w : World} {p : Plan}
structure Has (s : SSt) (p : Plan) (L : Nat → Prop) (τ : SSt) : Prop where
 objs : τ.objs = s.objs
 len : τ.tmps.length = s.tmps.length
 new : ∀ j q, p[j]? = some q → L j → τ.tmp q.1 = q.2.2
 old : ∀ t, (∀ j q, p[j]? = some q → L j → q.1 ≠ t) → τ.tmp t = s.tmp t
theorem tmp_setT {s : SSt} {t u : Nat} {v : SV} (h : t < s.tmps.length) : (s.setT t v).tmp u = if u = t then v else s.tmp u := by
 unfold SSt.tmp SSt.setT
 simp only [List.getD_eq_getElem?_getD, List.getElem?_set]
 by_cases e : t = u
 · subst e; simp [h]
 · simp [e, show ¬ u = t from fun h => e h.symm]
def Apart (p : Plan) : Prop := ∀ (i j : Nat) (q r : Nat × List E × SV), p[i]? = some q → p[j]? = some r → q.1 = r.1 → i = j
theorem Has.step {L L' : Nat → Prop} (h : Has s p L τ) (hp : Apart p) {i : Nat} {q : Nat × List E × SV} (hi : p[i]? = some q) (hd : q.1 < s.tmps.length) (hL : ∀ j, L' j ↔ L j ∨ j = i) : Has s p L' (τ.setT q.1 q.2.2) := by
 have hl : q.1 < τ.tmps.length := by rw [h.len]; exact hd
 refine ⟨h.objs, by rw [show (τ.setT q.1 q.2.2).tmps = τ.tmps.set q.1 q.2.2 from rfl, List.length_set]; exact h.len, fun j r hj hLj => ?_, fun t ht => ?_⟩
 · rw [tmp_setT hl]
   by_cases e : r.1 = q.1
   · have := hp j i r q hj hi e
     subst this
     rw [hi] at hj
     simp only [Option.some.injEq] at hj
     subst hj
     rw [if_pos rfl]
   · rw [if_neg e]
     rcases (hL j).1 hLj with h1 | h1
     · exact h.new j r hj h1
     · subst h1
       rw [hi] at hj
       simp only [Option.some.injEq] at hj
       subst hj
       exact absurd rfl e
 · rw [tmp_setT hl, if_neg fun e => ht i q hi ((hL i).2 (.inr rfl)) e.symm]
   exact h.old t fun j r hj hLj => ht j r hj ((hL j).2 (.inl hLj))
theorem qrun_has {T : TypeId → TI} {CT : Nat → Option Sig} {ops : Array Oper} {s : SSt} {p : Plan} (hp : Apart p) (hd : ∀ q ∈ p, q.1 < s.tmps.length) : ∀ (m k : Nat) {pre suf : Plan} {τ τ' : SSt}, p = pre ++ suf → pre.length = k → Has s p (· < k) τ → qrun T CT ops (List.range' k m) τ = some (suf, τ') →
   Has s p (· < k + m) τ' ∧ ∀ i q, k ≤ i → i < k + m → p[i]? = some q → ∃ o τi, ops[i]? = some o ∧ Has s p (· < i) τi ∧ qstep T CT ops τi o = some q
 | 0, k, pre, suf, τ, τ', he, hk, h, hq => by
   simp only [List.range'_zero, qrun, Option.some.injEq, Prod.mk.injEq] at hq
   obtain ⟨rfl, rfl⟩ := hq
   exact ⟨h, fun i q h1 h2 => by omega⟩
 | m + 1, k, pre, suf, τ, τ', he, hk, h, hq => by
   simp only [List.range'_succ, qrun] at hq
   split at hq
   · rename_i o ho
     split at hq
     · rename_i d cs v h1
       split at hq
       · rename_i suf' τ1 h2
         simp only [Option.some.injEq, Prod.mk.injEq] at hq
         obtain ⟨rfl, rfl⟩ := hq
         have hi : p[k]? = some (d, cs, v) := by rw [he, List.getElem?_append_right (by omega), hk]; simp
         have hs := h.step hp hi (hd _ (List.mem_of_getElem? hi)) (L' := (· < k + 1)) (fun j => by omega)
         obtain ⟨a1, a2⟩ := qrun_has hp hd m (k + 1) (pre := pre ++ [(d, cs, v)]) (by rw [he]; simp) (by simp [hk]) hs h2
         refine ⟨by rw [show k + (m + 1) = k + 1 + m by omega]; exact a1, fun i q q1 q2 q3 => ?_⟩
         by_cases e : i = k
         · subst e
           rw [hi] at q3
           simp only [Option.some.injEq] at q3
           subst q3
           exact ⟨o, τ, ho, h, h1⟩
         · exact a2 i q (by omega) (by omega) q3
       · cases hq
     · cases hq
   · cases hq
theorem qrun_length {T : TypeId → TI} {CT : Nat → Option Sig} {ops : Array Oper} : ∀ (l : List Nat) {s s' : SSt} {p : Plan}, qrun T CT ops l s = some (p, s') → p.length = l.length
 | [], s, s', p, h => by simp only [qrun, Option.some.injEq, Prod.mk.injEq] at h; obtain ⟨rfl, rfl⟩ := h; rfl
 | i :: l, s, s', p, h => by
   simp only [qrun] at h
   split at h
   · split at h
     · split at h
       · rename_i h2
         simp only [Option.some.injEq, Prod.mk.injEq] at h
         obtain ⟨rfl, rfl⟩ := h
         simp [qrun_length l h2]
       · cases h
     · cases h
   · cases h
theorem Rel.freeAll : ∀ (ds : List Nat) {g : Gh} {s : SSt}, Rel C g (s.den Φ env) a w → ∃ g', Rel C g' ((freeAll ds s).den Φ env) a w
 | [], g, s, R => ⟨g, R⟩
 | d :: ds, g, s, R => by
   obtain ⟨g1, R1⟩ := R.free d
   exact Rel.freeAll ds R1
theorem freeAll_len : ∀ (ds : List Nat) (s : SSt), (Vx.freeAll ds s).tmps.length = s.tmps.length
 | [], s => rfl
 | d :: ds, s => by rw [Vx.freeAll, freeAll_len ds, free_len]
structure Inv (Φ : Fns) (env : List D) (C : Cx) (s : SSt) (ops : Array Oper) (p : Plan) (fuel : Nat) (listed : Array Bool) (a : Act) (w : World) : Prop where
 size : listed.size = ops.size
 fuel : listed.toList.count false ≤ fuel
 closed : ∀ i j, listed.getD i false = true → binding ops i j = true → listed.getD j false = true
 rel : ∃ g τ, Rel C g (τ.den Φ env) a w ∧ Has s p (fun i => listed.getD i false = true) τ
theorem binding_ready {ops : Array Oper} {listed : Array Bool} {i j : Nat} (hr : i ∈ Region.ready .any ops listed) (hb : binding ops i j = true) : listed.getD j false = true := by
 obtain ⟨_, o, ho, hall⟩ := mem_ready.1 hr
 unfold binding at hb
 rw [ho] at hb
 simp only [List.any_eq_true, Bool.and_eq_true, beq_iff_eq] at hb
 obtain ⟨e, he, h1, rfl⟩ := hb
 exact hall e (Array.mem_toList_iff.1 he) h1
theorem any_sound {CT : Nat → Option Sig} (hCT : Told C.P Φ CT) {ops : Array Oper} {Q : Exit → Act → World → Prop} {s s' : SSt} {p : Plan} (hq : qrun C.T CT ops (List.range ops.size) s = some (p, s')) (hok : orderOk ops p ops.size = true)
   (hd : ∀ q ∈ p, q.1 < s.tmps.length) (hkey : ∀ q ∈ p, s.obj (q.1 * 64) = none) (hc : ∀ q ∈ p, holds Φ env q.2.1) (hQ : ∀ a' w' g', Rel C g' (s'.den Φ env) a' w' → Q .normal a' w') :
   ∀ (fuel : Nat) (listed : Array Bool) (a : Act) (w : World), Inv Φ env C s ops p fuel listed a w → wpAny C.P .any ops Q fuel listed a w := by
 have hlen := qrun_length _ hq
 rw [List.length_range] at hlen
 simp only [orderOk, List.all_eq_true, List.mem_range, Bool.and_eq_true] at hok
 have hget : ∀ i, i < ops.size → ∃ q, p[i]? = some q := fun i hi => ⟨p[i], List.getElem?_eq_getElem (by omega)⟩
 have hlt : ∀ i q, p[i]? = some q → i < ops.size := fun i q h => by rw [← hlen]; exact (List.getElem?_eq_some_iff.1 h).1
 have pair : ∀ i j q r, p[i]? = some q → p[j]? = some r → ((i == j || !(q.1 == r.1)) && (!looksB ops i r.1 || bif Nat.blt j i then binding ops i j else i == j || binding ops j i)) = true := fun i j q r h1 h2 => by
   have := (hok i (hlt i q h1)).2 j (hlt j r h2)
   rw [h1, h2] at this
   exact this
 have hap : Apart p := fun i j q r h1 h2 he => by
   have := pair i j q r h1 h2
   simp only [Bool.and_eq_true, Bool.or_eq_true, beq_iff_eq, Bool.not_eq_true', beq_eq_false_iff_ne] at this
   exact this.1.resolve_right fun h => h he
 have h0 : Has s p (fun i => i < 0) s := ⟨rfl, rfl, fun j q _ h => by omega, fun _ _ => rfl⟩
 rw [List.range_eq_range'] at hq
 obtain ⟨hfin, hsteps⟩ := qrun_has hap hd ops.size 0 (pre := []) (by simp) rfl h0 hq
 simp only [Nat.zero_add] at hfin hsteps
 have fin : ∀ listed a w g τ, (∀ i, i < ops.size → listed.getD i false = true) → Rel C g (SSt.den Φ env τ) a w → Has s p (fun i => (listed : Array Bool).getD i false = true) τ → Q .normal a w := fun listed a w g τ hall R H => by
   have hts : ∀ t, τ.tmp t = s'.tmp t := fun t => by
     by_cases h : ∃ (j : Nat) (q : Nat × List E × SV), p[j]? = some q ∧ q.1 = t
     · obtain ⟨j, q, hj, rfl⟩ := h
       rw [H.new j q hj (hall j (hlt j q hj)), hfin.new j q hj (hlt j q hj)]
     · rw [H.old t fun j q hj _ he => h ⟨j, q, hj, he⟩, hfin.old t fun j q hj _ he => h ⟨j, q, hj, he⟩]
   refine hQ a w g (R.retmps ?_ ?_ fun t v hv => ?_)
   · simp only [SSt.den, H.objs, hfin.objs]
   · simp only [SSt.den, List.length_map, H.len, hfin.len]
   · rw [SSt.den_tmp] at hv ⊢
     rw [← hts]
     exact hv
 have notin : ∀ (listed : Array Bool), listed.size = ops.size → (∀ i, i < ops.size → listed.getD i true ≠ false) → ∀ i, i < ops.size → listed.getD i false = true := fun listed hs h i hi => by
   have := h i hi
   rw [← hs] at hi
   simp [hi] at this ⊢
   exact this
 intro fuel
 induction fuel with
 | zero =>
   intro listed a w I
   have hno : ∀ i, i < ops.size → listed.getD i true ≠ false := fun i hi he => by
     have h1 := I.fuel
     have h2 : List.count false listed.toList = 0 := by omega
     rw [← I.size] at hi
     simp [hi] at he
     exact (List.count_eq_zero.1 h2) (by rw [← he]; exact Array.mem_toList_iff.2 (Array.getElem_mem hi))
   refine ⟨?_, ?_⟩
   · refine List.eq_nil_iff_forall_not_mem.2 fun i hi => ?_
     obtain ⟨h1, o, ho, _⟩ := mem_ready.1 hi
     exact hno i (Array.getElem?_eq_some_iff.1 ho).1 h1
   · obtain ⟨g, τ, R, H⟩ := I.rel
     exact fin listed a w g τ (notin listed I.size hno) R H
 | succ fuel ih =>
   intro listed a w I
   obtain ⟨g, τ, R, H⟩ := I.rel
   refine ⟨fun hnil => ?_, fun i hi => ?_⟩
   · -- nothing is ready: all is listed
     have key : ∀ i, i < ops.size → listed.getD i true ≠ false := fun i => by
       induction i using Nat.strongRecOn with
       | _ i ihi =>
         intro hi he
         have hm : i ∈ Region.ready .any ops listed := by
           refine mem_ready.2 ⟨he, ops[i], by simp [hi], fun e hem hb => ?_⟩
           have h1 := (hok i hi).1
           have : ops[i]? = some ops[i] := by simp [hi]
           rw [this] at h1
           simp only [List.all_eq_true] at h1
           have h2 := h1 e (Array.mem_toList_iff.2 hem)
           rw [hb] at h2
           have h3 : e.on < i := by simpa using h2
           have h4 := ihi e.on h3 (by omega)
           have h5 : e.on < listed.size := by rw [I.size]; omega
           simp [h5] at h4 ⊢
           exact h4
         rw [hnil] at hm
         cases hm
     exact fin listed a w g τ (notin listed I.size key) R H
   · obtain ⟨hun, o, ho, hall⟩ := mem_ready.1 hi
     have hilt : i < ops.size := (Array.getElem?_eq_some_iff.1 ho).1
     obtain ⟨q, hpi⟩ := hget i hilt
     obtain ⟨o', τi, ho', Hi, hstep⟩ := hsteps i q (by omega) hilt hpi
     rw [ho] at ho'
     simp only [Option.some.injEq] at ho'
     subst ho'
     have hls : i < listed.size := by rw [I.size]; exact hilt
     have hif : ¬ listed.getD i false = true := by simp [hls] at hun ⊢; exact hun
     have hsame : ∀ t ∈ o.looksAt ops, τ.tmp t = τi.tmp t := fun t ht => by
       by_cases hex : ∃ (j : Nat) (r : Nat × List E × SV), p[j]? = some r ∧ r.1 = t
       · obtain ⟨j, r, hj, rfl⟩ := hex
         have hlk : looksB ops i r.1 = true := by
           unfold looksB
           rw [ho]
           exact List.any_eq_true.2 ⟨r.1, ht, by simp⟩
         have hp2 := pair i j q r hpi hj
         simp only [hlk, Bool.not_true, Bool.false_or, Bool.and_eq_true] at hp2
         have hp2 := hp2.2
         have none' : ¬ listed.getD j false = true → ¬ j < i → τ.tmp r.1 = τi.tmp r.1 := fun n1 n2 => by
           rw [H.old r.1 fun k q' hk hL he => n1 (by rw [← hap k j q' r hk hj he]; exact hL), Hi.old r.1 fun k q' hk hL he => n2 (by rw [← hap k j q' r hk hj he]; exact hL)]
         cases hji : Nat.blt j i with
         | true =>
           rw [hji] at hp2
           have h1 := binding_ready hi hp2
           rw [H.new j r hj h1, Hi.new j r hj (Nat.le_of_ble_eq_true hji)]
         | false =>
           rw [hji] at hp2
           have hnlt : ¬ j < i := fun h => by
             have : Nat.blt j i = true := Nat.ble_eq_true_of_le h
             rw [this] at hji; cases hji
           simp only [cond_false, Bool.or_eq_true, beq_iff_eq] at hp2
           rcases hp2 with h1 | h1
           · subst h1; exact none' hif hnlt
           · exact none' (fun hl => hif (I.closed j i hl h1)) hnlt
       · rw [H.old t fun k q' hk _ he => hex ⟨k, q', hk, he⟩, Hi.old t fun k q' hk _ he => hex ⟨k, q', hk, he⟩]
     have hloc : qstep C.T CT ops τ o = some q := by
       rw [qstep_loc (fun y => by unfold SSt.obj; rw [H.objs, Hi.objs]) (by rw [H.len, Hi.len]) hsame, hstep]
     have hmq : q ∈ p := List.mem_of_getElem? hpi
     obtain ⟨d, cs, v⟩ := q
     have hk : s.obj (d * 64) = none := by have := hkey _ hmq; simpa only using this
     have hobj : τ.obj (d * 64) = s.obj (d * 64) := by unfold SSt.obj; rw [H.objs]
     have := qstep_sound R hCT hloc (hobj.trans hk) (hc (d, cs, v) hmq) (wpAny C.P .any ops Q fuel (listed.setIfInBounds i true)) Q fun a' w' g' R' => ih _ a' w' ?_
     · unfold wpOp
       simp only [ho]
       split at this
       · rename_i hw; rw [if_pos hw]; exact .inl this
       · rename_i hw; rw [if_neg hw]; exact this
     · have hset : ∀ j, (listed.setIfInBounds i true).getD j false = true ↔ listed.getD j false = true ∨ j = i := fun j => by
         by_cases e : i = j
         · subst e; simp [hls]
         · rw [getD_set_ne false e]
           exact ⟨.inl, fun h => h.resolve_right fun h => e h.symm⟩
       refine ⟨by simp [I.size], ?_, fun j k hj hb => ?_, g', _, R', H.step hap hpi (hd _ hmq) hset⟩
       · refine Nat.lt_succ_iff.1 (Nat.lt_of_lt_of_le ?_ I.fuel)
         have hb : listed.toList[i]'(by simpa using hls) = false := by simpa [hls] using hun
         have hpos : 0 < listed.toList.count false := List.count_pos_iff.2 (by rw [← hb]; exact List.getElem_mem _)
         rw [Array.toList_setIfInBounds, List.count_set (by simpa using hls), hb]
         show _ - 1 + 0 < _
         omega
       · rcases (hset j).1 hj with h1 | h1
         · exact (hset k).2 (.inl (I.closed j k h1 hb))
         · subst h1
           exact (hset k).2 (.inl (binding_ready hi hb))
theorem draw_sound {CT : Nat → Option Sig} (hCT : Told C.P Φ CT) (hm : C.P.follows .mixedOrders = true) {ops : Array Oper} {id : Nat} {Q : Exit → Act → World → Prop} {cs : List E} {s' : SSt} (R : Rel C g (s.den Φ env) a w)
   (h : drun C.T CT ops s = some (cs, s')) (hc : holds Φ env cs) (hQ : ∀ a' w' g', Rel C g' (s'.den Φ env) a' w' → Q .normal a' w') : (Code.region id ops true).wp C.P Q a w := by
 unfold drun at h
 split at h
 · rename_i p s1 hq
   obtain ⟨h1, h2⟩ := bif_some h
   clear h
   simp only [Option.some.injEq, Prod.mk.injEq] at h2
   obtain ⟨rfl, rfl⟩ := h2
   simp only [Bool.and_eq_true, List.all_eq_true] at h1
   obtain ⟨g1, R1⟩ := R.freeAll (dsts ops)
   have RR : Rel C g1 ((freeAll (dsts ops) s).den Φ env) a { w with drawn := w.drawn + 1 } := Rel.same (w := w) R1 rfl rfl rfl rfl
   have HH : Has (freeAll (dsts ops) s) p (fun i => (Array.replicate ops.size false).getD i false = true) (freeAll (dsts ops) s) :=
     ⟨rfl, rfl, fun j q _ hL => by by_cases hlt : j < ops.size <;> simp [hlt] at hL, fun _ _ => rfl⟩
   have I : Inv Φ env C (freeAll (dsts ops) s) ops p ops.size (Array.replicate ops.size false) a { w with drawn := w.drawn + 1 } := by
     refine ⟨by simp, by simp, fun i j hi => ?_, ⟨g1, _, RR, HH⟩⟩
     by_cases hlt : i < ops.size <;> simp [hlt] at hi
   refine wp_region_any hm (any_sound hCT hq h1.1 (fun q hm => ?_) (fun q hm => ?_) (fun q hm e he => hc e (List.mem_flatMap.2 ⟨q, hm, he⟩)) hQ _ _ _ _ I)
   · rw [freeAll_len]; exact Nat.le_of_ble_eq_true (h1.2 q hm).1
   · have := (h1.2 q hm).2
     split at this
     · rename_i hn; exact hn
     · cases this
 · cases h
end
end Go.Vx
namespace Go.Vx
open Go.RowKit (Below)
mutual
def E.sub (n : Nat) (es : List E) : E → E
 | .var i => bif Nat.blt i n then .var i else es.getD (i - n) (.int 0)
 | .int i => .int i
 | .bool b => .bool b
 | .str s => .str s
 | .nl => .nl
 | .op o fs => .op o (E.subs n es fs)
def E.subs (n : Nat) (es : List E) : List E → List E
 | [] => []
 | f :: fs => E.sub n es f :: E.subs n es fs
end
def SC.sub (n : Nat) (es : List E) : SC → SC
 | .dat k e => .dat k (e.sub n es)
 | .nil t ks => .nil t ks
 | .ref x p => .ref x (p.map fun q => (q.1.sub n es, q.2.sub n es))
 | .dead => .dead
mutual
def SV.sub (n : Nat) (es : List E) : SV → SV
 | .one c => .one (c.sub n es)
 | .agg cs => .agg (cs.map (SC.sub n es))
 | .ptr x i j => .ptr x (i.sub n es) j
 | .pim ks e off => .pim ks (e.sub n es) off
 | .tup vs => .tup (SV.subs n es vs)
 | .whn c v => .whn (c.sub n es) (v.sub n es)
 | .lod x i j => .lod x (i.sub n es) j
 | .dead => .dead
def SV.subs (n : Nat) (es : List E) : List SV → List SV
 | [] => []
 | v :: vs => v.sub n es :: SV.subs n es vs
end
def SOb.sub (n : Nat) (es : List E) : SOb → SOb
 | .box T cs => .box T (cs.map (SC.sub n es))
 | .arr e ks dp xs => .arr e ks dp (xs.sub n es)
 | .sealed e ks xs => .sealed e ks (xs.sub n es)
 | .gone => .gone
 | .arx e ks xs => .arx e ks (xs.sub n es)
def SSt.sub (n : Nat) (es : List E) (s : SSt) : SSt := ⟨s.tmps.map (SV.sub n es), s.objs.map fun p => (p.1, p.2.sub n es)⟩
section
variable {Φ : Fns} {env : List D} {n : Nat} {es : List E}
def envOf (Φ : Fns) (env : List D) (n : Nat) (es : List E) : List D := env.take n ++ es.map (E.den Φ env)
theorem var_sub (hn : n ≤ env.length) (i : Nat) : ((E.var i).sub n es).den Φ env = (E.var i).den Φ (envOf Φ env n es) := by
 simp only [E.sub, E.den, envOf]
 have hl : (env.take n).length = n := by simp; omega
 cases h : Nat.blt i n with
 | true =>
   have hi : i < n := Nat.le_of_ble_eq_true h
   simp only [cond_true, E.den, List.getD_eq_getElem?_getD]
   rw [List.getElem?_append_left (by omega), List.getElem?_take_of_lt hi]
 | false =>
   have hi : n ≤ i := by
     rcases Nat.lt_or_ge i n with h' | h'
     · have : Nat.blt i n = true := Nat.ble_eq_true_of_le h'
       rw [this] at h; cases h
     · exact h'
   simp only [cond_false, List.getD_eq_getElem?_getD]
   rw [List.getElem?_append_right (by omega), hl, List.getElem?_map]
   cases es[i - n]? <;> rfl
mutual
theorem E.den_sub (hn : n ≤ env.length) : ∀ e : E, (e.sub n es).den Φ env = e.den Φ (envOf Φ env n es)
 | .var i => var_sub hn i
 | .int _ => rfl
 | .bool _ => rfl
 | .str _ => rfl
 | .nl => rfl
 | .op o fs => by simp only [E.sub, E.den, E.dens_sub hn fs]
theorem E.dens_sub (hn : n ≤ env.length) : ∀ fs : List E, E.dens Φ env (E.subs n es fs) = E.dens Φ (envOf Φ env n es) fs
 | [] => rfl
 | f :: fs => by simp only [E.subs, E.dens, E.den_sub hn f, E.dens_sub hn fs]
end
theorem SC.den_sub (hn : n ≤ env.length) (c : SC) : (c.sub n es).den Φ env = c.den Φ (envOf Φ env n es) := by
 cases c with
 | dat k e => simp only [SC.sub, SC.den, E.den_sub hn]
 | ref x p =>
   cases p with
   | none => rfl
   | some q => obtain ⟨a, b⟩ := q; simp only [SC.sub, SC.den, denP, Option.map_some, E.den_sub hn]
 | _ => rfl
theorem SC.dens_sub (hn : n ≤ env.length) (cs : List SC) : (cs.map (SC.sub n es)).map (SC.den Φ env) = cs.map (SC.den Φ (envOf Φ env n es)) := by
 simp [Function.comp_def, SC.den_sub hn]
mutual
theorem SV.den_sub (hn : n ≤ env.length) : ∀ v : SV, (v.sub n es).den Φ env = v.den Φ (envOf Φ env n es)
 | .one c => by simp only [SV.sub, SV.den, SC.den_sub hn]
 | .agg cs => by simp only [SV.sub, SV.den, SC.dens_sub hn]
 | .ptr x i j => by simp only [SV.sub, SV.den, E.den_sub hn]
 | .pim ks e off => by simp only [SV.sub, SV.den, E.den_sub hn]
 | .tup vs => by simp only [SV.sub, SV.den, SV.dens_sub hn vs]
 | .whn c v => by simp only [SV.sub, SV.den, E.den_sub hn, SV.den_sub hn v]
 | .lod x i j => by simp only [SV.sub, SV.den, E.den_sub hn]
 | .dead => rfl
theorem SV.dens_sub (hn : n ≤ env.length) : ∀ vs : List SV, SV.dens Φ env (SV.subs n es vs) = SV.dens Φ (envOf Φ env n es) vs
 | [] => rfl
 | v :: vs => by simp only [SV.subs, SV.dens, SV.den_sub hn v, SV.dens_sub hn vs]
end
theorem SOb.den_sub (hn : n ≤ env.length) (o : SOb) : (o.sub n es).den Φ env = o.den Φ (envOf Φ env n es) := by
 cases o with
 | box T cs => simp only [SOb.sub, SOb.den, SC.dens_sub hn]
 | arr e ks dp xs => simp only [SOb.sub, SOb.den, E.den_sub hn]
 | «sealed» e ks xs => simp only [SOb.sub, SOb.den, E.den_sub hn]
 | gone => rfl
 | arx e ks xs => simp only [SOb.sub, SOb.den, E.den_sub hn]
theorem SSt.den_sub (hn : n ≤ env.length) (s : SSt) : (s.sub n es).den Φ env = s.den Φ (envOf Φ env n es) := by
 simp only [SSt.den, SSt.sub, List.map_map, Function.comp_def, SV.den_sub hn, SOb.den_sub hn]
end
def eqP : Option (E × E) → Option (E × E) → Bool
 | none, none => true
 | some p, some q => E.eqb p.1 q.1 && E.eqb p.2 q.2
 | _, _ => false
def SC.eqb : SC → SC → Bool
 | .dat k e, .dat k' e' => K.eqb k k' && E.eqb e e'
 | .nil t ks, .nil t' ks' => t == t' && K.eqbs ks ks'
 | .ref z p, .ref z' p' => z == z' && eqP p p'
 | .dead, .dead => true
 | _, _ => false
def SC.eqbs : List SC → List SC → Bool
 | [], [] => true
 | c :: cs, d :: ds => c.eqb d && SC.eqbs cs ds
 | _, _ => false
def SC.le (a : SC) : SC → Bool
 | .dead => true
 | .dat k e => match a with
   | .nil t ks => K.eqb (.sl t ks) k && E.eqb .nl e
   | a => a.eqb (.dat k e)
 | b => a.eqb b
def SC.les : List SC → List SC → Bool
 | [], [] => true
 | c :: cs, d :: ds => c.le d && SC.les cs ds
 | _, _ => false
mutual
def SV.le : SV → SV → Bool
 | _, .dead => true
 | .one c, .one d => c.le d
 | .agg cs, .agg ds => SC.les cs ds
 | .ptr z i j, .ptr z' i' j' => z == z' && E.eqb i i' && j == j'
 | .pim ks e o, .pim ks' e' o' => K.eqbs ks ks' && E.eqb e e' && o == o'
 | .tup us, .tup vs => SV.lesV us vs
 | .whn c u, .whn c' v => E.eqb c c' && u.le v
 | .lod z i j, .lod z' i' j' => z == z' && E.eqb i i' && j == j'
 | _, _ => false
def SV.lesV : List SV → List SV → Bool
 | [], [] => true
 | u :: us, v :: vs => u.le v && SV.lesV us vs
 | _, _ => false
end
def SOb.eqb : SOb → SOb → Bool
 | .box T cs, .box T' cs' => T == T' && SC.eqbs cs cs'
 | .arr t ks dp e, .arr t' ks' dp' e' => t == t' && K.eqbs ks ks' && dp == dp' && E.eqb e e'
 | .sealed t ks e, .sealed t' ks' e' => t == t' && K.eqbs ks ks' && E.eqb e e'
 | .gone, .gone => true
 | .arx t ks e, .arx t' ks' e' => t == t' && K.eqbs ks ks' && E.eqb e e'
 | _, _ => false
def oeq : Option SOb → Option SOb → Bool
 | none, none => true
 | some a, some b => a.eqb b
 | _, _ => false
def lesT : List SV → List SV → Bool
 | [], [] => true
 | a :: as, b :: bs => a.le b && lesT as bs
 | _, _ => false
def SSt.le (s s' : SSt) : Bool := lesT s.tmps s'.tmps && (s.objs.all fun p => oeq (s.obj p.1) (s'.obj p.1)) && s'.objs.all fun p => oeq (s.obj p.1) (s'.obj p.1)
theorem eqP_eq {p q : Option (E × E)} (h : eqP p q = true) : p = q := by
 cases p with
 | none => cases q <;> simp_all [eqP]
 | some p =>
   cases q with
   | none => simp [eqP] at h
   | some q =>
     simp only [eqP, Bool.and_eq_true] at h
     obtain ⟨a, b⟩ := p
     obtain ⟨c, d⟩ := q
     rw [show a = c from E.eqb_eq h.1, show b = d from E.eqb_eq h.2]
theorem SC.eqb_eq {a b : SC} (h : a.eqb b = true) : a = b := by
 cases a <;> cases b <;> simp only [SC.eqb, Bool.false_eq_true, Bool.and_eq_true, beq_iff_eq] at h
 · rw [K.eqb_eq h.1, E.eqb_eq h.2]
 · rw [h.1, K.eqbs_eq h.2]
 · rw [h.1, eqP_eq h.2]
 · rfl
theorem SC.eqbs_eq : ∀ {a b : List SC}, SC.eqbs a b = true → a = b
 | [], b, h => by cases b <;> simp_all [SC.eqbs]
 | c :: cs, b, h => by
   cases b with
   | nil => simp [SC.eqbs] at h
   | cons d ds =>
     simp only [SC.eqbs, Bool.and_eq_true] at h
     rw [SC.eqb_eq h.1, SC.eqbs_eq h.2]
theorem SOb.eqb_eq {a b : SOb} (h : a.eqb b = true) : a = b := by
 cases a <;> cases b <;> simp only [SOb.eqb, Bool.false_eq_true, Bool.and_eq_true, beq_iff_eq] at h
 · rw [h.1, SC.eqbs_eq h.2]
 · rw [h.1.1.1, K.eqbs_eq h.1.1.2, h.1.2, E.eqb_eq h.2]
 · rw [h.1.1, K.eqbs_eq h.1.2, E.eqb_eq h.2]
 · rfl
 · rw [h.1.1, K.eqbs_eq h.1.2, E.eqb_eq h.2]
theorem oeq_eq {a b : Option SOb} (h : oeq a b = true) : a = b := by
 cases a <;> cases b <;> simp only [oeq, Bool.false_eq_true] at h
 · rfl
 · rw [SOb.eqb_eq h]
section
variable {Φ : Fns} {env : List D} {C : Cx} {g : Gh} {s s' : SSt} {a : Act} {w : World}
theorem Rel.retmps' {σ σ' : St} (R : Rel C g σ a w) (hob : ∀ x, σ'.obj x = σ.obj x) (hl : σ'.tmps.length = σ.tmps.length) (ht : ∀ t v, RepAV (sur C g σ w) (σ.tmp t) v → RepAV (sur C g σ w) (σ'.tmp t) v) : Rel C g σ' a w := by
 have hs := sur_eq (C := C) (g := g) (w := w) hob
 exact ⟨R.defers, R.size, by rw [hl]; exact R.len, fun t => by rw [hs]; exact ht t _ (R.tmps t), fun x => by rw [hs]; exact R.objs x, R.own, R.apart, R.alw, R.fr, by rw [hs]; exact R.pin⟩
theorem SC.le_rep {S : Sur} {c d : SC} (h : c.le d = true) {v : Value} (hv : RepAC S (c.den Φ env) v) : RepAC S (d.den Φ env) v := by
 cases d with
 | dead => trivial
 | dat k e =>
   cases c with
   | nil t ks =>
     simp only [SC.le, Bool.and_eq_true] at h
     have h1 := K.eqb_eq h.1
     have h2 := E.eqb_eq h.2
     subst h1
     subst h2
     exact hv.dn
   | _ => simp only [SC.le] at h; rw [← SC.eqb_eq h]; exact hv
 | _ => rw [← SC.eqb_eq h]; exact hv
theorem SC.les_rep {S : Sur} : ∀ {cs ds : List SC}, SC.les cs ds = true → ∀ {vs : List Value}, RepACs S (cs.map (SC.den Φ env)) vs → RepACs S (ds.map (SC.den Φ env)) vs
 | [], ds, h, vs, hv => by cases ds <;> simp_all [SC.les]
 | c :: cs, ds, h, vs, hv => by
   cases ds with
   | nil => simp [SC.les] at h
   | cons d ds =>
     simp only [SC.les, Bool.and_eq_true] at h
     obtain ⟨v, vs', e, o, h1, h2⟩ := hv
     exact ⟨v, vs', e, o, SC.le_rep h.1 h1, SC.les_rep h.2 h2⟩
mutual
theorem SV.le_rep {S : Sur} : ∀ {u u' : SV}, u.le u' = true → ∀ {v : Value}, RepAV S (u.den Φ env) v → RepAV S (u'.den Φ env) v
 | u, .dead, _, _, _ => trivial
 | .one c, .one d, h, v, hv => by simp only [SV.le] at h; exact ⟨SC.le_rep h hv.1, hv.2⟩
 | .agg cs, .agg ds, h, v, hv => by
   simp only [SV.le] at h
   obtain ⟨vs, e, hv⟩ := hv
   exact ⟨vs, e, SC.les_rep h hv⟩
 | .ptr z i j, .ptr z' i' j', h, v, hv => by
   simp only [SV.le, Bool.and_eq_true, beq_iff_eq] at h
   rw [← h.1.1, ← E.eqb_eq h.1.2, ← h.2]; exact hv
 | .pim ks e o, .pim ks' e' o', h, v, hv => by
   simp only [SV.le, Bool.and_eq_true, beq_iff_eq] at h
   rw [← K.eqbs_eq h.1.1, ← E.eqb_eq h.1.2, ← h.2]; exact hv
 | .tup us, .tup us', h, v, hv => by
   simp only [SV.le] at h
   obtain ⟨vs, e, hv⟩ := hv
   exact ⟨vs, e, SV.lesV_rep h hv⟩
 | .whn c u, .whn c' u', h, v, hv => by
   simp only [SV.le, Bool.and_eq_true] at h
   rw [← E.eqb_eq h.1]
   exact ⟨fun hc => SV.le_rep h.2 (hv.1 hc), hv.2⟩
 | .lod z i j, .lod z' i' j', h, v, hv => by
   simp only [SV.le, Bool.and_eq_true, beq_iff_eq] at h
   rw [← h.1.1, ← E.eqb_eq h.1.2, ← h.2]; exact hv
 | .one _, .agg _, h, _, _ | .one _, .ptr .., h, _, _ | .one _, .pim .., h, _, _ | .one _, .tup _, h, _, _ | .one _, .whn .., h, _, _ | .one _, .lod .., h, _, _ => by simp [SV.le] at h
 | .agg _, .one _, h, _, _ | .agg _, .ptr .., h, _, _ | .agg _, .pim .., h, _, _ | .agg _, .tup _, h, _, _ | .agg _, .whn .., h, _, _ | .agg _, .lod .., h, _, _ => by simp [SV.le] at h
 | .ptr .., .one _, h, _, _ | .ptr .., .agg _, h, _, _ | .ptr .., .pim .., h, _, _ | .ptr .., .tup _, h, _, _ | .ptr .., .whn .., h, _, _ | .ptr .., .lod .., h, _, _ => by simp [SV.le] at h
 | .pim .., .one _, h, _, _ | .pim .., .agg _, h, _, _ | .pim .., .ptr .., h, _, _ | .pim .., .tup _, h, _, _ | .pim .., .whn .., h, _, _ | .pim .., .lod .., h, _, _ => by simp [SV.le] at h
 | .tup _, .one _, h, _, _ | .tup _, .agg _, h, _, _ | .tup _, .ptr .., h, _, _ | .tup _, .pim .., h, _, _ | .tup _, .whn .., h, _, _ | .tup _, .lod .., h, _, _ => by simp [SV.le] at h
 | .whn .., .one _, h, _, _ | .whn .., .agg _, h, _, _ | .whn .., .ptr .., h, _, _ | .whn .., .pim .., h, _, _ | .whn .., .tup _, h, _, _ | .whn .., .lod .., h, _, _ => by simp [SV.le] at h
 | .lod .., .one _, h, _, _ | .lod .., .agg _, h, _, _ | .lod .., .ptr .., h, _, _ | .lod .., .pim .., h, _, _ | .lod .., .tup _, h, _, _ | .lod .., .whn .., h, _, _ => by simp [SV.le] at h
 | .dead, .one _, h, _, _ | .dead, .agg _, h, _, _ | .dead, .ptr .., h, _, _ | .dead, .pim .., h, _, _ | .dead, .tup _, h, _, _ | .dead, .whn .., h, _, _ | .dead, .lod .., h, _, _ => by simp [SV.le] at h
theorem SV.lesV_rep {S : Sur} : ∀ {us us' : List SV}, SV.lesV us us' = true → ∀ {vs : List Value}, RepAVs S (SV.dens Φ env us) vs → RepAVs S (SV.dens Φ env us') vs
 | [], [], _, _, hv => hv
 | u :: us, u' :: us', h, vs, hv => by
   simp only [SV.lesV, Bool.and_eq_true] at h
   obtain ⟨v, vs', e, h1, h2⟩ := hv
   exact ⟨v, vs', e, SV.le_rep h.1 h1, SV.lesV_rep h.2 h2⟩
 | [], _ :: _, h, _, _ => by simp [SV.lesV] at h
 | _ :: _, [], h, _, _ => by simp [SV.lesV] at h
end
theorem lesT_get : ∀ {as bs : List SV}, lesT as bs = true → as.length = bs.length ∧ ∀ t : Nat, (as.getD t .dead).le (bs.getD t .dead) = true
 | [], [], _ => ⟨rfl, fun t => by simp [SV.le]⟩
 | [], _ :: _, h => by simp [lesT] at h
 | _ :: _, [], h => by simp [lesT] at h
 | a :: as, b :: bs, h => by
   simp only [lesT, Bool.and_eq_true] at h
   have ih := lesT_get h.2
   refine ⟨by simp [ih.1], fun t => ?_⟩
   cases t with
   | zero => exact h.1
   | succ t => simpa using ih.2 t
theorem slook_notin {x : Nat} : ∀ {l : List (Nat × SOb)}, (∀ p ∈ l, p.1 ≠ x) → slook x l = none
 | [], _ => rfl
 | (y, o) :: l, h => by
   have h1 : (x == y) = false := by
     have := h (y, o) (by simp)
     simp only [beq_eq_false_iff_ne, ne_eq]
     exact fun e => this e.symm
   simp only [slook, h1, cond_false]
   exact slook_notin fun p hp => h p (by simp [hp])
theorem Rel.le (R : Rel C g (s.den Φ env) a w) (h : s.le s' = true) : Rel C g (s'.den Φ env) a w := by
 simp only [SSt.le, Bool.and_eq_true, List.all_eq_true] at h
 obtain ⟨⟨h1, h2⟩, h3⟩ := h
 have hob : ∀ x, s.obj x = s'.obj x := fun x => by
   by_cases e1 : ∃ p, p ∈ s.objs ∧ p.1 = x
   · obtain ⟨p, hp, rfl⟩ := e1; exact oeq_eq (h2 p hp)
   · by_cases e2 : ∃ p, p ∈ s'.objs ∧ p.1 = x
     · obtain ⟨p, hp, rfl⟩ := e2; exact oeq_eq (h3 p hp)
     · rw [SSt.obj, SSt.obj, slook_notin fun p hp he => e1 ⟨p, hp, he⟩, slook_notin fun p hp he => e2 ⟨p, hp, he⟩]
 obtain ⟨hl, ht⟩ := lesT_get h1
 refine R.retmps' (fun x => by rw [SSt.den_obj, SSt.den_obj, hob]) (by simp [SSt.den, hl]) fun t v hv => ?_
 rw [SSt.den_tmp] at hv ⊢
 exact SV.le_rep (ht t) hv
def nilOne (s : SSt) (t key : Nat) : SSt := match s.tmp t, s.obj key with
 | .one (.nil e ks), none => (s.setO key (.arr e ks true .nl)).setT t (.one (.ref key none))
 | _, _ => s
theorem Rel.nilArr' {σ : St} (R : Rel C g σ a w) {x : Nat} (hx : σ.obj x = none) (e : TypeId) (ks : List K) (dp : Bool) : Rel C (g.upd x (.slice none 0 0) []) (σ.setO x (.arr e ks dp [])) a w := by
 refine R.grow (Below.refl _ _) hx (fun b hb => by simp [blkOf] at hb) (by simp) (fun b hb => by simp at hb) ?_
 unfold RepOb
 simp only [sur, St.obj_setO, if_pos, Gh.upd, upd_eq]
 exact ⟨[], [], World.ownsRow_nil _ _ _ _, by simp [lenMax], rfl, rfl, rfl, fun i row vs f h => by simp at h⟩
theorem Rel.nilOne (R : Rel C g (s.den Φ env) a w) (t key : Nat) : ∃ g', Rel C g' ((nilOne s t key).den Φ env) a w := by
 unfold Vx.nilOne
 split
 · rename_i e ks ht hk
   have R1 := R.nilArr' (x := key) (by rw [SSt.den_obj, hk]; rfl) e ks true
   have e1 : (s.den Φ env).setO key (.arr e ks true []) = (s.setO key (.arr e ks true .nl)).den Φ env := by rw [SSt.den_setO]; rfl
   rw [e1] at R1
   have htl : t < (s.setO key (.arr e ks true .nl)).tmps.length := by
     rcases Nat.lt_or_ge t s.tmps.length with h | h
     · exact h
     · simp [SSt.tmp, List.getD_eq_getElem?_getD, List.getElem?_eq_none h] at ht
   refine ⟨_, R1.retmps' (fun x => ?_) (by simp [SSt.den, SSt.setT]) fun u v hv => ?_⟩
   · rw [SSt.den_setT]; rfl
   · rw [SSt.den_tmp] at hv ⊢
     rw [tmp_setT htl]
     by_cases hu : u = t
     · subst hu
       rw [if_pos rfl]
       have hv : RepAV _ ((s.tmp u).den Φ env) v := hv
       rw [ht] at hv
       refine ⟨?_, hv.2⟩
       have hv1 : v = .slice none 0 0 := hv.1
       show RefRep _ key none v
       unfold RefRep
       rw [← e1]
       simp only [sur, St.obj_setO, if_true, Gh.upd, upd_eq]
       exact ⟨trivial, hv1⟩
     · rw [if_neg hu]; exact hv
 · exact ⟨g, R⟩
def nilAll (s : SSt) : List (Nat × Nat) → SSt
 | [] => s
 | (t, key) :: l => nilAll (nilOne s t key) l
theorem Rel.nilAll : ∀ (l : List (Nat × Nat)) {g : Gh} {s : SSt}, Rel C g (s.den Φ env) a w → ∃ g', Rel C g' ((nilAll s l).den Φ env) a w
 | [], g, s, R => ⟨g, R⟩
 | (t, key) :: l, g, s, R => by
   obtain ⟨g1, R1⟩ := R.nilOne t key
   exact Rel.nilAll l R1
theorem Rel.rebox {σ : St} (R : Rel C g σ a w) {z : Nat} {T : TypeId} {cs cs' : List AC} (hz : σ.obj z = some (.box T cs)) (h : ∀ vs, RepACs (sur C g σ w) cs vs → RepACs (sur C g σ w) cs' vs) : Rel C g (σ.setO z (.box T cs')) a w := by
 have hlive : ∀ x, Ob.live ((σ.setO z (.box T cs')).obj x) = Ob.live (σ.obj x) := fun x => by
   rw [St.obj_setO]
   split
   · rename_i e; subst e; rw [hz]; rfl
   · rfl
 have hisX : ∀ x, Ob.isX ((σ.setO z (.box T cs')).obj x) = Ob.isX (σ.obj x) := fun x => by
   rw [St.obj_setO]
   split
   · rename_i e; subst e; rw [hz]; rfl
   · rfl
 have hme : ∀ b o, Me C.M (σ.setO z (.box T cs')).obj g.hd g.fp b o → Me C.M σ.obj g.hd g.fp b o := fun b o hm => by
   rcases hm with hm | ⟨x, hl, hb⟩ | ⟨x, hl, hb⟩
   · exact .inl hm
   · exact .inr (.inl ⟨x, by rw [← hlive x]; exact hl, hb⟩)
   · exact .inr (.inr ⟨x, by rw [← hisX x]; exact hl, hb⟩)
 have hk : Keeps w (Me C.M σ.obj g.hd g.fp) w (Me C.M (σ.setO z (.box T cs')).obj g.hd g.fp) := fun b o v hc hn => ⟨hc, fun hm => hn (hme b o hm)⟩
 have hs : Shift (sur C g σ w) (sur C g (σ.setO z (.box T cs')) w) := by
   refine ⟨hk, fun x p v hr => ?_, fun x i j v hp => ?_, lod_setO rfl (fun z _ => rfl) fun _ _ _ _ _ _ h _ => h, obx_setO rfl fun z _ => rfl⟩
   · unfold RefRep at hr ⊢
     simp only [sur, St.obj_setO] at hr ⊢
     by_cases hx : x = z
     · subst hx
       rw [hz] at hr
       exact hr.elim
     · rw [if_neg hx]
       cases he : σ.obj x with
       | none => rw [he] at hr; exact hr
       | some q =>
         rw [he] at hr
         cases q with
         | «sealed» e ks xs => exact ⟨hr.1, hr.2.keeps hk⟩
         | _ => exact hr
   · unfold PtrRep at hp ⊢
     simp only [sur, St.obj_setO] at hp ⊢
     by_cases hx : x = z
     · subst hx
       rw [if_pos rfl]
       rw [hz] at hp
       exact hp
     · rw [if_neg hx]; exact hp
 refine R.move rfl hs (fun x => ?_) R.own R.apart R.alw R.fr
 by_cases hx : x = z
 · subst hx
   have ho := R.objs x
   unfold RepOb at ho ⊢
   simp only [sur, hz] at ho
   simp only [sur, St.obj_setO, if_true]
   obtain ⟨b, vs, h1, h2, h3, h4⟩ := ho
   exact ⟨b, vs, h1, h2, h3, RepACs.shift hs (h vs h4)⟩
 · refine (R.objs x).shift hs ?_ rfl rfl fun b _ => rfl
   simp [sur, St.obj_setO, hx]
theorem RepACs.setNil {S : Sur} {e : TypeId} {ks : List K} {key : Nat} (hr : ∀ v, v = .slice none 0 0 → RefRep S key none v) : ∀ {cs : List AC} {vs : List Value} {j : Nat}, cs[j]? = some (.nil e ks) → RepACs S cs vs → RepACs S (cs.set j (.ref key none)) vs
 | [], _, _, h, _ => by simp at h
 | c :: cs, _, 0, h, ⟨v, vs', e1, o, r, r'⟩ => by
   simp only [List.getElem?_cons_zero, Option.some.injEq] at h
   subst h
   exact ⟨v, vs', e1, o, hr v r, r'⟩
 | c :: cs, _, j + 1, h, ⟨v, vs', e1, o, r, r'⟩ => ⟨v, vs', e1, o, r, RepACs.setNil hr (by simpa using h) r'⟩
def nilBOne (s : SSt) (z j key : Nat) : SSt := match s.obj z, s.obj key with
 | some (.box T cs), none => match cs[j]? with
   | some (.nil e ks) => (s.setO key (.arr e ks true .nl)).setO z (.box T (cs.set j (.ref key none)))
   | _ => s
 | _, _ => s
theorem Rel.nilBOne (R : Rel C g (s.den Φ env) a w) (z j key : Nat) : ∃ g', Rel C g' ((nilBOne s z j key).den Φ env) a w := by
 unfold Vx.nilBOne
 split
 · rename_i T cs hz hk
   split
   · rename_i e ks hj
     have R1 := R.nilArr' (x := key) (by rw [SSt.den_obj, hk]; rfl) e ks true
     have e1 : (s.den Φ env).setO key (.arr e ks true []) = (s.setO key (.arr e ks true .nl)).den Φ env := by rw [SSt.den_setO]; rfl
     rw [e1] at R1
     have hne : z ≠ key := fun h => by rw [h, hk] at hz; cases hz
     have hz1 : ((s.setO key (.arr e ks true .nl)).den Φ env).obj z = some (.box T (cs.map (SC.den Φ env))) := by
       rw [← e1, St.obj_setO, if_neg hne]
       exact obj_is (Φ := Φ) (env := env) hz
     have R2 := R1.rebox hz1 (cs' := (cs.set j (.ref key none)).map (SC.den Φ env)) fun vs h => by
       rw [List.map_set]
       refine RepACs.setNil (e := e) (ks := ks) (fun v hv => ?_) (by rw [List.getElem?_map, hj]; rfl) h
       unfold RefRep
       rw [← e1]
       simp only [sur, St.obj_setO, if_true, Gh.upd, upd_eq]
       exact ⟨trivial, hv⟩
     exact ⟨_, by rw [SSt.den_setO]; exact R2⟩
   · exact ⟨g, R⟩
 · exact ⟨g, R⟩
def nilBAll (s : SSt) : List (Nat × Nat × Nat) → SSt
 | [] => s
 | (z, j, key) :: l => nilBAll (nilBOne s z j key) l
theorem Rel.nilBAll : ∀ (l : List (Nat × Nat × Nat)) {g : Gh} {s : SSt}, Rel C g (s.den Φ env) a w → ∃ g', Rel C g' ((nilBAll s l).den Φ env) a w
 | [], g, s, R => ⟨g, R⟩
 | (z, j, key) :: l, g, s, R => by
   obtain ⟨g1, R1⟩ := R.nilBOne z j key
   exact Rel.nilBAll l R1
theorem Rel.undeep {σ : St} (R : Rel C g σ a w) {y : Nat} {e : TypeId} {ks : List K} {xs : List (List D)} (hy : σ.obj y = some (.arr e ks true xs)) :
   Rel C (g.upd y (g.hd y) (g.hd y).ownBlock.toList) (σ.setO y (.arr e ks false xs)) a w := by
 have hhd : ∀ z, (g.upd y (g.hd y) (g.hd y).ownBlock.toList).hd z = g.hd z := fun z => by
   by_cases h : z = y
   · subst h; simp [Gh.upd, upd_eq]
   · simp [Gh.upd, upd_ne _ _ h]
 have hfp : ∀ z b, b ∈ (g.upd y (g.hd y) (g.hd y).ownBlock.toList).fp z → b ∈ g.fp z := fun z b hb => by
   by_cases h : z = y
   · subst h
     obtain ⟨_, _, _, _, _, _, h5, _⟩ := R.arrAll hy
     simp only [Gh.upd, upd_eq] at hb
     rw [h5]; simp only [List.mem_append]; exact .inl hb
   · simpa [Gh.upd, upd_ne _ _ h] using hb
 have hlive : ∀ z, Ob.live ((σ.setO y (.arr e ks false xs)).obj z) = Ob.live (σ.obj z) := fun z => by
   rw [St.obj_setO]
   split
   · rename_i h; subst h; rw [hy]; rfl
   · rfl
 have hme : ∀ b o, Me C.M (σ.setO y (.arr e ks false xs)).obj (g.upd y (g.hd y) (g.hd y).ownBlock.toList).hd (g.upd y (g.hd y) (g.hd y).ownBlock.toList).fp b o → Me C.M σ.obj g.hd g.fp b o := fun b o hm => by
   rcases hm with hm | ⟨z, hl, hb⟩ | ⟨z, hl, hb⟩
   · exact .inl hm
   · exact .inr (.inl ⟨z, by rw [← hlive z]; exact hl, by rw [← hhd z]; exact hb⟩)
   · exact .inr (.inr ⟨z, by
       rw [St.obj_setO] at hl
       split at hl
       · simp [Ob.isX] at hl
       · exact hl, hfp z b hb⟩)
 have hk : Keeps w (Me C.M σ.obj g.hd g.fp) w (Me C.M (σ.setO y (.arr e ks false xs)).obj (g.upd y (g.hd y) (g.hd y).ownBlock.toList).hd (g.upd y (g.hd y) (g.hd y).ownBlock.toList).fp) := fun b o v hc hn => ⟨hc, fun hm => hn (hme b o hm)⟩
 have hs : Shift (sur C g σ w) (sur C (g.upd y (g.hd y) (g.hd y).ownBlock.toList) (σ.setO y (.arr e ks false xs)) w) := by
   refine ⟨hk, fun x p v hr => ?_, fun x i j v hp => ?_, lod_setO rfl (fun z _ => hhd z) fun _ _ _ _ _ _ h _ => h, obx_setO rfl fun z _ => hhd z⟩
   · unfold RefRep at hr ⊢
     simp only [sur, hhd, St.obj_setO] at hr ⊢
     by_cases hx : x = y
     · subst hx
       rw [if_pos rfl]
       rw [hy] at hr
       exact hr
     · rw [if_neg hx]
       cases he : σ.obj x with
       | none => rw [he] at hr; exact hr
       | some q =>
         rw [he] at hr
         cases q with
         | «sealed» e ks xs => exact ⟨hr.1, hr.2.keeps hk⟩
         | _ => exact hr
   · unfold PtrRep at hp ⊢
     simp only [sur, hhd, St.obj_setO] at hp ⊢
     by_cases hx : x = y
     · subst hx
       rw [if_pos rfl]
       rw [hy] at hp
       exact hp
     · rw [if_neg hx]; exact hp
 refine R.move rfl hs (fun z => ?_) (fun z => ?_) (fun z z' hne b hb hb' => R.apart z z' hne b (hfp z b hb) (hfp z' b hb')) (fun z b hb => R.alw z b (hfp z b hb)) R.fr
 · by_cases hz : z = y
   · subst hz
     obtain ⟨vss, fps, h1, h2, h3, h4, h5, hlen, h6⟩ := R.arrAll hy
     unfold RepOb
     simp only [sur, St.obj_setO, if_true, hhd]
     refine ⟨vss, List.replicate xs.length [], h1, h2, h3, by simp, by simp [Gh.upd, upd_eq], fun i row vs f e1 e2 e3 => ?_⟩
     have hi := (List.getElem?_eq_some_iff.1 e2).1
     have hf : fps[i]? = some fps[i] := List.getElem?_eq_getElem (by omega)
     simp only [Bool.false_eq_true, if_false]
     exact ⟨(h6 i row vs _ e1 e2 hf).1.keeps hk, (List.mem_replicate.1 (List.mem_of_getElem? e3)).2⟩
   · refine (R.objs z).shift hs ?_ (hhd z) ?_ fun b _ => rfl
     · simp [sur, St.obj_setO, hz]
     · simp [Gh.upd, upd_ne _ _ hz]
 · by_cases hz : z = y
   · subst hz
     obtain ⟨_, _, _, _, _, _, h5, _⟩ := R.arrAll hy
     have := R.own z
     rw [h5] at this
     simpa [Gh.upd, upd_eq] using (List.nodup_append.1 this).1
   · simpa [Gh.upd, upd_ne _ _ hz] using R.own z
def undeepOne (s : SSt) (y : Nat) : SSt := match s.obj y with
 | some (.arr e ks true xs) => s.setO y (.arr e ks false xs)
 | _ => s
theorem Rel.undeepOne (R : Rel C g (s.den Φ env) a w) (y : Nat) : ∃ g', Rel C g' ((undeepOne s y).den Φ env) a w := by
 unfold Vx.undeepOne
 split
 · rename_i e ks xs hy
   have := R.undeep (obj_is (Φ := Φ) (env := env) hy)
   have e1 : (s.setO y (.arr e ks false xs)).den Φ env = (s.den Φ env).setO y (.arr e ks false (xs.den Φ env).asList) := by rw [SSt.den_setO]; rfl
   exact ⟨g.upd y (g.hd y) (g.hd y).ownBlock.toList, by rw [e1]; exact this⟩
 · exact ⟨g, R⟩
def undeepAll (s : SSt) : List Nat → SSt
 | [] => s
 | y :: l => undeepAll (undeepOne s y) l
theorem Rel.undeepAll : ∀ (l : List Nat) {g : Gh} {s : SSt}, Rel C g (s.den Φ env) a w → ∃ g', Rel C g' ((undeepAll s l).den Φ env) a w
 | [], g, s, R => ⟨g, R⟩
 | y :: l, g, s, R => by
   obtain ⟨g1, R1⟩ := R.undeepOne y
   exact Rel.undeepAll l R1
def klook (x : Nat) : List (Nat × Nat) → Option Nat
 | [] => none
 | (y, z) :: l => bif x == y then some z else klook x l
def rlook (x : Nat) : List (Nat × Nat) → Option Nat
 | [] => none
 | (y, z) :: l => bif x == z then some y else rlook x l
def renObjs (s : SSt) (m : Nat → Option Nat) : List (Nat × Nat) → Option (List (Nat × SOb))
 | [] => some []
 | (x, y) :: l => match s.obj x, renObjs s m l with
   | some o, some r => some ((y, o.mapK m) :: r)
   | _, _ => none
def isN (x : Option Nat) (n : Nat) : Bool := match x with
 | some m => m == n
 | none => false
def SSt.ren (ps : List (Nat × Nat)) (s : SSt) : Option SSt :=
 bif (ps.all fun p => isN (klook p.1 ps) p.2 && isN (rlook p.2 ps) p.1) && s.objs.all fun p => Nat.blt p.1 1000000000 || isN (rlook p.1 ps) p.1 then match renObjs s (fun x => klook x ps) ps with
   | some r => some ⟨s.tmps.map (SV.mapK fun x => klook x ps), r⟩
   | none => none
 else none
theorem klook_mem {x y : Nat} : ∀ {l : List (Nat × Nat)}, klook x l = some y → (x, y) ∈ l
 | [], h => by simp [klook] at h
 | (u, v) :: l, h => by
   simp only [klook] at h
   cases hx : x == u with
   | true =>
     rw [hx] at h
     simp only [cond_true, Option.some.injEq] at h
     have : x = u := by simpa using hx
     subst this; subst h; simp
   | false => rw [hx] at h; exact List.mem_cons_of_mem _ (klook_mem h)
theorem rlook_mem {x y : Nat} : ∀ {l : List (Nat × Nat)}, rlook y l = some x → (x, y) ∈ l
 | [], h => by simp [rlook] at h
 | (u, v) :: l, h => by
   simp only [rlook] at h
   cases hx : y == v with
   | true =>
     rw [hx] at h
     simp only [cond_true, Option.some.injEq] at h
     have : y = v := by simpa using hx
     subst this; subst h; simp
   | false => rw [hx] at h; exact List.mem_cons_of_mem _ (rlook_mem h)
theorem isN_eq {x : Option Nat} {n : Nat} (h : isN x n = true) : x = some n := by
 cases x <;> simp_all [isN]
theorem renObjs_look {m : Nat → Option Nat} : ∀ {l : List (Nat × Nat)} {r : List (Nat × SOb)}, renObjs s m l = some r → ∀ y, slook y r = match rlook y l with | some x => (s.obj x).map (SOb.mapK m) | none => none
 | [], r, h, y => by simp only [renObjs, Option.some.injEq] at h; subst h; rfl
 | (x, z) :: l, r, h, y => by
   simp only [renObjs] at h
   split at h
   · rename_i o r' h1 h2
     simp only [Option.some.injEq] at h
     subst h
     simp only [slook, rlook]
     cases hy : y == z with
     | true => simp only [cond_true, h1, Option.map_some]
     | false => simp only [cond_false]; exact renObjs_look h2 y
   · cases h
theorem Rel.reN (R : Rel C g (s.den Φ env) a w) {ps : List (Nat × Nat)} (h : s.ren ps = some s') : ∃ g', Rel C g' (s'.den Φ env) a w := by
 unfold SSt.ren at h
 obtain ⟨h1, h2⟩ := bif_some h
 clear h
 simp only [List.all_eq_true, Bool.and_eq_true, Bool.or_eq_true] at h1
 obtain ⟨h1, hbig⟩ := h1
 split at h2
 · rename_i r hr
   simp only [Option.some.injEq] at h2
   subst h2
   refine ⟨_, R.ren (m := fun x => klook x ps) (n := fun y => rlook y ps) ⟨fun x y e => ?_, fun x y e => ?_, fun y => ?_⟩ (fun p hp => ?_) (fun p hp => ?_) ?_⟩
   · exact isN_eq (h1 _ (klook_mem e)).2
   · exact isN_eq (h1 _ (rlook_mem e)).1
   · rw [SSt.den_obj, SSt.obj, renObjs_look hr]
     cases rlook y ps with
     | none => rfl
     | some x =>
       simp only [SSt.den_obj]
       cases s.obj x with
       | none => rfl
       | some o => simp [SOb.den_mapK]
   · obtain ⟨o, ho, _⟩ := R.pin.1 p hp
     simp only [sur, SSt.den_obj] at ho
     have hm : ∃ q ∈ s.objs, q.1 = p.1 := by
       by_cases hq : ∃ q ∈ s.objs, q.1 = p.1
       · exact hq
       · rw [SSt.obj, slook_notin fun q hm he => hq ⟨q, hm, he⟩] at ho
         cases ho
     obtain ⟨q, hm, he⟩ := hm
     have hb := hbig q hm
     have := C.pinBig p hp
     rw [he] at hb
     rcases hb with hb | hb
     · have := Nat.le_of_ble_eq_true hb; omega
     · exact isN_eq hb
   · obtain ⟨o, ho⟩ : ∃ o, (sur C g (s.den Φ env) w).obj p.1 = some o := by
       have := R.pin.2 p hp
       unfold PtrRep at this
       cases hq : (sur C g (s.den Φ env) w).obj p.1 with
       | none => rw [hq] at this; exact this.elim
       | some o => exact ⟨o, rfl⟩
     simp only [sur, SSt.den_obj] at ho
     have hm : ∃ q ∈ s.objs, q.1 = p.1 := by
       by_cases hq : ∃ q ∈ s.objs, q.1 = p.1
       · exact hq
       · rw [SSt.obj, slook_notin fun q hm he => hq ⟨q, hm, he⟩] at ho
         cases ho
     obtain ⟨q, hm, he⟩ := hm
     have hb := hbig q hm
     have := C.pinBBig p hp
     rw [he] at hb
     rcases hb with hb | hb
     · have := Nat.le_of_ble_eq_true hb; omega
     · exact isN_eq hb
   · simp [SSt.den, Function.comp_def, SV.den_mapK]
 · cases h2
def nilsOf : Nat → List SV → List SV → List (Nat × Nat)
 | t, .one (.ref _ none) :: ps, .one (.nil _ _) :: vs => (t, 64000000 + t) :: nilsOf (t + 1) ps vs
 | t, _ :: ps, _ :: vs => nilsOf (t + 1) ps vs
 | _, _, _ => []
def pairC : SC → SC → List (Nat × Nat)
 | .ref k _, .ref k' _ => [(k', k)]
 | _, _ => []
def pairCs : List SC → List SC → List (Nat × Nat)
 | c :: cs, d :: ds => pairC c d ++ pairCs cs ds
 | _, _ => []
def pairV : SV → SV → List (Nat × Nat)
 | .one c, .one d => pairC c d
 | .agg cs, .agg ds => pairCs cs ds
 | .ptr k _ _, .ptr k' _ _ => [(k', k)]
 | .lod k _ _, .lod k' _ _ => [(k', k)]
 | _, _ => []
def pairVs : List SV → List SV → List (Nat × Nat)
 | v :: vs, u :: us => pairV v u ++ pairVs vs us
 | _, _ => []
def dedup : List (Nat × Nat) → List (Nat × Nat)
 | [] => []
 | p :: l => bif l.any fun q => q.1 == p.1 && q.2 == p.2 then dedup l else p :: dedup l
def pairB (H s : SSt) (l : List (Nat × Nat)) : List (Nat × Nat) := l.flatMap fun p => match H.obj p.2, s.obj p.1 with
 | some (.box _ cs), some (.box _ ds) => pairCs cs ds
 | _, _ => []
def pairsOf (H s : SSt) : List (Nat × Nat) :=
 let l := (s.objs.filterMap fun p => bif Nat.blt p.1 1000000000 then none else some (p.1, p.1)) ++ pairVs H.tmps s.tmps
 let l2 := dedup (l ++ pairB H s l)
 dedup (l2 ++ pairB H s l2)
def grabC (v : Nat) : SC → SC → Option E
 | .dat _ (.var i), .dat _ e => bif i == v then some e else none
 | .dat _ (.var i), .nil _ _ => bif i == v then some .nl else none
 | _, _ => none
def orE : Option E → Option E → Option E
 | some e, _ => some e
 | none, x => x
def grabCs (v : Nat) : List SC → List SC → Option E
 | c :: cs, d :: ds => orE (grabC v c d) (grabCs v cs ds)
 | _, _ => none
def grabV (v : Nat) : SV → SV → Option E
 | .one c, .one d => grabC v c d
 | .agg cs, .agg ds => grabCs v cs ds
 | _, _ => none
def grabVs (v : Nat) : List SV → List SV → Option E
 | c :: cs, d :: ds => orE (grabV v c d) (grabVs v cs ds)
 | _, _ => none
def grabO (v : Nat) : SOb → Option SOb → Option E
 | .arr _ _ _ (.var i), some (.arr _ _ _ e) => bif i == v then some e else none
 | .sealed _ _ (.var i), some (.sealed _ _ e) => bif i == v then some e else none
 | .arx _ _ (.var i), some (.arx _ _ e) => bif i == v then some e else none
 | .box _ cs, some (.box _ ds) => grabCs v cs ds
 | _, _ => none
def grabOs (v : Nat) (s : SSt) : List (Nat × SOb) → Option E
 | [] => none
 | (k, o) :: l => orE (grabO v o (s.obj k)) (grabOs v s l)
def grab (v : Nat) (H s : SSt) : E := (orE (grabVs v H.tmps s.tmps) (grabOs v s H.objs)).getD (.int 0)
def flatOf (H s : SSt) (l : List (Nat × Nat)) : List Nat := l.flatMap fun p => match H.obj p.2, s.obj p.1 with
 | some (.arr _ _ false _), some (.arr _ _ true _) => [p.1]
 | _, _ => []
def nilsBC (z : Nat) : Nat → List SC → List SC → List (Nat × Nat × Nat)
 | j, .ref key none :: ps, .nil _ _ :: cs => (z, j, key) :: nilsBC z (j + 1) ps cs
 | j, _ :: ps, _ :: cs => nilsBC z (j + 1) ps cs
 | _, _, _ => []
def nilsB (H s : SSt) : List (Nat × Nat × Nat) := H.objs.flatMap fun p => match p.2, s.obj p.1 with
 | .box _ cs, some (.box _ ds) => nilsBC p.1 0 cs ds
 | _, _ => []
def fit (n m : Nat) (H s : SSt) : Option (List E) :=
 let s1 := nilBAll (nilAll s (nilsOf 0 H.tmps s.tmps)) (nilsB H s)
 let ps := pairsOf H s1
 match (undeepAll s1 (flatOf H s1 ps)).ren ps with
 | some s2 =>
   let es := (List.range m).map fun i => grab (n + i) H s2
   bif s2.le (H.sub n es) then some es else none
 | none => none
theorem fit_sound (R : Rel C g (s.den Φ env) a w) {n m : Nat} {H : SSt} {es : List E} (hn : n ≤ env.length) (h : fit n m H s = some es) :
   es.length = m ∧ ∃ g', Rel C g' (H.den Φ (envOf Φ env n es)) a w := by
 unfold fit at h
 simp only at h
 split at h
 · rename_i s2 h2
   obtain ⟨h3, h4⟩ := bif_some h
   clear h
   simp only [Option.some.injEq] at h4
   subst h4
   obtain ⟨g0, R0⟩ := R.nilAll (nilsOf 0 H.tmps s.tmps)
   obtain ⟨g1, R1⟩ := R0.nilBAll (nilsB H s)
   obtain ⟨g3, R3⟩ := R1.undeepAll (flatOf H (nilBAll (nilAll s (nilsOf 0 H.tmps s.tmps)) (nilsB H s)) (pairsOf H (nilBAll (nilAll s (nilsOf 0 H.tmps s.tmps)) (nilsB H s))))
   obtain ⟨g2, R2⟩ := R3.reN h2
   refine ⟨by simp, g2, ?_⟩
   have := R2.le h3
   rwa [SSt.den_sub hn] at this
 · cases h
end
end Go.Vx
namespace Go.Vx
open Go.RowKit (Below)
def resS (tmps : Array Value) : ResultVar → Sem Value
 | .tmp t => pure (tmps.getD t undef)
 | .cell x t => do loadVar t (← asAddr (tmps.getD x undef))
theorem results_eq (fn : Func) (tmps : Array Value) : results fn tmps = (do
 let vs ← fn.results.mapM (resS tmps)
 pure (if h : vs.size = 1 then vs[0] else .tuple vs)) := rfl
def resV (T : TypeId → TI) (s : SSt) : ResultVar → Option SV
 | .tmp t => some (s.tmp t)
 | .cell x t => bif (T t).ok then match s.tmp x with
   | .ptr y _ j => match s.obj y with
     | some (.box _ cs) => bif Nat.ble (j + (T t).ks.length) cs.length then some (smkA (T t).agg ((cs.drop j).take (T t).ks.length)) else none
     | _ => none
   | _ => none
   else none
def resVs (T : TypeId → TI) (s : SSt) : List ResultVar → Option (List SV)
 | [] => some []
 | r :: rs => match resV T s r, resVs T s rs with
   | some v, some vs => some (v :: vs)
   | _, _ => none
def finC (s : SSt) : RC → SC → Option (E × List Nat × List Nat)
 | .im k, .dat k' e => bif K.eqb k' k then some (e, [], []) else none
 | .im k, .nil t ks => bif K.eqb (.sl t ks) k then some (.nl, [], []) else none
 | .im k, .ref z p => match s.obj z with
   | some (.arr t ks _ xs) => bif K.eqb (.sl t ks) k then some (scut xs p, [], [z]) else none
   | some (.sealed t ks xs) => bif K.eqb (.sl t ks) k then some (scut xs p, [], []) else none
   | _ => none
 | .own t ks _, .nil t' ks' => bif t == t' && K.eqbs ks ks' then some (.nl, [], []) else none
 | .own t ks dp, .ref z none => match s.obj z with
   | some (.arr t' ks' dp' xs) => bif (t == t' && K.eqbs ks ks') && (dp' || (!dp || plainK ks)) then some (xs, [z], []) else none
   | _ => none
 | _, _ => none
def finCs (s : SSt) : List RC → List SC → Option (List E × List Nat × List Nat)
 | [], [] => some ([], [], [])
 | r :: rs, c :: cs => match finC s r c, finCs s rs cs with
   | some (e, o, q), some (es, os, qs) => some (e :: es, o ++ os, q ++ qs)
   | _, _ => none
 | _, _ => none
def finV : List RSh → List SV → Option (List SC)
 | [], [] => some []
 | .one _ :: rs, .one c :: vs => (finV rs vs).map (c :: ·)
 | .agg ks :: rs, .agg cs :: vs => bif ks.length == cs.length then (finV rs vs).map (cs ++ ·) else none
 | _, _ => none
def fin (T : TypeId → TI) (rv : List ResultVar) (rets : List RSh) (s : SSt) : Option (List E) :=
 match resVs T s rv with
 | some vs => match finV rets vs with
   | some cs => match finCs s (rets.flatMap RSh.cells) cs with
     | some (es, os, qs) => bif nodupB (os ++ qs) then some es else none
     | none => none
   | none => none
 | none => none
section
variable {Φ : Fns} {env : List D} {C : Cx} {g : Gh} {s : SSt} {a : Act} {w : World}
theorem resV_run (R : Rel C g (s.den Φ env) a w) {r : ResultVar} {u : SV} (h : resV C.T s r = some u) : ∃ v, (resS a.tmps r).run C.P w = .ok v w ∧ RepAV (sur C g (s.den Φ env) w) (u.den Φ env) v := by
 cases r with
 | tmp t =>
   simp only [resV, Option.some.injEq] at h
   subst h
   have := R.tmps t
   rw [SSt.den_tmp] at this
   exact ⟨_, rfl, this⟩
 | cell x t =>
   simp only [resV] at h
   obtain ⟨ht, h2⟩ := bif_some h
   clear h
   split at h2
   · rename_i y i j hx
     split at h2
     · rename_i T cs hy
       obtain ⟨hn, h3⟩ := bif_some h2
       clear h2
       simp only [Option.some.injEq] at h3
       subst h3
       have hn := Nat.le_of_ble_eq_true hn
       have h' := R.tmps x
       rw [SSt.den_tmp, hx] at h'
       have h' : PtrRep (sur C g (s.den Φ env) w) y _ j (a.tmps.getD x undef) := h'
       have hy' := obj_is (Φ := Φ) (env := env) hy
       unfold PtrRep at h'
       simp only [sur, hy', SOb.den] at h'
       obtain ⟨b, hb, e⟩ := h'
       have ho' := R.objs y
       unfold RepOb at ho'
       simp only [sur, hy', SOb.den] at ho'
       obtain ⟨b', vs, hb', _, hh, hcs⟩ := ho'
       rw [hb] at hb'
       simp only [Value.pointer.injEq, Option.some.injEq, Addr.mk.injEq, and_true] at hb'
       subst hb'
       have hrow : Row w b 0 vs := Row.of_get fun q v hv => by
         rw [Nat.zero_add, cell_of_row w b q _ _ _ hh]
         simpa using hv
       have hr2 := (hrow.drop j).take (C.T t).ks.length
       rw [Nat.zero_add] at hr2
       have hl : ((vs.drop j).take (C.T t).ks.length).length = (C.T t).ks.length := by
         rw [List.length_take, List.length_drop, hcs.length, List.length_map]; omega
       refine ⟨mkV (C.T t).agg ((vs.drop j).take (C.T t).ks.length), ?_, ?_⟩
       · simp only [resS]
         rw [e]
         simp only [asAddr, Sem.run_bind, Sem.run_pure]
         exact run_loadVar' (C.tok t ht) hr2 hl
       · rw [smkA_den, List.map_take, List.map_drop]
         exact mkA_rep (RepACs.take _ (RepACs.drop _ hcs))
     · cases h2
   · cases h2
theorem resVs_run (R : Rel C g (s.den Φ env) a w) : ∀ {rv : List ResultVar} {us : List SV}, resVs C.T s rv = some us → ∃ vs, (rv.mapM (resS a.tmps)).run C.P w = .ok vs w ∧ RepAVs (sur C g (s.den Φ env) w) (us.map (SV.den Φ env)) vs
 | [], us, h => by simp only [resVs, Option.some.injEq] at h; subst h; exact ⟨[], by simp, rfl⟩
 | r :: rs, us, h => by
   simp only [resVs] at h
   split at h
   · rename_i v vs h1 h2
     simp only [Option.some.injEq] at h
     subst h
     obtain ⟨x, q1, q2⟩ := resV_run R h1
     obtain ⟨xs, q3, q4⟩ := resVs_run R h2
     exact ⟨x :: xs, by simp [List.mapM_cons, q1, q3], ⟨x, xs, rfl, q2, q4⟩⟩
   · cases h
theorem finV_rep {S : Sur} : ∀ {rets : List RSh} {us : List SV} {cs : List SC} {vs : List Value}, RepAVs S (us.map (SV.den Φ env)) vs → finV rets us = some cs →
   ∃ xs, RepACs S (cs.map (SC.den Φ env)) xs ∧ vs = mkRets rets xs ∧ xs.length = (rets.flatMap RSh.cells).length
 | [], [], cs, vs, h, hf => by
   simp only [finV, Option.some.injEq] at hf
   subst hf
   exact ⟨[], rfl, h, rfl⟩
 | .one r :: rs, .one c :: us, cs, vs, h, hf => by
   simp only [finV, Option.map_eq_some_iff] at hf
   obtain ⟨cs', h1, rfl⟩ := hf
   obtain ⟨v, vs', rfl, hv, h'⟩ := h
   obtain ⟨xs, q1, q2, q3⟩ := finV_rep h' h1
   exact ⟨v :: xs, ⟨v, xs, rfl, hv.2, hv.1, q1⟩, by simp [mkRets, RSh.mk, RSh.cells, q2], by simp [RSh.cells, q3]⟩
 | .agg ks :: rs, .agg c :: us, cs, vs, h, hf => by
   simp only [finV] at hf
   obtain ⟨hl, hf⟩ := bif_some hf
   simp only [Option.map_eq_some_iff] at hf
   obtain ⟨cs', h1, rfl⟩ := hf
   obtain ⟨v, vs', rfl, hv, h'⟩ := h
   obtain ⟨ys, rfl, hy⟩ := hv
   obtain ⟨xs, q1, q2, q3⟩ := finV_rep h' h1
   have hyl : ys.length = ks.length := by rw [hy.length]; simp only [List.length_map]; exact (beq_iff_eq.1 hl).symm
   refine ⟨ys ++ xs, ?_, ?_, ?_⟩
   · rw [List.map_append]; exact hy.append q1
   · simp [mkRets, RSh.mk, RSh.cells, q2, hyl]
   · simp [RSh.cells, q3, hyl]
 | [], _ :: _, _, _, _, hf => by simp [finV] at hf
 | .one _ :: _, [], _, _, _, hf => by simp [finV] at hf
 | .agg _ :: _, [], _, _, _, hf => by simp [finV] at hf
 | .one _ :: _, .agg _ :: _, _, _, _, hf => by simp [finV] at hf
 | .one _ :: _, .ptr .. :: _, _, _, _, hf => by simp [finV] at hf
 | .one _ :: _, .pim .. :: _, _, _, _, hf => by simp [finV] at hf
 | .one _ :: _, .tup .. :: _, _, _, _, hf => by simp [finV] at hf
 | .one _ :: _, .whn .. :: _, _, _, _, hf => by simp [finV] at hf
 | .one _ :: _, .dead :: _, _, _, _, hf => by simp [finV] at hf
 | .agg _ :: _, .one _ :: _, _, _, _, hf => by simp [finV] at hf
 | .agg _ :: _, .ptr .. :: _, _, _, _, hf => by simp [finV] at hf
 | .agg _ :: _, .pim .. :: _, _, _, _, hf => by simp [finV] at hf
 | .agg _ :: _, .tup .. :: _, _, _, _, hf => by simp [finV] at hf
 | .agg _ :: _, .whn .. :: _, _, _, _, hf => by simp [finV] at hf
 | .agg _ :: _, .dead :: _, _, _, _, hf => by simp [finV] at hf
theorem finCs_heads (R : Rel C g (s.den Φ env) a w) : ∀ {rs : List RC} {cs : List SC} {vs : List Value} {es : List E} {os qs : List Nat}, RepACs (sur C g (s.den Φ env) w) (cs.map (SC.den Φ env)) vs → finCs s rs cs = some (es, os, qs) →
   ∀ b ∈ retHeads rs vs, ∃ z ∈ os, Ob.live ((s.den Φ env).obj z) = true ∧ blkOf (g.hd z) = some b ∧ b ∈ g.fp z
 | [], cs, vs, es, os, qs, h, hf => by intro b hb; simp [retHeads] at hb
 | r :: rs, [], vs, es, os, qs, h, hf => by simp [finCs] at hf
 | r :: rs, c :: cs, vs, es, os, qs, h, hf => by
   obtain ⟨v, vs', rfl, ho, hc, h'⟩ := h
   simp only [finCs] at hf
   split at hf
   · rename_i e o q es' os' qs' h1 h2
     simp only [Option.some.injEq, Prod.mk.injEq] at hf
     obtain ⟨rfl, rfl, rfl⟩ := hf
     intro b hb
     simp only [retHeads, List.mem_append] at hb
     rcases hb with hb | hb
     · cases r with
       | im k => simp [RC.head] at hb
       | own t ks dp =>
         simp only [RC.head, Option.mem_toList] at hb
         cases c with
         | nil t' ks' =>
           have : v = .slice none 0 0 := hc
           subst this
           simp [Value.ownBlock] at hb
         | ref z p =>
           cases p with
           | some p => simp [finC] at h1
           | none =>
             simp only [finC] at h1
             split at h1
             · rename_i t' ks' dp' xs hz
               obtain ⟨_, h3⟩ := bif_some h1
               simp only [Option.some.injEq, Prod.mk.injEq] at h3
               obtain ⟨_, rfl, _⟩ := h3
               have hz' := obj_is (Φ := Φ) (env := env) hz
               have hr : RefRep (sur C g (s.den Φ env) w) z none v := hc
               unfold RefRep at hr
               simp only [sur, hz', SOb.den] at hr
               have hv := hr.2
               subst hv
               have hob := R.objs z
               unfold RepOb at hob
               simp only [sur, hz', SOb.den] at hob
               obtain ⟨vss, fps, hown, _, _, _, hfp, _⟩ := hob
               refine ⟨z, by simp, by rw [hz']; rfl, ?_, by rw [hfp]; simp [hb]⟩
               rcases ownsRow_cases hown with ⟨e1, _⟩ | ⟨b', c', e1, _⟩
               · rw [e1] at hb; simp [Value.ownBlock] at hb
               · rw [e1] at hb ⊢; simpa [Value.ownBlock, blkOf] using hb
             · cases h1
         | dat => simp [finC] at h1
         | dead => simp [finC] at h1
     · obtain ⟨z, hz, hq⟩ := finCs_heads R h' h2 b hb
       exact ⟨z, by simp [hz], hq⟩
   · cases hf
theorem finCs_rep (R : Rel C g (s.den Φ env) a w) {hs : List Nat} {OK : List Nat} (hhs : ∀ b ∈ hs, ∃ z ∈ OK, Ob.live ((s.den Φ env).obj z) = true ∧ blkOf (g.hd z) = some b ∧ b ∈ g.fp z) :
   ∀ {rs : List RC} {cs : List SC} {vs : List Value} {es : List E} {os qs : List Nat}, RepACs (sur C g (s.den Φ env) w) (cs.map (SC.den Φ env)) vs → finCs s rs cs = some (es, os, qs) → (∀ z ∈ qs, z ∉ OK) →
   ∃ Fs, RetCs w (MeH C.M hs) rs vs (es.map (E.den Φ env)) Fs ∧ Fs.flatten.Sublist (os.flatMap g.fp)
 | [], [], vs, es, os, qs, h, hf, _ => by
   simp only [finCs, Option.some.injEq, Prod.mk.injEq] at hf
   obtain ⟨rfl, rfl, rfl⟩ := hf
   exact ⟨[], ⟨h, rfl⟩, List.Sublist.refl _⟩
 | [], _ :: _, vs, es, os, qs, h, hf, _ => by simp [finCs] at hf
 | r :: rs, [], vs, es, os, qs, h, hf, _ => by simp [finCs] at hf
 | r :: rs, c :: cs, vs, es, os, qs, h, hf, hq => by
   obtain ⟨v, vs', rfl, ho, hc, h'⟩ := h
   have weak : ∀ b o, MeH C.M hs b o → Me C.M (s.den Φ env).obj g.hd g.fp b o := fun b o hm => by
     rcases hm with hm | hm
     · exact .inl hm
     · obtain ⟨z, _, h1, h2, _⟩ := hhs b hm
       exact .inr (.inl ⟨z, h1, h2⟩)
   simp only [finCs] at hf
   split at hf
   · rename_i e o q es' os' qs' h1 h2
     simp only [Option.some.injEq, Prod.mk.injEq] at hf
     obtain ⟨rfl, rfl, rfl⟩ := hf
     obtain ⟨Fs, i1, i2⟩ := finCs_rep R hhs h' h2 fun z hz => hq z (by simp [hz])
     cases r with
     | im k =>
       have main : RepC w (MeH C.M hs) k v (e.den Φ env) ∧ o = [] := by
         cases c with
         | dat k' e' =>
           simp only [finC] at h1
           obtain ⟨h3, h4⟩ := bif_some h1
           simp only [Option.some.injEq, Prod.mk.injEq] at h4
           obtain ⟨rfl, rfl, rfl⟩ := h4
           rw [← K.eqb_eq h3]
           exact ⟨RepC.mono weak hc, rfl⟩
         | nil t ks =>
           simp only [finC] at h1
           obtain ⟨h3, h4⟩ := bif_some h1
           simp only [Option.some.injEq, Prod.mk.injEq] at h4
           obtain ⟨rfl, rfl, rfl⟩ := h4
           rw [← K.eqb_eq h3]
           exact ⟨RepC.mono weak (RepAC.dn hc), rfl⟩
         | ref z p =>
           simp only [finC] at h1
           split at h1
           · rename_i t ks dp xs hz
             obtain ⟨h3, h4⟩ := bif_some h1
             simp only [Option.some.injEq, Prod.mk.injEq] at h4
             obtain ⟨rfl, rfl, rfl⟩ := h4
             rw [← K.eqb_eq h3, scut_den]
             refine ⟨R.sealRep (obj_is hz) hc _ (fun b o v hcl hn => ⟨hcl, fun hm => hn (weak b o hm)⟩) (fun b hb p hm => ?_), rfl⟩
             rcases hm with hm | hm
             · have := C.mold b p hm
               rcases (R.alw z b hb).1 with h5 | h5
               · omega
               · exact this.2 h5
             · obtain ⟨z', hz', _, _, hfp⟩ := hhs b hm
               have : z ≠ z' := fun e => hq z (by simp) (e ▸ hz')
               exact R.apart z z' this b hb hfp
           · rename_i t ks xs hz
             obtain ⟨h3, h4⟩ := bif_some h1
             simp only [Option.some.injEq, Prod.mk.injEq] at h4
             obtain ⟨rfl, rfl, rfl⟩ := h4
             rw [← K.eqb_eq h3, scut_den]
             have hr : RefRep (sur C g (s.den Φ env) w) z (denP Φ env p) v := hc
             unfold RefRep at hr
             have ho : (sur C g (s.den Φ env) w).obj z = _ := obj_is (Φ := Φ) (env := env) hz
             rw [ho] at hr
             exact ⟨RepC.mono weak hr.2, rfl⟩
           · cases h1
         | dead => simp [finC] at h1
       obtain ⟨m1, rfl⟩ := main
       exact ⟨Fs, ⟨v, vs', rfl, m1, i1⟩, by simpa using i2⟩
     | own t ks dp =>
       have main : ∃ F, OwnRep w (MeH C.M hs) t ks dp v (e.den Φ env).asList F ∧ F.Sublist (o.flatMap g.fp) := by
         cases c with
         | nil t' ks' =>
           simp only [finC] at h1
           obtain ⟨h3, h4⟩ := bif_some h1
           simp only [Bool.and_eq_true, beq_iff_eq] at h3
           simp only [Option.some.injEq, Prod.mk.injEq] at h4
           obtain ⟨rfl, rfl, rfl⟩ := h4
           have hv : v = .slice none 0 0 := hc
           subst hv
           exact ⟨[], ⟨[], [], World.ownsRow_nil _ _ _ _, by simp [E.den, lenMax], rfl, rfl, rfl, fun i row vs f h => by simp [E.den] at h⟩, List.Sublist.refl _⟩
         | ref z p =>
           cases p with
           | some p => simp [finC] at h1
           | none =>
             simp only [finC] at h1
             split at h1
             · rename_i t' ks' dp' xs hz
               obtain ⟨h3, h4⟩ := bif_some h1
               simp only [Option.some.injEq, Prod.mk.injEq] at h4
               obtain ⟨rfl, rfl, rfl⟩ := h4
               simp only [Bool.and_eq_true, beq_iff_eq] at h3
               obtain ⟨⟨rfl, h5⟩, hdp⟩ := h3
               have h6 := K.eqbs_eq h5
               subst h6
               have hz' := obj_is (Φ := Φ) (env := env) hz
               have hr : RefRep (sur C g (s.den Φ env) w) z none v := hc
               unfold RefRep at hr
               simp only [sur, hz', SOb.den] at hr
               have hv := hr.2
               subst hv
               have hob := R.objs z
               unfold RepOb at hob
               simp only [sur, hz', SOb.den] at hob
               obtain ⟨vss, fps, q1, q2, q3, q4, q5, q6⟩ := hob
               cases dp with
               | true =>
                 cases dp' with
                 | true => exact ⟨g.fp z, ⟨vss, fps, q1, q2, q3, q4, q5, fun i row vs f e1 e2 e3 => q6 i row vs f e1 e2 e3⟩, by simp⟩
                 | false =>
                   have hpl : plainK ks = true := by simpa using hdp
                   refine ⟨g.fp z, ⟨vss, fps, q1, q2, q3, q4, q5, fun i row vs f e1 e2 e3 => ?_⟩, by simp⟩
                   have := q6 i row vs f e1 e2 e3
                   simp only [Bool.false_eq_true, if_false, if_true] at this ⊢
                   rw [this.2]
                   exact this.1.plain hpl
               | false =>
               cases dp' with
               | false =>
                 refine ⟨g.fp z, ⟨vss, fps, q1, q2, q3, q4, q5, fun i row vs f e1 e2 e3 => ?_⟩, by simp⟩
                 have := q6 i row vs f e1 e2 e3
                 simp only [Bool.false_eq_true, if_false] at this ⊢
                 exact ⟨RepCs.mono weak this.1, this.2⟩
               | true =>
                 refine ⟨(g.hd z).ownBlock.toList, ⟨vss, fps.map fun _ => [], q1, q2, q3, by simpa using q4, by simp, fun i row vs f e1 e2 e3 => ?_⟩, ?_⟩
                 · rw [List.getElem?_map, Option.map_eq_some_iff] at e3
                   obtain ⟨f', e3, rfl⟩ := e3
                   have := q6 i row vs f' e1 e2 e3
                   simp only [Bool.false_eq_true, if_false, if_true] at this ⊢
                   refine ⟨this.toC fun b hb o hm => ?_, trivial⟩
                   have hbz : b ∈ fps.flatten := List.mem_flatten.2 ⟨f', List.mem_of_getElem? e3, hb⟩
                   have hbf : b ∈ g.fp z := by rw [q5]; exact List.mem_append.2 (.inr hbz)
                   rcases hm with hm | hm
                   · have := C.mold b o hm
                     rcases (R.alw z b hbf).1 with h7 | h7
                     · omega
                     · exact this.2 h7
                   · obtain ⟨z', _, _, hbk, hfp'⟩ := hhs b hm
                     by_cases hzz : z = z'
                     · subst hzz
                       have hnd := R.own z
                       rw [q5] at hnd
                       have hob : (g.hd z).ownBlock = some b := by rw [← blk_own q1]; exact hbk
                       exact (List.nodup_append.1 hnd).2.2 b (by rw [hob]; simp) b hbz rfl
                     · exact R.apart z z' hzz b hbf hfp'
                 · simp only [List.flatMap_cons, List.flatMap_nil, List.append_nil]
                   rw [q5]; exact List.sublist_append_left _ _
             · cases h1
         | dat => simp [finC] at h1
         | dead => simp [finC] at h1
       obtain ⟨F, m1, hsub⟩ := main
       exact ⟨_ :: Fs, ⟨v, vs', _, Fs, rfl, rfl, m1, i1⟩, by rw [List.flatten_cons, List.flatMap_append]; exact hsub.append i2⟩
   · cases hf
theorem fps_nodup (R : Rel C g (s.den Φ env) a w) : ∀ {os : List Nat}, os.Nodup → (os.flatMap g.fp).Nodup
 | [], _ => List.nodup_nil
 | z :: os, h => by
   obtain ⟨h1, h2⟩ := List.nodup_cons.1 h
   rw [List.flatMap_cons]
   refine List.nodup_append.2 ⟨R.own z, fps_nodup R h2, fun b hb c hc e => ?_⟩
   subst e
   obtain ⟨y, hy, hb'⟩ := List.mem_flatMap.1 hc
   exact R.apart z y (fun e => h1 (e ▸ hy)) b hb hb'
theorem fin_sound (R : Rel C g (s.den Φ env) a w) {fn : Func} {rets : List RSh} {es : List E} (h : fin C.T fn.results.toList rets s = some es) :
   ∃ us Fs, (results fn a.tmps).run C.P w = .ok (mkRet rets us) w ∧ RetCs w (MeH C.M (retHeads (rets.flatMap RSh.cells) us)) (rets.flatMap RSh.cells) us (es.map (E.den Φ env)) Fs ∧
     Fs.flatten.Nodup ∧ ∀ b, b ∈ Fs.flatten → (C.w0.heap.size ≤ b ∨ b ∈ C.X) ∧ b < w.heap.size := by
 unfold fin at h
 split at h
 · rename_i uv h1
   split at h
   · rename_i cs h2
     split at h
     · rename_i es' os qs h3
       obtain ⟨h4, h5⟩ := bif_some h
       clear h
       simp only [Option.some.injEq] at h5
       subst h5
       obtain ⟨vs, r1, r2⟩ := resVs_run R h1
       obtain ⟨us, q1, q2, q3⟩ := finV_rep r2 h2
       have hnd := nodupB_iff h4
       obtain ⟨n1, n2, n3⟩ := List.nodup_append.1 hnd
       obtain ⟨Fs, k1, k2⟩ := finCs_rep R (finCs_heads R q1 h3) q1 h3 fun z hz hz' => n3 z hz' z hz rfl
       refine ⟨us, Fs, ?_, k1, (fps_nodup R n1).sublist k2, fun b hb => ?_⟩
       · rw [results_eq, show fn.results = fn.results.toList.toArray by simp]
         simp only [List.mapM_toArray, Sem.run_bind]
         have : ((List.toArray <$> List.mapM (resS a.tmps) fn.results.toList : Sem (Array Value))).run C.P w = .ok vs.toArray w := by simp [r1]
         rw [this]
         simp only [Result.andThen, Sem.run_pure]
         subst q2
         congr 1
         rcases rets with _ | ⟨r, _ | ⟨r2, rs⟩⟩
         · rfl
         · have : us.take r.cells.length = us := List.take_of_length_le (by rw [q3]; simp)
           simp [mkRets, mkRet, this]
         · simp [mkRets, mkRet]
       · obtain ⟨z, hz, hb⟩ := List.mem_flatMap.1 (k2.subset hb)
         exact R.alw z b hb
     · cases h
   · cases h
 · cases h
end
def cand (ops : Array Oper) (L : List Bool) : List Nat := (List.range ops.size).filter fun i => !(L.getD i true) && match ops[i]? with
 | some o => o.after.toList.all fun e => !Region.binds .any e || L.getD e.on false
 | none => false
abbrev Lay := List (List Bool × SSt)
def Lay.find (L : List Bool) : Lay → Option SSt
 | [] => none
 | (K, s) :: X => bif K == L then some s else find L X
def addC (c cs : List E) : List E := cs ++ c.filter fun e => !cs.any (E.eqb e)
def lstep (T : TypeId → TI) (CT : Nat → Option Sig) (ops : Array Oper) (L : List Bool) (s : SSt) : List Nat → List E → Lay → Option (List E × Lay)
 | [], cs, Y => some (cs, Y)
 | i :: l, cs, Y => match ops[i]? with
   | some o => match sstep T CT ops s o with
     | some (c, s') => match Y.find (L.set i true) with
       | some s2 => bif s'.le s2 then lstep T CT ops L s l (addC c cs) Y else none
       | none => lstep T CT ops L s l (addC c cs) ((L.set i true, s') :: Y)
     | none => none
   | none => none
def lall (T : TypeId → TI) (CT : Nat → Option Sig) (ops : Array Oper) : Lay → List E → Lay → Option (List E × Lay)
 | [], cs, Y => some (cs, Y)
 | (L, s) :: X, cs, Y => match cand ops L with
   | [] => none
   | i :: l => match lstep T CT ops L s (i :: l) cs Y with
     | some (cs', Y') => lall T CT ops X cs' Y'
     | none => none
def lrun (T : TypeId → TI) (CT : Nat → Option Sig) (ops : Array Oper) : Nat → Lay → List E → Option (List E × SSt)
 | 0, X, cs => match X with
   | [(L, s)] => bif (cand ops L).isEmpty then some (cs, s) else none
   | _ => none
 | n + 1, X, cs => match lall T CT ops X cs [] with
   | some (cs', Y) => lrun T CT ops n Y cs'
   | none => none
def arun (T : TypeId → TI) (CT : Nat → Option Sig) (ops : Array Oper) (s : SSt) : Option (List E × SSt) := lrun T CT ops ops.size [(List.replicate ops.size false, s)] []
theorem Lay.find_mem {L : List Bool} {s : SSt} : ∀ {X : Lay}, X.find L = some s → (L, s) ∈ X
 | [], h => by simp [Lay.find] at h
 | (K, s1) :: X, h => by
   simp only [Lay.find] at h
   cases hk : K == L with
   | true =>
     rw [hk] at h
     simp only [cond_true, Option.some.injEq] at h
     have : K = L := by simpa using hk
     subst this; subst h
     simp
   | false =>
     rw [hk] at h
     exact List.mem_cons_of_mem _ (Lay.find_mem h)
theorem mem_cand {ops : Array Oper} {listed : Array Bool} {L : List Bool} (hL : listed.toList = L) (i : Nat) : i ∈ Region.ready .any ops listed ↔ i ∈ cand ops L := by
 have hg : ∀ j b, L.getD j b = listed.getD j b := fun j b => by
   subst hL
   simp [List.getD_eq_getElem?_getD]
 rw [mem_ready]
 unfold cand
 rw [List.mem_filter, List.mem_range]
 cases ho : ops[i]? with
 | none => simp
 | some o =>
   have hlt : i < ops.size := (Array.getElem?_eq_some_iff.1 ho).1
   simp only [hlt, true_and, hg, Option.some.injEq, exists_eq_left', Bool.and_eq_true, Bool.not_eq_true', List.all_eq_true, Bool.or_eq_true, Array.mem_toList_iff]
   constructor
   · rintro ⟨h1, h2⟩
     refine ⟨h1, fun e he => ?_⟩
     cases hb : Region.binds .any e with
     | false => exact .inl rfl
     | true => exact .inr (h2 e he hb)
   · rintro ⟨h1, h2⟩
     exact ⟨h1, fun e he hb => (h2 e he).resolve_left (by simp [hb])⟩
section
variable {Φ : Fns} {env : List D} {C : Cx} {g : Gh} {s : SSt} {a : Act} {w : World} {CT : Nat → Option Sig} {ops : Array Oper}
theorem addC_ok {c cs : List E} (h : holds Φ env (addC c cs)) : holds Φ env c ∧ holds Φ env cs := by
 unfold addC at h
 have h2 : holds Φ env cs := fun e he => h e (List.mem_append.2 (.inl he))
 refine ⟨fun e he => ?_, h2⟩
 cases hx : cs.any (E.eqb e) with
 | true =>
   obtain ⟨y, hy, hey⟩ := List.any_eq_true.1 hx
   rw [E.eqb_eq hey]
   exact h2 y hy
 | false => exact h e (List.mem_append.2 (.inr (List.mem_filter.2 ⟨he, by simp [hx]⟩)))
theorem lstep_ok {T : TypeId → TI} {L : List Bool} : ∀ {l : List Nat} {cs cs' : List E} {Y Y' : Lay}, lstep T CT ops L s l cs Y = some (cs', Y') →
   (holds Φ env cs' → holds Φ env cs) ∧ (∀ p ∈ Y, p ∈ Y') ∧ ∀ i ∈ l, ∃ o c s' s2, ops[i]? = some o ∧ sstep T CT ops s o = some (c, s') ∧ (holds Φ env cs' → holds Φ env c) ∧ (L.set i true, s2) ∈ Y' ∧ (s' = s2 ∨ s'.le s2 = true)
 | [], cs, cs', Y, Y', h => by
   simp only [lstep, Option.some.injEq, Prod.mk.injEq] at h
   obtain ⟨rfl, rfl⟩ := h
   exact ⟨id, fun _ h => h, fun i hi => by simp at hi⟩
 | i :: l, cs, cs', Y, Y', h => by
   simp only [lstep] at h
   split at h
   · rename_i o ho
     split at h
     · rename_i c s' hs
       split at h
       · rename_i s2 h2
         obtain ⟨h3, h⟩ := bif_some h
         obtain ⟨k1, k2, k3⟩ := lstep_ok (l := l) h
         refine ⟨fun hh => (addC_ok (k1 hh)).2, k2, fun j hj => ?_⟩
         rcases List.mem_cons.1 hj with rfl | hj
         · exact ⟨o, c, s', s2, ho, hs, fun hh => (addC_ok (k1 hh)).1, k2 _ (Lay.find_mem h2), .inr h3⟩
         · exact k3 j hj
       · obtain ⟨k1, k2, k3⟩ := lstep_ok (l := l) h
         refine ⟨fun hh => (addC_ok (k1 hh)).2, fun p hp => k2 p (by simp [hp]), fun j hj => ?_⟩
         rcases List.mem_cons.1 hj with rfl | hj
         · exact ⟨o, c, s', s', ho, hs, fun hh => (addC_ok (k1 hh)).1, k2 _ (by simp), .inl rfl⟩
         · exact k3 j hj
     · cases h
   · cases h
theorem lall_ok {T : TypeId → TI} : ∀ {X : Lay} {cs cs' : List E} {Y Y' : Lay}, lall T CT ops X cs Y = some (cs', Y') →
   (holds Φ env cs' → holds Φ env cs) ∧ (∀ p ∈ Y, p ∈ Y') ∧ ∀ q ∈ X, cand ops q.1 ≠ [] ∧ ∀ i ∈ cand ops q.1, ∃ o c s' s2, ops[i]? = some o ∧ sstep T CT ops q.2 o = some (c, s') ∧ (holds Φ env cs' → holds Φ env c) ∧ (q.1.set i true, s2) ∈ Y' ∧ (s' = s2 ∨ s'.le s2 = true)
 | [], cs, cs', Y, Y', h => by
   simp only [lall, Option.some.injEq, Prod.mk.injEq] at h
   obtain ⟨rfl, rfl⟩ := h
   exact ⟨id, fun _ h => h, fun i hi => by simp at hi⟩
 | (L, s) :: X, cs, cs', Y, Y', h => by
   simp only [lall] at h
   split at h
   · cases h
   · rename_i i l hc
     split at h
     · rename_i cs1 Y1 h1
       obtain ⟨k1, k2, k3⟩ := lstep_ok (Φ := Φ) (env := env) h1
       obtain ⟨m1, m2, m3⟩ := lall_ok (X := X) h
       refine ⟨fun hh => k1 (m1 hh), fun p hp => m2 p (k2 p hp), fun q hq => ?_⟩
       rcases List.mem_cons.1 hq with rfl | hq
       · refine ⟨by simp only [hc]; simp, fun j hj => ?_⟩
         simp only [hc] at hj
         obtain ⟨o, c, s', s2, a1, a2, a3, a4, a5⟩ := k3 j hj
         exact ⟨o, c, s', s2, a1, a2, fun hh => a3 (m1 hh), m2 _ a4, a5⟩
       · exact m3 q hq
     · cases h
theorem lrun_ok (hCT : Told C.P Φ CT) {Q : Exit → Act → World → Prop} {sf : SSt} (hQ : ∀ a' w' g', Rel C g' (sf.den Φ env) a' w' → Q .normal a' w') : ∀ {n : Nat} {X : Lay} {cs cs' : List E}, lrun C.T CT ops n X cs = some (cs', sf) → holds Φ env cs' →
   holds Φ env cs ∧ ∀ q ∈ X, ∀ (listed : Array Bool) (g : Gh) (a : Act) (w : World), listed.toList = q.1 → Rel C g (q.2.den Φ env) a w → wpAny C.P .any ops Q n listed a w
 | 0, X, cs, cs', h, hh => by
   simp only [lrun] at h
   split at h
   · rename_i L s
     obtain ⟨h1, h2⟩ := bif_some h
     simp only [Option.some.injEq, Prod.mk.injEq] at h2
     obtain ⟨rfl, rfl⟩ := h2
     refine ⟨hh, fun q hq listed g a w hl R => ?_⟩
     simp only [List.mem_singleton] at hq
     subst hq
     refine ⟨?_, hQ a w g R⟩
     have h1 : cand ops L = [] := by simpa using h1
     refine List.eq_nil_iff_forall_not_mem.2 fun i hi => ?_
     have := (mem_cand hl i).1 hi
     simp [h1] at this
   · cases h
 | n + 1, X, cs, cs', h, hh => by
   simp only [lrun] at h
   split at h
   · rename_i cs1 Y h1
     obtain ⟨r1, r2⟩ := lrun_ok hCT hQ h hh
     obtain ⟨k1, _, k3⟩ := lall_ok (Φ := Φ) (env := env) h1
     refine ⟨k1 r1, fun q hq listed g a w hl R => ⟨fun hnil => ?_, fun i hi => ?_⟩⟩
     · obtain ⟨hne, _⟩ := k3 q hq
       obtain ⟨i, l, hc⟩ := List.exists_cons_of_ne_nil hne
       have := (mem_cand hl i).2 (by rw [hc]; simp)
       rw [hnil] at this
       simp at this
     · obtain ⟨o, c, s', s2, ho, hs, hc, hm, he⟩ := (k3 q hq).2 i ((mem_cand hl i).1 hi)
       have := sstep_sound R hCT hs (hc r1) (wpAny C.P .any ops Q n (listed.setIfInBounds i true)) Q fun a' w' g' R' => by
         refine r2 _ hm _ g' a' w' (by rw [Array.toList_setIfInBounds, hl]) ?_
         rcases he with rfl | he
         · exact R'
         · exact R'.le he
       unfold wpOp
       simp only [ho]
       split at this
       · rename_i hw; rw [if_pos hw]; exact .inl this
       · rename_i hw; rw [if_neg hw]; exact this
   · cases h
theorem arun_sound (hCT : Told C.P Φ CT) (hm : C.P.follows .mixedOrders = true) {id : Nat} {Q : Exit → Act → World → Prop} {cs : List E} {s' : SSt} (R : Rel C g (s.den Φ env) a w)
   (h : arun C.T CT ops s = some (cs, s')) (hc : holds Φ env cs) (hQ : ∀ a' w' g', Rel C g' (s'.den Φ env) a' w' → Q .normal a' w') : (Code.region id ops true).wp C.P Q a w := by
 have RR : Rel C g (s.den Φ env) a { w with drawn := w.drawn + 1 } := Rel.same (w := w) R rfl rfl rfl rfl
 exact wp_region_any hm ((lrun_ok hCT hQ h hc).2 _ (List.mem_singleton.2 rfl) _ g a _ (by simp) RR)
end
end Go.Vx
namespace Go.Vx
open Go.RowKit (Below)
mutual
def SV.eqb : SV → SV → Bool
 | .dead, .dead => true
 | .one c, .one d => c.eqb d
 | .agg cs, .agg ds => SC.eqbs cs ds
 | .ptr z i j, .ptr z' i' j' => z == z' && E.eqb i i' && j == j'
 | .pim ks e o, .pim ks' e' o' => K.eqbs ks ks' && E.eqb e e' && o == o'
 | .tup us, .tup vs => SV.eqbs us vs
 | .whn c u, .whn c' v => E.eqb c c' && u.eqb v
 | .lod z i j, .lod z' i' j' => z == z' && E.eqb i i' && j == j'
 | _, _ => false
def SV.eqbs : List SV → List SV → Bool
 | [], [] => true
 | u :: us, v :: vs => u.eqb v && SV.eqbs us vs
 | _, _ => false
end
mutual
theorem SV.eqb_eq : ∀ {u v : SV}, u.eqb v = true → u = v
 | .dead, v, h => by cases v <;> simp_all [SV.eqb]
 | .one c, v, h => by
   cases v <;> simp only [SV.eqb, Bool.false_eq_true] at h
   rw [SC.eqb_eq h]
 | .agg cs, v, h => by
   cases v <;> simp only [SV.eqb, Bool.false_eq_true] at h
   rw [SC.eqbs_eq h]
 | .ptr z i j, v, h => by
   cases v <;> simp only [SV.eqb, Bool.false_eq_true, Bool.and_eq_true, beq_iff_eq] at h
   rw [h.1.1, E.eqb_eq h.1.2, h.2]
 | .pim ks e o, v, h => by
   cases v <;> simp only [SV.eqb, Bool.false_eq_true, Bool.and_eq_true, beq_iff_eq] at h
   rw [K.eqbs_eq h.1.1, E.eqb_eq h.1.2, h.2]
 | .tup us, v, h => by
   cases v <;> simp only [SV.eqb, Bool.false_eq_true] at h
   rw [SV.eqbs_eq h]
 | .whn c u, v, h => by
   cases v <;> simp only [SV.eqb, Bool.false_eq_true, Bool.and_eq_true] at h
   rw [E.eqb_eq h.1, SV.eqb_eq h.2]
 | .lod z i j, v, h => by
   cases v <;> simp only [SV.eqb, Bool.false_eq_true, Bool.and_eq_true, beq_iff_eq] at h
   rw [h.1.1, E.eqb_eq h.1.2, h.2]
theorem SV.eqbs_eq : ∀ {us vs : List SV}, SV.eqbs us vs = true → us = vs
 | [], vs, h => by cases vs <;> simp_all [SV.eqbs]
 | u :: us, [], h => by simp [SV.eqbs] at h
 | u :: us, v :: vs, h => by
   simp only [SV.eqbs, Bool.and_eq_true] at h
   rw [SV.eqb_eq h.1, SV.eqbs_eq h.2]
end
structure MEnt where
 d : Nat
 cs : List E
 v : SV
 ob : Option (List (Nat × SOb))
def MEnt.pl (e : MEnt) : Nat × List E × SV := (e.d, e.cs, e.v)
def mstep (T : TypeId → TI) (CT : Nat → Option Sig) (ops : Array Oper) (s : SSt) (o : Oper) : Option MEnt :=
 match qstep T CT ops s o with
 | some (d, cs, v) => some ⟨d, cs, v, none⟩
 | none => match o.dst, o.guard with
   | some d, none => bif quietOp o && Nat.blt d s.tmps.length then match fOp T CT (d * 64) s o with
     | some r => some ⟨d, r.cs, r.v, some (s.upds r.upd).objs⟩
     | none => none
     else none
   | _, _ => none
def mapp (s : SSt) (e : MEnt) : SSt := (match e.ob with | some O => (⟨s.tmps, O⟩ : SSt) | none => s).setT e.d e.v
def mgo (T : TypeId → TI) (CT : Nat → Option Sig) (ops : Array Oper) : List Nat → SSt → Option (List MEnt × SSt)
 | [], s => some ([], s)
 | i :: l, s => match ops[i]? with
   | some o => match mstep T CT ops s o with
     | some e => match mgo T CT ops l (mapp s e) with
       | some (p, s') => some (e :: p, s')
       | none => none
     | none => none
   | none => none
def cnt (p : List MEnt) (i : Nat) : Nat := ((p.take i).filterMap (·.ob)).length
def objsK (s : SSt) (p : List MEnt) (k : Nat) : List (Nat × SOb) := (s.objs :: p.filterMap (·.ob)).getD k []
def mayAt (ops : Array Oper) (p : List MEnt) (i k : Nat) : Bool := (List.range p.length).all fun j => match p[j]? with
 | some e => match e.ob with
   | some _ => (!binding ops i j || Nat.blt (cnt p j) k) && (!binding ops j i || Nat.ble k (cnt p j))
   | none => true
 | none => true
def mchk (T : TypeId → TI) (CT : Nat → Option Sig) (ops : Array Oper) (s0 : SSt) (p : List MEnt) : List Nat → SSt → Bool
 | [], _ => true
 | i :: l, s => (match ops[i]?, p[i]? with
   | some o, some e => (match e.ob with
     | some _ => (match slook (e.d * 64) s.objs with | none => true | some _ => false)
     | none => (List.range ((p.filterMap (·.ob)).length + 1)).all fun k => !mayAt ops p i k || ((match slook (e.d * 64) (objsK s0 p k) with | none => true | some _ => false) &&
         match qstep T CT ops ⟨s.tmps, objsK s0 p k⟩ o with
         | some (d, cs, v) => d == e.d && (E.eqbs cs e.cs && v.eqb e.v)
         | none => false)) && mchk T CT ops s0 p l (mapp s e)
   | _, _ => false)
def mord (ops : Array Oper) (p : List MEnt) (m : Nat) : Bool :=
 (List.range m).all fun i =>
   (match ops[i]? with
     | some o => o.after.toList.all fun e => !Region.binds .any e || Nat.blt e.on i
     | none => false) &&
   (List.range m).all fun j => match p[i]?, p[j]? with
     | some pi, some pj => (i == j || !(pi.d == pj.d)) && ((!looksB ops i pj.d || bif Nat.blt j i then binding ops i j else i == j || binding ops j i) &&
         (!(pi.ob.isSome && pj.ob.isSome && cnt p j + 1 == cnt p i) || binding ops i j))
     | _, _ => false
def tailOk (ops : Array Oper) (i : Nat) : Bool := (match ops[i]? with
 | some o => o.after.toList.all fun e => !Region.binds .any e || Nat.blt e.on i
 | none => false) && (List.range i).all fun j => binding ops i j
def tailFrom (ops : Array Oper) : Nat → Nat
 | 0 => 0
 | n + 1 => bif tailOk ops n then tailFrom ops n else n + 1
def mrun (T : TypeId → TI) (CT : Nat → Option Sig) (ops : Array Oper) (s : SSt) : Option (List E × SSt) :=
 match mgo T CT ops (List.range (tailFrom ops ops.size)) (freeAll (dsts ops) s) with
 | some (p, s1) => bif mord ops p (tailFrom ops ops.size) && mchk T CT ops (freeAll (dsts ops) s) p (List.range (tailFrom ops ops.size)) (freeAll (dsts ops) s) then
     match srun T CT ops (List.range' (tailFrom ops ops.size) (ops.size - tailFrom ops ops.size)) s1 with
     | some (cs, s2) => some (p.flatMap (·.cs) ++ cs, s2)
     | none => none
     else none
 | none => none
theorem mapp_tmps (s : SSt) (e : MEnt) : (mapp s e).tmps = s.tmps.set e.d e.v := by
 unfold mapp SSt.setT
 cases e.ob <;> rfl
theorem mapp_objs (s : SSt) (e : MEnt) : (mapp s e).objs = e.ob.getD s.objs := by
 unfold mapp SSt.setT
 cases e.ob <;> rfl
theorem cnt_succ {p : List MEnt} {i : Nat} {e : MEnt} (h : p[i]? = some e) : cnt p (i + 1) = cnt p i + (if e.ob.isSome then 1 else 0) := by
 unfold cnt
 rw [List.take_add_one, h, List.filterMap_append, List.length_append]
 cases ho : e.ob <;> simp [ho]
theorem cnt_mono {p : List MEnt} {i j : Nat} (h : i ≤ j) : cnt p i ≤ cnt p j := by
 unfold cnt
 exact ((List.take_prefix_take_left h).filterMap _).length_le
theorem cnt_lt {p : List MEnt} {i j : Nat} {e : MEnt} (h : p[i]? = some e) (ho : e.ob.isSome = true) (hij : i < j) : cnt p i < cnt p j := by
 have := cnt_succ h
 rw [if_pos ho] at this
 have := cnt_mono (p := p) (i := i + 1) (j := j) hij
 omega
theorem objsK_succ {s : SSt} {p : List MEnt} {i : Nat} {e : MEnt} {X : List (Nat × SOb)} (h : p[i]? = some e) (ho : e.ob = some X) : objsK s p (cnt p i + 1) = X := by
 have hlt := (List.getElem?_eq_some_iff.1 h).1
 have hp : p = p.take i ++ e :: p.drop (i + 1) := by
   have h1 := List.take_append_drop i p
   rw [List.drop_eq_getElem_cons hlt, (List.getElem?_eq_some_iff.1 h).2] at h1
   exact h1.symm
 unfold objsK cnt
 simp only [List.getD_cons_succ]
 have : p.filterMap (·.ob) = (p.take i).filterMap (·.ob) ++ X :: (p.drop (i + 1)).filterMap (·.ob) := by
   conv => lhs; rw [hp]
   rw [List.filterMap_append, List.filterMap_cons_some ho]
 rw [this, List.getD_eq_getElem?_getD, List.getElem?_append_right (Nat.le_refl _)]
 simp
theorem cnt_prev {p : List MEnt} : ∀ {i c : Nat}, i ≤ p.length → cnt p i = c + 1 → ∃ j e, j < i ∧ p[j]? = some e ∧ e.ob.isSome = true ∧ cnt p j = c
 | 0, c, _, h => by simp [cnt] at h
 | i + 1, c, hi, h => by
   have hg : p[i]? = some p[i] := List.getElem?_eq_getElem (by omega)
   have h1 := cnt_succ hg
   by_cases ho : p[i].ob.isSome = true
   · rw [if_pos ho] at h1
     exact ⟨i, p[i], by omega, hg, ho, by omega⟩
   · rw [if_neg ho] at h1
     obtain ⟨j, e, h2, h3⟩ := cnt_prev (p := p) (i := i) (c := c) (by omega) (by omega)
     exact ⟨j, e, by omega, h3⟩
theorem cnt_le_all {p : List MEnt} (i : Nat) : cnt p i ≤ (p.filterMap (·.ob)).length := by
 unfold cnt
 exact ((List.take_prefix i p).filterMap _).length_le
theorem mgo_length {T : TypeId → TI} {CT : Nat → Option Sig} {ops : Array Oper} : ∀ (l : List Nat) {s s' : SSt} {p : List MEnt}, mgo T CT ops l s = some (p, s') → p.length = l.length
 | [], s, s', p, h => by simp only [mgo, Option.some.injEq, Prod.mk.injEq] at h; obtain ⟨rfl, rfl⟩ := h; rfl
 | i :: l, s, s', p, h => by
   simp only [mgo] at h
   split at h
   · split at h
     · split at h
       · rename_i h2
         simp only [Option.some.injEq, Prod.mk.injEq] at h
         obtain ⟨rfl, rfl⟩ := h
         simp [mgo_length l h2]
       · cases h
     · cases h
   · cases h
abbrev SSt.at (s : SSt) (O : List (Nat × SOb)) : SSt := ⟨s.tmps, O⟩
theorem Has.at {s τ : SSt} {p : Plan} {L : Nat → Prop} {O O' : List (Nat × SOb)} (h : Has (s.at O) p L τ) : Has (s.at O') p L (τ.at O') := ⟨rfl, h.len, h.new, h.old⟩
section
variable {Φ : Fns} {env : List D} {C : Cx} {g : Gh} {s τ : SSt} {a : Act} {w : World}
theorem mgo_has {T : TypeId → TI} {CT : Nat → Option Sig} {ops : Array Oper} {s : SSt} {p : List MEnt} (hp : Apart (p.map MEnt.pl)) (hd : ∀ e ∈ p, e.d < s.tmps.length) : ∀ (m k : Nat) {pre suf : List MEnt} {τ τ' : SSt}, p = pre ++ suf → pre.length = k →
   Has (s.at (objsK s p (cnt p k))) (p.map MEnt.pl) (· < k) τ → mgo T CT ops (List.range' k m) τ = some (suf, τ') → mchk T CT ops s p (List.range' k m) τ = true →
   Has (s.at (objsK s p (cnt p (k + m)))) (p.map MEnt.pl) (· < k + m) τ' ∧ ∀ i e, k ≤ i → i < k + m → p[i]? = some e → ∃ o τi, ops[i]? = some o ∧ Has (s.at (objsK s p (cnt p i))) (p.map MEnt.pl) (· < i) τi ∧ mstep T CT ops τi o = some e ∧
     (e.ob.isSome = true → slook (e.d * 64) τi.objs = none) ∧ (e.ob = none → ∀ c, c ≤ (p.filterMap (·.ob)).length → mayAt ops p i c = true → slook (e.d * 64) (objsK s p c) = none ∧ qstep T CT ops (τi.at (objsK s p c)) o = some e.pl)
 | 0, k, pre, suf, τ, τ', he, hk, h, hq, hch => by
   simp only [List.range'_zero, mgo, Option.some.injEq, Prod.mk.injEq] at hq
   obtain ⟨rfl, rfl⟩ := hq
   exact ⟨h, fun i q h1 h2 => by omega⟩
 | m + 1, k, pre, suf, τ, τ', he, hk, h, hq, hch => by
   simp only [List.range'_succ, mgo] at hq
   split at hq
   · rename_i o ho
     split at hq
     · rename_i e h1
       split at hq
       · rename_i suf' τ1 h2
         simp only [Option.some.injEq, Prod.mk.injEq] at hq
         obtain ⟨rfl, rfl⟩ := hq
         have hi : p[k]? = some e := by rw [he, List.getElem?_append_right (by omega), hk]; simp
         have hi' : (p.map MEnt.pl)[k]? = some e.pl := by rw [List.getElem?_map, hi]; rfl
         simp only [List.range'_succ, mchk, ho, hi, Bool.and_eq_true] at hch
         have hdk := hd _ (List.mem_of_getElem? hi)
         have hs : Has (s.at (objsK s p (cnt p (k + 1)))) (p.map MEnt.pl) (· < k + 1) (mapp τ e) := by
           have h3 : Has (s.at (objsK s p (cnt p (k + 1)))) (p.map MEnt.pl) (· < k) (τ.at (objsK s p (cnt p (k + 1)))) := h.at
           have h4 := h3.step hp hi' (by exact hdk) (L' := (· < k + 1)) (fun j => by omega)
           have e1 : mapp τ e = (τ.at (objsK s p (cnt p (k + 1)))).setT e.pl.1 e.pl.2.2 := by
             have e2 : (mapp τ e).objs = objsK s p (cnt p (k + 1)) := by
               rw [mapp_objs, cnt_succ hi]
               cases hob : e.ob with
               | none => simp [h.objs]
               | some X => simp [objsK_succ hi hob]
             have e3 := mapp_tmps τ e
             generalize mapp τ e = u at e2 e3
             obtain ⟨ut, uo⟩ := u
             simp only at e2 e3
             subst e2; subst e3
             rfl
           rw [e1]; exact h4
         obtain ⟨a1, a2⟩ := mgo_has hp hd m (k + 1) (pre := pre ++ [e]) (by rw [he]; simp) (by simp [hk]) hs h2 hch.2
         refine ⟨by rw [show k + (m + 1) = k + 1 + m by omega]; exact a1, fun i q q1 q2 q3 => ?_⟩
         by_cases ei : i = k
         · subst ei
           rw [hi] at q3
           simp only [Option.some.injEq] at q3
           subst q3
           refine ⟨o, τ, ho, h, h1, fun hob => ?_, fun hob c hc hm => ?_⟩
           · obtain ⟨X, hX⟩ := Option.isSome_iff_exists.1 hob
             have := hch.1
             rw [hX] at this
             simp only at this
             split at this
             · rename_i hn; exact hn
             · cases this
           · have := hch.1
             rw [hob] at this
             simp only [List.all_eq_true, List.mem_range] at this
             have := this c (by omega)
             rw [hm] at this
             simp only [Bool.not_true, Bool.false_or, Bool.and_eq_true] at this
             obtain ⟨t1, t2⟩ := this
             refine ⟨by split at t1 <;> simp_all, ?_⟩
             split at t2
             · rename_i d cs v hq
               simp only [Bool.and_eq_true, beq_iff_eq] at t2
               obtain ⟨t3, t4, t5⟩ := t2
               show qstep T CT ops ⟨τ.tmps, objsK s p c⟩ o = _
               rw [hq, t3, E.eqbs_eq t4, SV.eqb_eq t5]
               rfl
             · cases t2
         · exact a2 i q (by omega) (by omega) q3
       · cases hq
     · cases hq
   · cases hq
theorem upds_objs_eq : ∀ (l : List (Nat × SOb)) {s τ : SSt}, τ.objs = s.objs → (τ.upds l).objs = (s.upds l).objs
 | [], _, _, h => h
 | (z, o) :: l, s, τ, h => upds_objs_eq l (s := s.setO z o) (τ := τ.setO z o) (by simp only [SSt.setO, h])
theorem fOp_same {T : TypeId → TI} {CT : Nat → Option Sig} {ops : Array Oper} {o : Oper} {key : Nat} (ho : τ.objs = s.objs) (hq : quietOp o = true) (h : ∀ t ∈ o.looksAt ops, τ.tmp t = s.tmp t) : fOp T CT key τ o = fOp T CT key s o :=
 fOp_loc (fun y => by unfold SSt.obj; rw [ho]) hq fun x hx t ht => by
   subst ht
   refine h t ?_
   unfold Oper.looksAt
   exact List.mem_append.2 (.inl (List.mem_filterMap.2 ⟨.tmp t, hx, rfl⟩))
structure MInv (Φ : Fns) (env : List D) (C : Cx) (s : SSt) (ops : Array Oper) (p : List MEnt) (fuel : Nat) (listed : Array Bool) (a : Act) (w : World) : Prop where
 size : listed.size = ops.size
 fuel : listed.toList.count false ≤ fuel
 closed : ∀ i j, listed.getD i false = true → binding ops i j = true → listed.getD j false = true
 tail : ∀ j, p.length ≤ j → ¬ listed.getD j false = true
 rel : ∃ g τ k, Rel C g (τ.den Φ env) a w ∧ Has (s.at (objsK s p k)) (p.map MEnt.pl) (fun i => listed.getD i false = true) τ ∧ k ≤ (p.filterMap (·.ob)).length ∧ ∀ (i : Nat) (e : MEnt), p[i]? = some e → e.ob.isSome = true → (listed.getD i false = true ↔ cnt p i < k)
theorem tail_sound {CT : Nat → Option Sig} (hCT : Told C.P Φ CT) {ops : Array Oper} {Q : Exit → Act → World → Prop} {s' : SSt} (hQ : ∀ a' w' g', Rel C g' (s'.den Φ env) a' w' → Q .normal a' w') :
   ∀ (fuel i : Nat) (listed : Array Bool) {g : Gh} {s : SSt} {a : Act} {w : World} {cs : List E}, i ≤ ops.size → listed.size = ops.size → listed.toList.count false ≤ fuel → (∀ j, i ≤ j → j < ops.size → tailOk ops j = true) → (∀ j, j < ops.size → (listed.getD j false = true ↔ j < i)) →
     Rel C g (s.den Φ env) a w → srun C.T CT ops (List.range' i (ops.size - i)) s = some (cs, s') → holds Φ env cs → wpAny C.P .any ops Q fuel listed a w := by
 intro fuel
 have ready : ∀ (i : Nat) (listed : Array Bool), listed.size = ops.size → (∀ j, i ≤ j → j < ops.size → tailOk ops j = true) → (∀ j, j < ops.size → (listed.getD j false = true ↔ j < i)) → ∀ j, j ∈ Region.ready .any ops listed → j = i ∧ i < ops.size := fun i listed hs ht hl j hj => by
   obtain ⟨h1, o, ho, hall⟩ := mem_ready.1 hj
   have hlt := (Array.getElem?_eq_some_iff.1 ho).1
   have hls : j < listed.size := by omega
   have hge : ¬ j < i := fun h => by
     have := (hl j hlt).2 h
     simp [hls] at h1 this
     rw [h1] at this; cases this
   refine ⟨?_, by omega⟩
   have hne : ¬ i < j := fun h => by
     have h2 := ht j (by omega) hlt
     simp only [tailOk, Bool.and_eq_true, List.all_eq_true, List.mem_range] at h2
     have := (hl i (by omega)).1 (binding_ready hj (h2.2 i h))
     omega
   omega
 have isready : ∀ (i : Nat) (listed : Array Bool), i < ops.size → listed.size = ops.size → (∀ j, i ≤ j → j < ops.size → tailOk ops j = true) → (∀ j, j < ops.size → (listed.getD j false = true ↔ j < i)) → i ∈ Region.ready .any ops listed := fun i listed hi hs ht hl => by
   refine mem_ready.2 ⟨?_, ops[i], by simp [hi], fun e hem hb => ?_⟩
   · have : ¬ listed.getD i false = true := fun h => by have := (hl i hi).1 h; omega
     have hls : i < listed.size := by omega
     simp [hls] at this ⊢
     exact this
   · have h2 := ht i (Nat.le_refl _) hi
     simp only [tailOk, Bool.and_eq_true] at h2
     have h3 := h2.1
     rw [show ops[i]? = some ops[i] by simp [hi]] at h3
     simp only [List.all_eq_true] at h3
     have h4 := h3 e (Array.mem_toList_iff.2 hem)
     rw [hb] at h4
     have h5 : e.on < i := by simpa using h4
     exact (hl e.on (by omega)).2 h5
 induction fuel with
 | zero =>
   intro i listed g s a w cs hi hs hf ht hl R hr hc
   have hin : i = ops.size := by
     by_cases h : i < ops.size
     · have hls : i < listed.size := by omega
       have : ¬ listed.getD i false = true := fun h' => by have := (hl i h).1 h'; omega
       have h1 : listed[i] = false := by simpa [hls] using this
       have h2 : List.count false listed.toList = 0 := by omega
       exact absurd (by rw [← h1]; exact Array.mem_toList_iff.2 (Array.getElem_mem hls)) (List.count_eq_zero.1 h2)
     · omega
   subst hin
   rw [Nat.sub_self] at hr
   simp only [List.range'_zero, srun, Option.some.injEq, Prod.mk.injEq] at hr
   obtain ⟨_, rfl⟩ := hr
   refine ⟨List.eq_nil_iff_forall_not_mem.2 fun j hj => ?_, hQ a w g R⟩
   have := ready _ listed hs ht hl j hj
   omega
 | succ fuel ih =>
   intro i listed g s a w cs hi hs hf ht hl R hr hc
   refine ⟨fun hnil => ?_, fun j hj => ?_⟩
   · by_cases h : i < ops.size
     · have := isready i listed h hs ht hl
       rw [hnil] at this; cases this
     · have hin : i = ops.size := by omega
       subst hin
       rw [Nat.sub_self] at hr
       simp only [List.range'_zero, srun, Option.some.injEq, Prod.mk.injEq] at hr
       obtain ⟨_, rfl⟩ := hr
       exact hQ a w g R
   · obtain ⟨rfl, hlt⟩ := ready i listed hs ht hl j hj
     rw [show ops.size - j = (ops.size - (j + 1)) + 1 by omega, List.range'_succ] at hr
     simp only [srun] at hr
     split at hr
     · rename_i o ho
       split at hr
       · rename_i cs1 s1 h1
         split at hr
         · rename_i cs2 s2 h2
           simp only [Option.some.injEq, Prod.mk.injEq] at hr
           obtain ⟨rfl, rfl⟩ := hr
           have hls : j < listed.size := by omega
           have hjf : ¬ listed.getD j false = true := fun h' => by have := (hl j hlt).1 h'; omega
           have := sstep_sound R hCT h1 (fun e he => hc e (List.mem_append.2 (.inl he))) (wpAny C.P .any ops Q fuel (listed.setIfInBounds j true)) Q fun a' w' g' R' =>
             ih (j + 1) (listed.setIfInBounds j true) (by omega) (by simp [hs]) (by
               have hb : listed.toList[j]'(by simpa using hls) = false := by simpa [hls] using hjf
               have hpos : 0 < listed.toList.count false := List.count_pos_iff.2 (by rw [← hb]; exact List.getElem_mem _)
               rw [Array.toList_setIfInBounds, List.count_set (by simpa using hls), hb]
               show _ - 1 + 0 ≤ _
               omega) (fun q h3 h4 => ht q (by omega) h4) (fun q hq => by
                 by_cases e : j = q
                 · subst e; simp [hls]
                 · rw [getD_set_ne false e, hl q hq]; omega) R' h2 (fun e he => hc e (List.mem_append.2 (.inr he)))
           unfold wpOp
           simp only [ho]
           split at this
           · rename_i hw; rw [if_pos hw]; exact .inl this
           · rename_i hw; rw [if_neg hw]; exact this
         · cases hr
       · cases hr
     · cases hr
theorem tailFrom_ok {ops : Array Oper} : ∀ (n : Nat), tailFrom ops n ≤ n ∧ ∀ j, tailFrom ops n ≤ j → j < n → tailOk ops j = true
 | 0 => ⟨Nat.le_refl _, fun j _ h => by omega⟩
 | n + 1 => by
   obtain ⟨h1, h2⟩ := tailFrom_ok (ops := ops) n
   unfold tailFrom
   cases h : tailOk ops n with
   | true =>
     simp only [cond_true]
     refine ⟨by omega, fun j h3 h4 => ?_⟩
     by_cases e : j = n
     · subst e; exact h
     · exact h2 j h3 (by omega)
   | false =>
     simp only [cond_false]
     exact ⟨Nat.le_refl _, fun j h3 h4 => by omega⟩
theorem slook_obj (s : SSt) (x : Nat) : s.obj x = slook x s.objs := rfl
theorem many_sound {CT : Nat → Option Sig} (hCT : Told C.P Φ CT) {ops : Array Oper} {Q : Exit → Act → World → Prop} {s s1 s' : SSt} {p : List MEnt} {m : Nat} (hmn : m ≤ ops.size) (htl : ∀ j, m ≤ j → j < ops.size → tailOk ops j = true)
   (hq : mgo C.T CT ops (List.range m) s = some (p, s1)) (hok : mord ops p m = true) (hch : mchk C.T CT ops s p (List.range m) s = true) {cs : List E} (hr : srun C.T CT ops (List.range' m (ops.size - m)) s1 = some (cs, s'))
   (hc : ∀ e ∈ p, holds Φ env e.cs) (hc' : holds Φ env cs) (hQ : ∀ a' w' g', Rel C g' (s'.den Φ env) a' w' → Q .normal a' w') :
   ∀ (fuel : Nat) (listed : Array Bool) (a : Act) (w : World), MInv Φ env C s ops p fuel listed a w → wpAny C.P .any ops Q fuel listed a w := by
 have hlen := mgo_length _ hq
 rw [List.length_range] at hlen
 simp only [mord, List.all_eq_true, List.mem_range, Bool.and_eq_true] at hok
 have hget : ∀ i, i < m → ∃ e, p[i]? = some e := fun i hi => ⟨p[i], List.getElem?_eq_getElem (by omega)⟩
 have hlt : ∀ i e, p[i]? = some e → i < m := fun i e h => by rw [← hlen]; exact (List.getElem?_eq_some_iff.1 h).1
 have pair : ∀ i j q r, p[i]? = some q → p[j]? = some r → ((i == j || !(q.d == r.d)) && ((!looksB ops i r.d || bif Nat.blt j i then binding ops i j else i == j || binding ops j i) && (!(q.ob.isSome && r.ob.isSome && cnt p j + 1 == cnt p i) || binding ops i j))) = true := fun i j q r h1 h2 => by
   have := (hok i (hlt i q h1)).2 j (hlt j r h2)
   rw [h1, h2] at this
   exact this
 have hpm : ∀ i, (p.map MEnt.pl)[i]? = (p[i]?).map MEnt.pl := fun i => List.getElem?_map
 have hap : Apart (p.map MEnt.pl) := fun i j q r h1 h2 he => by
   rw [hpm, Option.map_eq_some_iff] at h1 h2
   obtain ⟨q', h1, rfl⟩ := h1
   obtain ⟨r', h2, rfl⟩ := h2
   have := pair i j q' r' h1 h2
   simp only [Bool.and_eq_true, Bool.or_eq_true, beq_iff_eq, Bool.not_eq_true', beq_eq_false_iff_ne] at this
   exact this.1.resolve_right fun h => h he
 have hdlen : ∀ (l : List Nat) {s0 s2 : SSt} {p0 : List MEnt}, mgo C.T CT ops l s0 = some (p0, s2) → ∀ e ∈ p0, e.d < s0.tmps.length := by
   intro l
   induction l with
   | nil => intro s0 s2 p0 h e he; simp only [mgo, Option.some.injEq, Prod.mk.injEq] at h; obtain ⟨rfl, _⟩ := h; cases he
   | cons i l ih =>
     intro s0 s2 p0 h e he
     simp only [mgo] at h
     split at h
     · rename_i o ho
       split at h
       · rename_i e0 h0
         split at h
         · rename_i p1 s3 h3
           simp only [Option.some.injEq, Prod.mk.injEq] at h
           obtain ⟨rfl, rfl⟩ := h
           have hd0 : e0.d < s0.tmps.length := by
             unfold mstep at h0
             split at h0
             · rename_i d cs v hq
               simp only [Option.some.injEq] at h0
               subst h0
               unfold qstep at hq
               split at hq
               · obtain ⟨h4, hq⟩ := bif_some hq
                 simp only [Bool.and_eq_true] at h4
                 split at hq
                 · obtain ⟨_, h5⟩ := bif_some hq
                   simp only [Option.some.injEq, Prod.mk.injEq] at h5
                   obtain ⟨rfl, _⟩ := h5
                   exact Nat.le_of_ble_eq_true h4.2
                 · cases hq
               · cases hq
             · split at h0
               · obtain ⟨h4, h0⟩ := bif_some h0
                 simp only [Bool.and_eq_true] at h4
                 split at h0
                 · simp only [Option.some.injEq] at h0
                   subst h0
                   exact Nat.le_of_ble_eq_true h4.2
                 · cases h0
               · cases h0
           rcases List.mem_cons.1 he with rfl | he
           · exact hd0
           · have := ih h3 e he
             rwa [mapp_tmps, List.length_set] at this
         · cases h
       · cases h
     · cases h
 have hd : ∀ e ∈ p, e.d < s.tmps.length := hdlen _ hq
 have h0 : Has (s.at (objsK s p (cnt p 0))) (p.map MEnt.pl) (fun i => i < 0) s := by
   refine ⟨?_, rfl, fun j q _ h => by omega, fun _ _ => rfl⟩
   show s.objs = objsK s p (cnt p 0)
   simp [cnt, objsK]
 rw [List.range_eq_range'] at hq hch
 obtain ⟨hfin, hsteps⟩ := mgo_has hap hd m 0 (pre := []) (by simp) rfl h0 hq hch
 simp only [Nat.zero_add] at hfin hsteps
 have fin : ∀ fuel listed a w, MInv Φ env C s ops p fuel listed a w → (∀ i, i < m → listed.getD i false = true) → wpAny C.P .any ops Q fuel listed a w := fun fuel listed a w I hall => by
   obtain ⟨g, τ, k, R, H, hk, hke⟩ := I.rel
   have hkk : k = cnt p m := by
     have h1 : cnt p m ≤ k := by
       by_cases h : k < cnt p m
       · obtain ⟨j, e, hj, hje, hob, hcj⟩ := cnt_prev (p := p) (i := m) (c := cnt p m - 1) (by omega) (by omega)
         have := (hke j e hje hob).1 (hall j hj)
         omega
       · omega
     have h2 : cnt p m = (p.filterMap (·.ob)).length := by unfold cnt; rw [← hlen, List.take_length]
     omega
   subst hkk
   have hts : ∀ t, τ.tmp t = s1.tmp t := fun t => by
     by_cases h : ∃ (j : Nat) (q : Nat × List E × SV), (p.map MEnt.pl)[j]? = some q ∧ q.1 = t
     · obtain ⟨j, q, hj, rfl⟩ := h
       have hjm : j < m := by rw [hpm, Option.map_eq_some_iff] at hj; obtain ⟨e, h1, _⟩ := hj; exact hlt j e h1
       rw [H.new j q hj (hall j hjm), hfin.new j q hj hjm]
     · rw [H.old t fun j q hj _ he => h ⟨j, q, hj, he⟩, hfin.old t fun j q hj _ he => h ⟨j, q, hj, he⟩]
   have R1 : Rel C g (s1.den Φ env) a w := by
     refine R.retmps ?_ ?_ fun t v hv => ?_
     · simp only [SSt.den, H.objs, hfin.objs]
     · simp only [SSt.den, List.length_map, H.len, hfin.len]
     · rw [SSt.den_tmp] at hv ⊢
       rw [← hts]
       exact hv
   refine tail_sound hCT hQ fuel m listed hmn I.size I.fuel htl (fun j hj => ⟨fun h => ?_, fun h => hall j h⟩) R1 hr hc'
   by_cases h' : j < m
   · exact h'
   · exact absurd h (I.tail j (by omega))
 intro fuel
 induction fuel with
 | zero =>
   intro listed a w I
   refine fin 0 listed a w I fun i hi => ?_
   have h2 : List.count false listed.toList = 0 := by have := I.fuel; omega
   have hls : i < listed.size := by rw [I.size]; omega
   have : listed[i] ≠ false := fun e => (List.count_eq_zero.1 h2) (by rw [← e]; exact Array.mem_toList_iff.2 (Array.getElem_mem hls))
   simpa [hls] using this
 | succ fuel ih =>
   intro listed a w I
   by_cases hall : ∀ i, i < m → listed.getD i false = true
   · exact fin _ listed a w I hall
   obtain ⟨g, τ, k, R, H, hk, hke⟩ := I.rel
   refine ⟨fun hnil => ?_, fun i hi => ?_⟩
   · -- something is ready
     refine absurd (fun i => ?_) hall
     induction i using Nat.strongRecOn with
     | _ i ihi =>
       intro hi
       by_cases he : listed.getD i false = true
       · exact he
       exfalso
       have hls : i < listed.size := by rw [I.size]; omega
       have hm : i ∈ Region.ready .any ops listed := by
         refine mem_ready.2 ⟨by simp [hls] at he ⊢; exact he, ops[i], by simp [show i < ops.size by omega], fun e hem hb => ?_⟩
         have h1 := (hok i hi).1
         rw [show ops[i]? = some ops[i] by simp [show i < ops.size by omega]] at h1
         simp only [List.all_eq_true] at h1
         have h2 := h1 e (Array.mem_toList_iff.2 hem)
         rw [hb] at h2
         have h3 : e.on < i := by simpa using h2
         exact ihi e.on h3 (by omega)
       rw [hnil] at hm
       cases hm
   · obtain ⟨hun, o, ho, hallb⟩ := mem_ready.1 hi
     have hilt : i < ops.size := (Array.getElem?_eq_some_iff.1 ho).1
     have him : i < m := by
       by_cases h : i < m
       · exact h
       exfalso
       have h2 := htl i (by omega) hilt
       simp only [tailOk, Bool.and_eq_true, List.all_eq_true, List.mem_range] at h2
       exact hall fun j hj => binding_ready hi (h2.2 j (by omega))
     obtain ⟨e, hpi⟩ := hget i him
     obtain ⟨o', τi, ho', Hi, hstep, hkey1, hkey2⟩ := hsteps i e (by omega) him hpi
     rw [ho] at ho'
     simp only [Option.some.injEq] at ho'
     subst ho'
     have hls : i < listed.size := by rw [I.size]; exact hilt
     have hif : ¬ listed.getD i false = true := by simp [hls] at hun ⊢; exact hun
     have hsame : ∀ t ∈ o.looksAt ops, τ.tmp t = τi.tmp t := fun t ht => by
       by_cases hex : ∃ (j : Nat) (r : MEnt), p[j]? = some r ∧ r.d = t
       · obtain ⟨j, r, hj, rfl⟩ := hex
         have hjp : (p.map MEnt.pl)[j]? = some r.pl := by rw [hpm, hj]; rfl
         have hlk : looksB ops i r.d = true := by
           unfold looksB
           rw [ho]
           exact List.any_eq_true.2 ⟨r.d, ht, by simp⟩
         have hp2 := pair i j e r hpi hj
         simp only [hlk, Bool.not_true, Bool.false_or, Bool.and_eq_true] at hp2
         have hp2 := hp2.2.1
         have none' : ¬ listed.getD j false = true → ¬ j < i → τ.tmp r.d = τi.tmp r.d := fun n1 n2 => by
           rw [H.old r.d fun k' q' hk' hL he => n1 (by rw [← hap k' j q' r.pl hk' hjp he]; exact hL), Hi.old r.d fun k' q' hk' hL he => n2 (by rw [← hap k' j q' r.pl hk' hjp he]; exact hL)]
           rfl
         cases hji : Nat.blt j i with
         | true =>
           rw [hji] at hp2
           have h1 := binding_ready hi hp2
           rw [show r.d = r.pl.1 from rfl, H.new j r.pl hjp h1, Hi.new j r.pl hjp (Nat.le_of_ble_eq_true hji)]
         | false =>
           rw [hji] at hp2
           have hnlt : ¬ j < i := fun h => by
             have : Nat.blt j i = true := Nat.ble_eq_true_of_le h
             rw [this] at hji; cases hji
           simp only [cond_false, Bool.or_eq_true, beq_iff_eq] at hp2
           rcases hp2 with h1 | h1
           · subst h1; exact none' hif hnlt
           · exact none' (fun hl => hif (I.closed j i hl h1)) hnlt
       · have hex' : ∀ (k' : Nat) (q' : Nat × List E × SV), (p.map MEnt.pl)[k']? = some q' → q'.1 ≠ t := fun k' q' hk' he => by
           rw [hpm, Option.map_eq_some_iff] at hk'
           obtain ⟨r, h1, rfl⟩ := hk'
           exact hex ⟨k', r, h1, he⟩
         rw [H.old t fun k' q' hk' _ he => hex' k' q' hk' he, Hi.old t fun k' q' hk' _ he => hex' k' q' hk' he]
         rfl
     have hmq : e ∈ p := List.mem_of_getElem? hpi
     have hip : (p.map MEnt.pl)[i]? = some e.pl := by rw [hpm, hpi]; rfl
     have hset : ∀ j, (listed.setIfInBounds i true).getD j false = true ↔ listed.getD j false = true ∨ j = i := fun j => by
       by_cases e : i = j
       · subst e; simp [hls]
       · rw [getD_set_ne false e]
         exact ⟨.inl, fun h => h.resolve_right fun h => e h.symm⟩
     have hcount : (listed.setIfInBounds i true).toList.count false ≤ fuel := by
       refine Nat.lt_succ_iff.1 (Nat.lt_of_lt_of_le ?_ I.fuel)
       have hb : listed.toList[i]'(by simpa using hls) = false := by simpa [hls] using hun
       have hpos : 0 < listed.toList.count false := List.count_pos_iff.2 (by rw [← hb]; exact List.getElem_mem _)
       rw [Array.toList_setIfInBounds, List.count_set (by simpa using hls), hb]
       show _ - 1 + 0 < _
       omega
     have hclosed : ∀ j k, (listed.setIfInBounds i true).getD j false = true → binding ops j k = true → (listed.setIfInBounds i true).getD k false = true := fun j k hj hb => by
       rcases (hset j).1 hj with h1 | h1
       · exact (hset k).2 (.inl (I.closed j k h1 hb))
       · subst h1
         exact (hset k).2 (.inl (binding_ready hi hb))
     have htail : ∀ j, p.length ≤ j → ¬ (listed.setIfInBounds i true).getD j false = true := fun j hj h => by
       rcases (hset j).1 h with h1 | h1
       · exact I.tail j hj h1
       · omega
     have wrapUp : (if Region.wanted o (yielded ops a.tmps) = true then o.wp C.P a w (wpAny C.P .any ops Q fuel (listed.setIfInBounds i true)) Q else wpAny C.P .any ops Q fuel (listed.setIfInBounds i true) (a.put o.dst undef) w) →
         wpOp C.P ops Q i (wpAny C.P .any ops Q fuel (listed.setIfInBounds i true)) a w := fun this => by
       unfold wpOp
       simp only [ho]
       split at this
       · rename_i hw; rw [if_pos hw]; exact .inl this
       · rename_i hw; rw [if_neg hw]; exact this
     cases hob : e.ob with
     | none =>
       have hmay : mayAt ops p i k = true := by
         simp only [mayAt, List.all_eq_true, List.mem_range]
         intro j hj
         cases hpj : p[j]? with
         | none => rfl
         | some r =>
           simp only
           cases hrob : r.ob with
           | none => rfl
           | some X =>
             simp only [Bool.and_eq_true, Bool.or_eq_true, Bool.not_eq_true']
             have hr' : r.ob.isSome = true := by rw [hrob]; rfl
             refine ⟨?_, ?_⟩
             · cases hb : binding ops i j with
               | false => exact .inl rfl
               | true => exact .inr (Nat.ble_eq_true_of_le ((hke j r hpj hr').1 (binding_ready hi hb)))
             · cases hb : binding ops j i with
               | false => exact .inl rfl
               | true =>
                 refine .inr (Nat.ble_eq_true_of_le ?_)
                 have : ¬ cnt p j < k := fun h => hif (I.closed j i ((hke j r hpj hr').2 h) hb)
                 omega
       obtain ⟨hkn, hqs⟩ := hkey2 hob k hk hmay
       have hloc : qstep C.T CT ops τ o = some e.pl := by
         rw [qstep_loc (s := τi.at (objsK s p k)) (fun y => by unfold SSt.obj; rw [H.objs]) (by rw [H.len, Hi.len]) (fun t ht => hsame t ht), hqs]
       have hkτ : τ.obj (e.d * 64) = none := by rw [slook_obj, H.objs]; exact hkn
       exact wrapUp (qstep_sound R hCT hloc hkτ (hc e hmq) (wpAny C.P .any ops Q fuel (listed.setIfInBounds i true)) Q fun a' w' g' R' => ih _ a' w' ⟨by simp [I.size], hcount, hclosed, htail, g', _, k, R', H.step hap hip (hd _ hmq) hset, hk, fun j r hj hr' => by
         rw [hset, ← hke j r hj hr']
         refine ⟨fun h => h.resolve_right fun h => ?_, .inl⟩
         subst h
         rw [hpi] at hj
         simp only [Option.some.injEq] at hj
         subst hj
         rw [hob] at hr'; cases hr'⟩)
     | some X =>
       have heob : e.ob.isSome = true := by rw [hob]; rfl
       have hge : ¬ cnt p i < k := fun h => hif ((hke i e hpi heob).2 h)
       have hki : k = cnt p i := by
         cases hci : cnt p i with
         | zero => omega
         | succ c =>
           obtain ⟨j, r, hji, hpj, hrob, hcj⟩ := cnt_prev (p := p) (i := i) (c := c) (by omega) hci
           have hp2 := pair i j e r hpi hpj
           simp only [Bool.and_eq_true] at hp2
           have hb := hp2.2.2
           rw [heob, hrob, hcj, hci] at hb
           simp only [Bool.and_self, beq_self_eq_true, Bool.not_true, Bool.false_or] at hb
           have := (hke j r hpj hrob).1 (binding_ready hi hb)
           omega
       subst hki
       unfold mstep at hstep
       split at hstep
       · simp only [Option.some.injEq] at hstep
         subst hstep
         cases hob
       · split at hstep
         · rename_i d hod hog
           obtain ⟨h4, h5⟩ := bif_some hstep
           clear hstep
           simp only [Bool.and_eq_true] at h4
           split at h5
           · rename_i r hfr
             simp only [Option.some.injEq] at h5
             subst h5
             have hobj : τ.objs = τi.objs := by rw [H.objs, Hi.objs]
             have hfr' : fOp C.T CT (d * 64) τ o = some r := by rw [fOp_same hobj h4.1 hsame, hfr]
             have hkτ : τ.obj (d * 64) = none := by rw [slook_obj, hobj]; exact hkey1 heob
             have hw : Region.wanted o (yielded ops a.tmps) = true := by unfold Region.wanted; rw [hog]
             refine wrapUp ?_
             rw [if_pos hw]
             have hdn : d < C.n := by
               have h6 := hd _ hmq
               rw [← R.slen, H.len]
               exact h6
             refine good_fOp R hCT hkτ hfr' (hc _ hmq) _ Q fun v w' g' hv R' => ?_
             have R2 := R'.put hdn hv
             have hX : (τi.upds r.upd).objs = X := by simpa using hob
             have e1 : (τ.upds r.upd).setT d r.v = ((τ.at X).setT d r.v) := by
               have e2 : (τ.upds r.upd).objs = X := by rw [upds_objs_eq _ hobj]; exact hX
               have e3 := SSt.upds_tmps r.upd τ
               generalize τ.upds r.upd = u at e2 e3
               obtain ⟨ut, uo⟩ := u
               simp only at e2 e3
               subst e2; subst e3
               rfl
             rw [← SSt.den_setT, e1] at R2
             have hOX : objsK s p (cnt p i + 1) = X := objsK_succ hpi hob
             refine ih _ _ w' ⟨by simp [I.size], hcount, hclosed, htail, g', _, cnt p i + 1, by rw [hod]; exact R2, ?_, ?_, fun j q hj hq' => ?_⟩
             · have h7 : Has (s.at (objsK s p (cnt p i + 1))) (p.map MEnt.pl) (fun i => listed.getD i false = true) (τ.at (objsK s p (cnt p i + 1))) := H.at
               rw [hOX] at h7 ⊢
               exact h7.step hap hip (hd _ hmq) hset
             · have := cnt_succ hpi
               rw [if_pos heob] at this
               rw [← this]
               exact cnt_le_all _
             · rw [hset, hke j q hj hq']
               constructor
               · rintro (h8 | rfl)
                 · omega
                 · omega
               · intro h8
                 by_cases h9 : cnt p j < cnt p i
                 · exact .inl h9
                 · right
                   rcases Nat.lt_trichotomy j i with h10 | h10 | h10
                   · have := cnt_lt hj hq' h10; omega
                   · exact h10
                   · have := cnt_lt hpi heob h10; omega
           · cases h5
         · cases hstep
theorem mrun_sound {CT : Nat → Option Sig} (hCT : Told C.P Φ CT) (hm : C.P.follows .mixedOrders = true) {ops : Array Oper} {id : Nat} {Q : Exit → Act → World → Prop} {cs : List E} {s' : SSt} (R : Rel C g (s.den Φ env) a w)
   (h : mrun C.T CT ops s = some (cs, s')) (hc : holds Φ env cs) (hQ : ∀ a' w' g', Rel C g' (s'.den Φ env) a' w' → Q .normal a' w') : (Code.region id ops true).wp C.P Q a w := by
 unfold mrun at h
 obtain ⟨t1, t2⟩ := tailFrom_ok (ops := ops) ops.size
 split at h
 · rename_i p s1 hq
   obtain ⟨h1, h2⟩ := bif_some h
   clear h
   simp only [Bool.and_eq_true] at h1
   split at h2
   · rename_i cs2 s2 hr
     simp only [Option.some.injEq, Prod.mk.injEq] at h2
     obtain ⟨rfl, rfl⟩ := h2
     obtain ⟨g1, R1⟩ := R.freeAll (dsts ops)
     have RR : Rel C g1 ((freeAll (dsts ops) s).den Φ env) a { w with drawn := w.drawn + 1 } := Rel.same (w := w) R1 rfl rfl rfl rfl
     have hno : ∀ i, ¬ (Array.replicate ops.size false).getD i false = true := fun i hL => by by_cases hlt : i < ops.size <;> simp [hlt] at hL
     have I : MInv Φ env C (freeAll (dsts ops) s) ops p ops.size (Array.replicate ops.size false) a { w with drawn := w.drawn + 1 } := by
       refine ⟨by simp, by simp, fun i j hi => absurd hi (hno i), fun j _ => hno j, g1, _, 0, RR, ⟨rfl, rfl, fun j q _ hL => absurd hL (hno j), fun _ _ => rfl⟩, Nat.zero_le _, fun i e _ _ => ⟨fun h => absurd h (hno i), fun h => by omega⟩⟩
     exact wp_region_any hm (many_sound hCT t1 t2 hq h1.1 h1.2 hr (fun e he x hx => hc x (List.mem_append.2 (.inl (List.mem_flatMap.2 ⟨e, he, hx⟩)))) (fun x hx => hc x (List.mem_append.2 (.inr hx))) hQ _ _ _ _ I)
   · cases h2
 · cases h
end
end Go.Vx
namespace Go.Vx
open Go.RowKit (Below)
inductive VC where
 /-- these hold -/
 | req (cs : List E) (t : VC)
 | ite (c : E) (x y : VC)
 /-- a loop: its name, its level, how many values it turns, of which kinds they are, which they are at first -/
 | loop (id l m : Nat) (fs : List (K × Nat)) (init : List E) (body : VC)
 | back (l : Nat) (es : List E)
 | ret (es : List E)
 /-- ways that come together: what is left behind that is asked once -/
 | join (id l m : Nat) (fs : List (K × Nat)) (x y : VC)
 deriving Inhabited
def allN : Nat → (List D → Prop) → Prop
 | 0, p => p []
 | n + 1, p => ∀ d : D, allN n fun l => p (d :: l)
theorem allN_iff : ∀ {n : Nat} {p : List D → Prop}, allN n p → ∀ l : List D, l.length = n → p l
 | 0, p, h, l, hl => by rw [List.eq_nil_of_length_eq_zero hl]; exact h
 | n + 1, p, h, d :: l, hl => allN_iff (h d) l (by simpa using hl)
 | n + 1, p, h, [], hl => by simp at hl
def conj (Φ : Fns) (env : List D) : List E → Prop
 | [] => True
 | c :: cs => (c.den Φ env).asBool = true ∧ conj Φ env cs
theorem conj_holds {Φ : Fns} {env : List D} : ∀ {cs : List E}, conj Φ env cs → holds Φ env cs
 | [], _ => fun _ h => by simp at h
 | c :: cs, h => fun e he => by
   rcases List.mem_cons.1 he with rfl | he
   · exact h.1
   · exact conj_holds h.2 e he
def kinds (env : List D) : List (K × Nat) → Prop → Prop
 | [], p => p
 | (k, i) :: l, p => WFD k (env.getD i default) → kinds env l p
theorem kinds_elim {env : List D} : ∀ {l : List (K × Nat)} {p : Prop}, kinds env l p → (∀ q ∈ l, WFD q.1 (env.getD q.2 default)) → p
 | [], p, h, _ => h
 | (k, i) :: l, p, h, hw => kinds_elim (h (hw (k, i) (by simp))) fun q hq => hw q (by simp [hq])
def setB (B : Nat → List D → Prop) (l : Nat) (p : List D → Prop) (j : Nat) : List D → Prop := if j = l then p else B j
def VC.wp (Φ : Fns) (post : List D → Prop) : VC → List D → (Nat → List D → Prop) → Prop
 | .req cs t, env, B => conj Φ env cs ∧ t.wp Φ post env B
 | .ite c x y, env, B => ((c.den Φ env).asBool = true → x.wp Φ post env B) ∧ ((c.den Φ env).asBool = false → y.wp Φ post env B)
 | .loop _ l m fs init body, env, B => ∃ (I : List D → Prop) (μ : List D → Nat), I (init.map (E.den Φ env)) ∧
     allN m fun vs => kinds (env ++ vs) fs (I vs → body.wp Φ post (env ++ vs) (setB B l fun v => I v ∧ μ v < μ vs))
 | .back l es, env, B => B l (es.map (E.den Φ env))
 | .ret es, env, _ => post (es.map (E.den Φ env))
 | .join _ l m fs x y, env, B => ∃ I : List D → Prop, x.wp Φ post env (setB B l I) ∧ allN m fun vs => kinds (env ++ vs) fs (I vs → y.wp Φ post (env ++ vs) B)
def firstId : Code → Option Nat
 | .region id _ _ => some id
 | .seq a b => match firstId a with | some i => some i | none => firstId b
 | .cond _ a b => match firstId a with | some i => some i | none => firstId b
 | .block _ c => firstId c
 | .loop c => firstId c
 | _ => none
inductive It where
 | code (c : Code)
 | blk (id : Nat)
 | lp (l n m : Nat) (H : SSt)
def lps : List It → Nat
 | [] => 0
 | .lp .. :: k => lps k + 1
 | _ :: k => lps k
def unwindTo (id : Nat) : List It → Option (List It)
 | [] => none
 | .blk i :: k => bif i == id then some k else unwindTo id k
 | _ :: k => unwindTo id k
def factsC (c : SC) : List (K × Nat) := match c with
 | .dat k (.var i) => [(k, i)]
 | _ => []
def factsV (v : SV) : List (K × Nat) := match v with
 | .one c => factsC c
 | .agg cs => cs.flatMap factsC
 | _ => []
def factsO (o : SOb) : List (K × Nat) := match o with
 | .arr t ks _ (.var i) => [(.sl t ks, i)]
 | .arx t ks (.var i) => [(.sl t ks, i)]
 | .box _ cs => cs.flatMap factsC
 | _ => []
def facts (n : Nat) (H : SSt) : List (K × Nat) := (H.tmps.flatMap factsV ++ H.objs.flatMap fun p => match H.obj p.1 with | some o => factsO o | none => []).filter fun q => Nat.ble n q.2
def implied (prev : List E) : Nat → E → Bool
 | 0, e => prev.any (E.eqb e)
 | f + 1, e => prev.any (E.eqb e) || match e with
   | .op .ite [c, d, .bool true] => E.eqb c d || implied prev f d
   | .op .eqi [a, b] => E.eqb a b
   | _ => false
def lookE : List (E × Bool) → E → Option Bool
 | [], _ => none
 | (x, b) :: σ, e => bif E.eqb e x then some b else lookE σ e
def bev (σ : List (E × Bool)) : Nat → E → Option Bool
 | 0, e => lookE σ e
 | f + 1, e => match e with
   | .bool b => some b
   | .op .not [a] => match bev σ f a with | some b => some (!b) | none => none
   | .op .ite [c, a, b] => match bev σ f c with
     | some true => bev σ f a
     | some false => bev σ f b
     | none => none
   | e => lookE σ e
def atom (σ : List (E × Bool)) : Nat → E → E
 | 0, e => e
 | f + 1, e => match e with
   | .op .not [a] => atom σ f a
   | .op .ite [c, a, b] => match bev σ f c with
     | some true => atom σ f a
     | some false => atom σ f b
     | none => atom σ f c
   | e => e
def taut : Nat → List (E × Bool) → E → Bool
 | 0, σ, e => match bev σ 20 e with | some b => b | none => false
 | n + 1, σ, e => match bev σ 20 e with
   | some b => b
   | none => taut n ((atom σ 20 e, true) :: σ) e && taut n ((atom σ 20 e, false) :: σ) e
def slim : List E → List E → List E
 | _, [] => []
 | prev, c :: cs => bif implied prev 4 c || taut 12 (prev.map fun x => (x, true)) c then slim prev cs else c :: slim (c :: prev) cs
theorem lookE_ok {Φ : Fns} {env : List D} : ∀ {σ : List (E × Bool)} {e : E} {b : Bool}, (∀ q ∈ σ, (q.1.den Φ env).asBool = q.2) → lookE σ e = some b → (e.den Φ env).asBool = b
 | [], _, _, _, h => by simp [lookE] at h
 | (x, c) :: σ, e, b, hs, h => by
   simp only [lookE] at h
   cases hx : E.eqb e x with
   | true =>
     rw [hx] at h
     simp only [cond_true, Option.some.injEq] at h
     rw [E.eqb_eq hx, ← h]
     exact hs (x, c) (by simp)
   | false =>
     rw [hx] at h
     exact lookE_ok (fun q hq => hs q (by simp [hq])) h
theorem bev_ok {Φ : Fns} {env : List D} {σ : List (E × Bool)} (hs : ∀ q ∈ σ, (q.1.den Φ env).asBool = q.2) : ∀ (f : Nat) (e : E) (b : Bool), bev σ f e = some b → (e.den Φ env).asBool = b := by
 intro f
 induction f with
 | zero => intro e b h; exact lookE_ok hs h
 | succ f ih =>
   intro e b h
   simp only [bev] at h
   split at h
   · simp only [Option.some.injEq] at h; subst h; rfl
   · rename_i a
     split at h
     · rename_i c hc
       simp only [Option.some.injEq] at h
       subst h
       have h1 := ih a c hc
       show (D.bool (!((E.den Φ env a).asBool))).asBool = !c
       rw [h1]; rfl
     · cases h
   · rename_i c x y
     simp only [E.den, E.dens, opD, List.getD_cons_zero, List.getD_cons_succ]
     split at h
     · rename_i hc
       rw [if_pos (ih c true hc)]
       exact ih x b h
     · rename_i hc
       rw [if_neg (by rw [ih c false hc]; exact Bool.false_ne_true)]
       exact ih y b h
     · cases h
   · exact lookE_ok hs h
theorem taut_ok {Φ : Fns} {env : List D} : ∀ (n : Nat) {σ : List (E × Bool)} {e : E}, (∀ q ∈ σ, (q.1.den Φ env).asBool = q.2) → taut n σ e = true → (e.den Φ env).asBool = true
 | 0, σ, e, hs, h => by
   simp only [taut] at h
   split at h
   · rename_i b hb; rw [bev_ok hs _ _ _ hb]; exact h
   · cases h
 | n + 1, σ, e, hs, h => by
   simp only [taut] at h
   split at h
   · rename_i b hb; rw [bev_ok hs _ _ _ hb]; exact h
   · simp only [Bool.and_eq_true] at h
     cases hx : ((atom σ 20 e).den Φ env).asBool with
     | true => exact taut_ok n (σ := (atom σ 20 e, true) :: σ) (fun q hq => (List.mem_cons.1 hq).elim (fun hq => hq ▸ hx) (hs q)) h.1
     | false => exact taut_ok n (σ := (atom σ 20 e, false) :: σ) (fun q hq => (List.mem_cons.1 hq).elim (fun hq => hq ▸ hx) (hs q)) h.2
def req (cs : List E) (t : VC) : VC := match slim [] cs with
 | [] => t
 | cs => .req cs t
theorem implied_ok {Φ : Fns} {env : List D} {prev : List E} (hp : holds Φ env prev) : ∀ (f : Nat) (e : E), implied prev f e = true → (e.den Φ env).asBool = true := by
 have hmem : ∀ e, (prev.any (E.eqb e)) = true → (e.den Φ env).asBool = true := fun e h => by
   obtain ⟨x, hx, he⟩ := List.any_eq_true.1 h
   rw [E.eqb_eq he]
   exact hp x hx
 intro f
 induction f with
 | zero => intro e h; exact hmem e h
 | succ f ih =>
   intro e h
   simp only [implied, Bool.or_eq_true] at h
   rcases h with h | h
   · exact hmem e h
   · split at h
     · rename_i c d
       simp only [Bool.or_eq_true] at h
       have hd : (E.den Φ env c).asBool = true → (E.den Φ env d).asBool = true := fun hc => by
         rcases h with h | h
         · rw [← E.eqb_eq h]; exact hc
         · exact ih d h
       simp only [E.den, E.dens, opD, List.getD_cons_zero, List.getD_cons_succ]
       split
       · rename_i hc; exact hd hc
       · rfl
     · rename_i a b
       rw [E.eqb_eq h]
       simp [E.den, E.dens, opD, D.asBool]
     · cases h
theorem slim_ok {Φ : Fns} {env : List D} : ∀ {cs prev : List E}, holds Φ env prev → holds Φ env (slim prev cs) → holds Φ env cs
 | [], _, _, _ => fun _ h => by simp at h
 | c :: cs, prev, hp, hs => by
   simp only [slim] at hs
   cases hc : implied prev 4 c || taut 12 (prev.map fun x => (x, true)) c with
   | true =>
     rw [hc] at hs
     have h1 : (c.den Φ env).asBool = true := by
       rcases Bool.or_eq_true _ _ ▸ hc with h | h
       · exact implied_ok hp 4 c h
       · refine taut_ok 12 (fun q hq => ?_) h
         obtain ⟨x, hx, rfl⟩ := List.mem_map.1 hq
         exact hp x hx
     have h2 := slim_ok (cs := cs) hp hs
     exact fun e he => by
       rcases List.mem_cons.1 he with rfl | he
       · exact h1
       · exact h2 e he
   | false =>
     rw [hc] at hs
     simp only [cond_false] at hs
     have h1 := hs c (by simp)
     have h2 := slim_ok (cs := cs) (prev := c :: prev) (fun e he => by
       rcases List.mem_cons.1 he with rfl | he
       · exact h1
       · exact hp e he) fun e he => hs e (by simp [he])
     exact fun e he => by
       rcases List.mem_cons.1 he with rfl | he
       · exact h1
       · exact h2 e he
def drawn (T : TypeId → TI) (CT : Nat → Option Sig) (ops : Array Oper) (s : SSt) : Option (List E × SSt) := match drun T CT ops s with
 | some r => some r
 | none => match mrun T CT ops s with
   | some r => some r
   | none => arun T CT ops s
theorem drawn_sound {Φ : Fns} {env : List D} {C : Cx} {g : Gh} {s : SSt} {a : Act} {w : World} {CT : Nat → Option Sig} {ops : Array Oper} (hCT : Told C.P Φ CT) (hm : C.P.follows .mixedOrders = true) {id : Nat} {Q : Exit → Act → World → Prop} {cs : List E} {s' : SSt} (R : Rel C g (s.den Φ env) a w)
   (h : drawn C.T CT ops s = some (cs, s')) (hc : holds Φ env cs) (hQ : ∀ a' w' g', Rel C g' (s'.den Φ env) a' w' → Q .normal a' w') : (Code.region id ops true).wp C.P Q a w := by
 unfold drawn at h
 split at h
 · rename_i r hr
   simp only [Option.some.injEq] at h
   subst h
   exact draw_sound hCT hm R hr hc hQ
 · split at h
   · rename_i r hr
     simp only [Option.some.injEq] at h
     subst h
     exact mrun_sound hCT hm R hr hc hQ
   · exact arun_sound hCT hm R h hc hQ
def crun (T : TypeId → TI) (CT : Nat → Option Sig) (ops : Array Oper) (K : SSt → Option VC) : List Nat → List (List E) → SSt → Option VC
 | [], _, s => K s
 | i :: l, N, s => match ops[i]? with
   | some o => match sstep T CT ops s o with
     | some (cs, s1) => match crun T CT ops K l N s1 with
       | some t => some (req cs t)
       | none => none
     | none => match sskip N ops s o with
       | some s1 => crun T CT ops K l N s1
       | none => match spick T N ops s o with
         | some s1 => crun T CT ops K l N s1
         | none => match ssplit T CT ops s o with
           | some (gs, cs, s1, s2) => match crun T CT ops K l N s1, crun T CT ops K l (gs :: N) s2 with
             | some t, some u => some (.ite (andE gs) (req cs t) u)
             | _, _ => none
           | none => none
   | none => none
def run (T : TypeId → TI) (CT : Nat → Option Sig) (G : Nat → SSt → Code → List It → Option (SSt × Nat)) (end' : SSt → Option (List E)) : Nat → Nat → SSt → List It → Option VC
 | 0, _, _, _ => none
 | _ + 1, _, s, [] => match end' s with | some es => some (.ret es) | none => none
 | f + 1, n, s, .blk _ :: k => run T CT G end' f n s k
 | _ + 1, _, s, .lp l n m H :: _ => match fit n m H s with | some es => some (.back l es) | none => none
 | f + 1, n, s, .code c :: k => match c with
   | .skip => run T CT G end' f n s k
   | .seq x y => match G n s (.loop (.seq x y)) k with
     | some (H, m) => match run T CT G end' f n s (.code x :: .lp (lps k) n m H :: k), run T CT G end' f (n + m) H (.code y :: k) with
       | some t, some u => some (.join ((firstId y).getD 0) (lps k) m (facts n H) t u)
       | _, _ => none
     | none => run T CT G end' f n s (.code x :: .code y :: k)
   | .region _ ops draw => match (bif draw then drawn T CT ops s else srun T CT ops (List.range ops.size) s) with
     | some (cs, s') => match run T CT G end' f n s' k with
       | some t => some (req cs t)
       | none => none
     | none => bif draw then none else crun T CT ops (fun s' => run T CT G end' f n s' k) (List.range ops.size) [] s
   | .cond x a b => match (sev T 0 s x).dn with
     | .one (.dat .bool (.bool true)) => run T CT G end' f n s (.code a :: k)
     | .one (.dat .bool (.bool false)) => run T CT G end' f n s (.code b :: k)
     | .one (.dat .bool e) => match run T CT G end' f n s (.code a :: k), run T CT G end' f n s (.code b :: k) with
       | some t, some u => some (.ite e t u)
       | _, _ => none
     | _ => none
   | .block id c => run T CT G end' f n s (.code c :: .blk id :: k)
   | .exit id => match unwindTo id k with
     | some k' => run T CT G end' f n s k'
     | none => none
   | .ret => match end' s with | some es => some (.ret es) | none => none
   | .loop c => match G n s c k with
     | some (H, m) => match fit n m H s with
       | some init => match run T CT G end' f (n + m) H (.code c :: .lp (lps k) n m H :: k) with
         | some t => some (.loop ((firstId c).getD 0) (lps k) m (facts n H) init t)
         | none => none
       | none => none
     | none => none
   | _ => none
theorem least {p : Nat → Prop} : ∀ n, p n → ∃ m, p m ∧ ∀ j, p j → m ≤ j := by
 intro n
 induction n using Nat.strongRecOn with
 | _ n ih =>
   intro h
   by_cases hx : ∃ j, j < n ∧ p j
   · obtain ⟨j, hj, hp⟩ := hx
     exact ih j hj hp
   · exact ⟨n, h, fun j hj => Nat.le_of_not_lt fun hlt => hx ⟨j, hlt, hj⟩⟩
open Classical in
theorem wp_loop_ix {P : Program} {Q : Exit → Act → World → Prop} {a : Act} {w : World} {c : Code} {I : Nat → Act → World → Prop} {N : Nat} (h0 : I N a w)
   (round : ∀ N a w, I N a w → c.wp P (Exit.then (fun a' w' => ∃ N', N' < N ∧ I N' a' w') Q) a w) : (Code.loop c).wp P Q a w := by
 have L : ∀ a w, (∃ N, I N a w) → ∃ m, I m a w ∧ ∀ j, I j a w → m ≤ j := fun a w ⟨N, h⟩ => least N h
 refine wp_loop (fun a w => ∃ N, I N a w) (fun a w => if h : ∃ N, I N a w then Classical.choose (L a w h) else 0) ⟨N, h0⟩ fun a w h => ?_
 have hm := Classical.choose_spec (L a w h)
 refine wp_mono (round _ a w hm.1) fun e a' w' hq => ?_
 cases e with
 | normal =>
   obtain ⟨N', hlt, hI⟩ := hq
   refine ⟨⟨N', hI⟩, ?_⟩
   rw [dif_pos h, dif_pos ⟨N', hI⟩]
   exact Nat.lt_of_le_of_lt ((Classical.choose_spec (L a' w' ⟨N', hI⟩)).2 N' hI) hlt
 | _ => exact hq
section
variable {Φ : Fns} {C : Cx} {CT : Nat → Option Sig} {post : List D → Prop} {F : Exit → Act → World → Prop}
def Fits (Φ : Fns) (C : Cx) (F : Exit → Act → World → Prop) : List It → List D → (Nat → List D → Prop) → (Exit → Act → World → Prop) → Prop
 | [], _, _, Q => Q = F
 | .code c :: k, env, B, Q => ∃ Q', Fits Φ C F k env B Q' ∧ Q = Exit.then (c.wp C.P Q') Q'
 | .blk id :: k, env, B, Q => ∃ Q', Fits Φ C F k env B Q' ∧ Q = Exit.inBlock id Q'
 | .lp l n m H :: k, env, B, Q => ∃ Q' J, Fits Φ C F k env B Q' ∧ Q = Exit.then J Q' ∧ l = lps k ∧ n ≤ env.length ∧
     ∀ vs a w g, vs.length = m → Rel C g (H.den Φ (env.take n ++ vs)) a w → B l vs → J a w
theorem Fits.ext {B B' : Nat → List D → Prop} {env : List D} (x : List D) : ∀ {k : List It} {Q : Exit → Act → World → Prop}, Fits Φ C F k env B Q → (∀ j, j < lps k → B' j = B j) → Fits Φ C F k (env ++ x) B' Q
 | [], Q, h, _ => h
 | .code c :: k, Q, ⟨Q', h, e⟩, hB => ⟨Q', h.ext x hB, e⟩
 | .blk id :: k, Q, ⟨Q', h, e⟩, hB => ⟨Q', h.ext x hB, e⟩
 | .lp l n m H :: k, Q, ⟨Q', J, h, e, hl, hn, hJ⟩, hB => by
   refine ⟨Q', J, h.ext x fun j hj => hB j (by simp only [lps]; omega), e, hl, by simp; omega, fun vs a w g hv hr hb => ?_⟩
   rw [List.take_append_of_le_length hn] at hr
   rw [hB l (by simp only [lps]; omega)] at hb
   exact hJ vs a w g hv hr hb
theorem Fits.exit {B : Nat → List D → Prop} {env : List D} {id : Nat} : ∀ {k k' : List It} {Q : Exit → Act → World → Prop}, Fits Φ C F k env B Q → unwindTo id k = some k' → ∃ Q', Fits Φ C F k' env B Q' ∧ ∀ a w, Q' .normal a w → Q (.exit id) a w
 | [], k', Q, _, hu => by simp [unwindTo] at hu
 | .code c :: k, k', Q, ⟨Q', h, e⟩, hu => by
   obtain ⟨Q2, h1, h2⟩ := h.exit (k' := k') hu
   subst e
   exact ⟨Q2, h1, h2⟩
 | .blk i :: k, k', Q, ⟨Q', h, e⟩, hu => by
   subst e
   simp only [unwindTo] at hu
   cases hi : i == id with
   | true =>
     rw [hi] at hu
     simp only [cond_true, Option.some.injEq] at hu
     subst hu
     have : i = id := by simpa using hi
     subst this
     exact ⟨Q', h, fun a w hq => by simpa [Exit.inBlock] using hq⟩
   | false =>
     rw [hi] at hu
     obtain ⟨Q2, h1, h2⟩ := h.exit (k' := k') hu
     have : ¬ id = i := fun e => by subst e; simp at hi
     exact ⟨Q2, h1, fun a w hq => by simpa [Exit.inBlock, this] using h2 a w hq⟩
 | .lp l n m H :: k, k', Q, ⟨Q', J, h, e, _⟩, hu => by
   obtain ⟨Q2, h1, h2⟩ := h.exit (k' := k') hu
   subst e
   exact ⟨Q2, h1, h2⟩
theorem Fits.ret {B : Nat → List D → Prop} {env : List D} {a : Act} {w : World} (hF : F .ret a w) : ∀ {k : List It} {Q : Exit → Act → World → Prop}, Fits Φ C F k env B Q → Q .ret a w
 | [], Q, h => by rw [show Q = F from h]; exact hF
 | .code c :: k, Q, ⟨Q', h, e⟩ => by subst e; exact h.ret hF
 | .blk i :: k, Q, ⟨Q', h, e⟩ => by subst e; exact h.ret hF
 | .lp l n m H :: k, Q, ⟨Q', J, h, e, _⟩ => by subst e; exact h.ret hF
section
variable {env : List D} {g : Gh} {s : SSt} {a : Act} {w : World}
theorem facts_sound (R : Rel C g (s.den Φ env) a w) (n : Nat) : ∀ q ∈ facts n s, WFD q.1 (env.getD q.2 default) := by
 have cell : ∀ {c : SC} {v : Value}, RepAC (sur C g (s.den Φ env) w) (c.den Φ env) v → ∀ q ∈ factsC c, WFD q.1 (env.getD q.2 default) := fun {c v} hc q hq => by
   unfold factsC at hq
   split at hq
   · simp only [List.mem_singleton] at hq
     subst hq
     exact RepC.wf hc
   · simp at hq
 have cells : ∀ {cs : List SC} {vs : List Value}, RepACs (sur C g (s.den Φ env) w) (cs.map (SC.den Φ env)) vs → ∀ q ∈ cs.flatMap factsC, WFD q.1 (env.getD q.2 default) := by
   intro cs
   induction cs with
   | nil => intro vs _ q hq; simp at hq
   | cons c cs ih =>
     intro vs h q hq
     obtain ⟨v, vs', _, _, h1, h2⟩ := h
     rw [List.flatMap_cons] at hq
     rcases List.mem_append.1 hq with hq | hq
     · exact cell h1 q hq
     · exact ih h2 q hq
 intro q hq
 unfold facts at hq
 have hq := (List.mem_filter.1 hq).1
 rcases List.mem_append.1 hq with hq | hq
 · obtain ⟨v, hv, hq⟩ := List.mem_flatMap.1 hq
   obtain ⟨t, ht⟩ := List.getElem?_of_mem hv
   have hr := R.tmps t
   rw [SSt.den_tmp, show s.tmp t = v by simp [SSt.tmp, List.getD_eq_getElem?_getD, ht]] at hr
   unfold factsV at hq
   split at hq
   · exact cell hr.1 q hq
   · obtain ⟨vs, _, hr⟩ := hr
     exact cells hr q hq
   · simp at hq
 · obtain ⟨p, hp, hq⟩ := List.mem_flatMap.1 hq
   have hr := R.objs p.1
   unfold RepOb at hr
   split at hq
   · rename_i o ho
     have ho' := obj_is (Φ := Φ) (env := env) ho
     simp only [sur, ho'] at hr
     unfold factsO at hq
     split at hq
     · simp only [SOb.den] at hr
       obtain ⟨_, _, _, h2, _⟩ := hr
       simp only [List.mem_singleton] at hq
       subst hq
       exact h2
     · simp only [SOb.den] at hr
       obtain ⟨_, _, _, h2, _⟩ := hr
       simp only [List.mem_singleton] at hq
       subst hq
       exact h2
     · simp only [SOb.den] at hr
       obtain ⟨_, vs, _, _, _, hr⟩ := hr
       exact cells hr q hq
     · simp at hq
   · simp at hq
theorem Rel.bool (R : Rel C g (s.den Φ env) a w) {x : Operand} {e : E} (h : (sev C.T 0 s x).dn = .one (.dat .bool e)) : a.eval x = .bool (e.den Φ env).asBool := by
 have hr : RepC w (Me C.M (s.den Φ env).obj g.hd g.fp) .bool (a.eval x) (e.den Φ env) := R.datv (sev_dat h)
 exact hr
end
theorem wp_req {Φ : Fns} {post : List D → Prop} {cs : List E} {t : VC} {env : List D} {B : Nat → List D → Prop} (h : (req cs t).wp Φ post env B) : holds Φ env cs ∧ t.wp Φ post env B := by
 unfold req at h
 have h0 : holds Φ env ([] : List E) := fun _ h => by simp at h
 split at h
 · rename_i hs; exact ⟨slim_ok (cs := cs) h0 (by rw [hs]; exact h0), h⟩
 · exact ⟨slim_ok (cs := cs) h0 (conj_holds h.1), h.2⟩
theorem crun_sound {env : List D} {B : Nat → List D → Prop} (hCT : Told C.P Φ CT) {ops : Array Oper} {K : SSt → Option VC} {Q : Exit → Act → World → Prop} (hK : ∀ s' t a' w' g', K s' = some t → Rel C g' (SSt.den Φ env s') a' w' → t.wp Φ post env B → Q .normal a' w') :
   ∀ (l : List Nat) {N : List (List E)} {g : Gh} {s : SSt} {a : Act} {w : World} {t : VC}, (∀ ns ∈ N, ¬ holds Φ env ns) → Rel C g (s.den Φ env) a w → crun C.T CT ops K l N s = some t → t.wp Φ post env B → wpOps C.P ops Q l a w
 | [], N, g, s, a, w, t, _, R, h, ht => hK _ _ _ _ _ h R ht
 | i :: l, N, g, s, a, w, t, hN, R, h, ht => by
   simp only [crun] at h
   split at h
   · rename_i o ho
     have fin : (if Region.wanted o (yielded ops a.tmps) = true then o.wp C.P a w (wpOps C.P ops Q l) Q else wpOps C.P ops Q l (a.put o.dst undef) w) → wpOps C.P ops Q (i :: l) a w := fun this => by
       simp only [wpOps, ho]
       split at this
       · rename_i hw; rw [if_pos hw]; exact .inl this
       · rename_i hw; rw [if_neg hw]; exact this
     split at h
     · rename_i cs1 s1 h1
       split at h
       · rename_i t1 h2
         simp only [Option.some.injEq] at h
         subst h
         obtain ⟨h3, h4⟩ := wp_req ht
         exact fin (sstep_sound R hCT h1 h3 (wpOps C.P ops Q l) Q fun a' w' g' R' => crun_sound hCT hK l hN R' h2 h4)
       · cases h
     · split at h
       · rename_i s1 h1
         exact fin (sskip_sound R hN h1 (wpOps C.P ops Q l) Q fun a' w' g' R' => crun_sound hCT hK l hN R' h ht)
       · split at h
         · rename_i s1 h1
           exact fin (spick_sound R hN h1 (wpOps C.P ops Q l) Q fun a' w' g' R' => crun_sound hCT hK l hN R' h ht)
         · split at h
           · rename_i gs cs s1 s2 h1
             split at h
             · rename_i t1 t2 h2 h3
               simp only [Option.some.injEq] at h
               subst h
               have ha := andE_den (Φ := Φ) (env := env) gs
               refine fin (ssplit_sound R hCT h1 (fun hc => (wp_req (ht.1 (ha.2 hc))).1) (wpOps C.P ops Q l) Q (fun hc a' w' g' R' => crun_sound hCT hK l hN R' h2 (wp_req (ht.1 (ha.2 hc))).2) fun hc a' w' g' R' => crun_sound hCT hK l (fun ns hns => ?_) R' h3 (ht.2 ?_))
               · rcases List.mem_cons.1 hns with rfl | hns
                 · exact hc
                 · exact hN ns hns
               · cases hx : ((andE gs).den Φ env).asBool with
                 | true => exact absurd (ha.1 hx) hc
                 | false => rfl
             · cases h
           · cases h
   · cases h
def nrC : Code → Bool
 | .skip => true
 | .seq a b => nrC a && nrC b
 | .region _ _ _ => true
 | .cond _ a b => nrC a && nrC b
 | .block _ c => nrC c
 | .exit _ => true
 | .loop c => nrC c
 | _ => false
def nrK : List It → Bool
 | [] => true
 | .code c :: k => nrC c && nrK k
 | .blk _ :: k => nrK k
 | .lp _ _ _ _ :: k => nrK k
theorem nrK_unwind {id : Nat} : ∀ {k k' : List It}, nrK k = true → unwindTo id k = some k' → nrK k' = true
 | [], _, _, h => by simp [unwindTo] at h
 | .code c :: k, k', hn, h => by
   simp only [nrK, Bool.and_eq_true] at hn
   exact nrK_unwind (k := k) hn.2 h
 | .blk i :: k, k', hn, h => by
   simp only [unwindTo] at h
   cases hi : i == id with
   | true => rw [hi] at h; simp only [cond_true, Option.some.injEq] at h; subst h; exact hn
   | false => rw [hi] at h; exact nrK_unwind (k := k) hn h
 | .lp _ _ _ _ :: k, k', hn, h => nrK_unwind (k := k) hn h
theorem run_soundR (rt : Bool) (hm : C.P.follows .mixedOrders = true) (hCT : Told C.P Φ CT) {G : Nat → SSt → Code → List It → Option (SSt × Nat)} {end' : SSt → Option (List E)}
   (hend : ∀ env g s a w es, end' s = some es → Rel C g (SSt.den Φ env s) a w → post (es.map (E.den Φ env)) → F .normal a w ∧ (rt = true → F .ret a w)) :
   ∀ (f n : Nat) (s : SSt) (k : List It) (t : VC), run C.T CT G end' f n s k = some t → ∀ (env : List D) (B : Nat → List D → Prop) (Q : Exit → Act → World → Prop) (g : Gh) (a : Act) (w : World),
     (rt = true ∨ nrK k = true) → env.length = n → Fits Φ C F k env B Q → Rel C g (s.den Φ env) a w → t.wp Φ post env B → Q .normal a w := by
 intro f
 induction f with
 | zero => intro n s k t h; simp [run] at h
 | succ f ih =>
   intro n s k t h env B Q g a w hr hn hF R ht
   rcases k with _ | ⟨it, k⟩
   · simp only [run] at h
     split at h
     · rename_i es he
       simp only [Option.some.injEq] at h
       subst h
       rw [show Q = F from hF]
       exact (hend env g s a w es he R ht).1
     · cases h
   · cases it with
     | blk id =>
       obtain ⟨Q', hF, rfl⟩ := hF
       exact ih n s k t h env B Q' g a w hr hn hF R ht
     | lp l n' m H =>
       obtain ⟨Q', J, hF, rfl, hl, hle, hJ⟩ := hF
       simp only [run] at h
       split at h
       · rename_i es he
         simp only [Option.some.injEq] at h
         subst h
         obtain ⟨h1, g', h2⟩ := fit_sound R hle he
         exact hJ _ a w g' (by simpa using h1) h2 ht
       · cases h
     | code c =>
       obtain ⟨Q', hF, rfl⟩ := hF
       have hrk : rt = true ∨ nrK k = true := hr.imp (fun q => q) fun h => by simp only [nrK, Bool.and_eq_true] at h; exact h.2
       show c.wp C.P Q' a w
       cases c with
       | skip => exact wp_skip (ih n s k t h env B Q' g a w hrk hn hF R ht)
       | seq x y =>
         simp only [run] at h
         split at h
         · rename_i H m hG
           split at h
           · rename_i t1 t2 ht1 ht2
             simp only [Option.some.injEq] at h
             subst h
             obtain ⟨I, h1, h2⟩ := ht
             have et : env.take n = env := List.take_of_length_le (by omega)
             refine wp_seq (ih n s (.code x :: .lp (lps k) n m H :: k) t1 ht1 env (setB B (lps k) I) _ g a w (hr.imp (fun q => q) fun h => by simp only [nrK, nrC, Bool.and_eq_true] at h ⊢; exact ⟨h.1.1, h.2⟩) hn
               ⟨_, ⟨Q', fun a w => y.wp C.P Q' a w, ?_, rfl, rfl, by omega, fun vs a2 w2 g2 hv R2 hb => ?_⟩, rfl⟩ R h1)
             · have := hF.ext (B' := setB B (lps k) I) [] fun j hj => by unfold setB; rw [if_neg (by omega)]
               simpa using this
             · rw [et] at R2
               have hI : I vs := by unfold setB at hb; rw [if_pos rfl] at hb; exact hb
               have hw := kinds_elim (allN_iff h2 vs hv) (fun q hq => facts_sound R2 n q hq) hI
               exact ih (n + m) H (.code y :: k) t2 ht2 (env ++ vs) B _ g2 a2 w2 (hr.imp (fun q => q) fun h => by simp only [nrK, nrC, Bool.and_eq_true] at h ⊢; exact ⟨h.1.2, h.2⟩) (by simp [hn, hv]) ⟨Q', hF.ext vs (fun j _ => rfl), rfl⟩ R2 hw
           · cases h
         · exact wp_seq (ih n s (.code x :: .code y :: k) t h env B _ g a w (hr.imp (fun q => q) fun h => by simpa [nrK, nrC, Bool.and_assoc] using h) hn ⟨_, ⟨Q', hF, rfl⟩, rfl⟩ R ht)
       | block id c => exact wp_block (ih n s (.code c :: .blk id :: k) t h env B _ g a w (hr.imp (fun q => q) fun h => by simpa [nrK, nrC, Bool.and_assoc] using h) hn ⟨_, ⟨Q', hF, rfl⟩, rfl⟩ R ht)
       | region id ops draw =>
         simp only [run] at h
         split at h
         · rename_i cs s' hr
           split at h
           · rename_i t' ht'
             simp only [Option.some.injEq] at h
             subst h
             obtain ⟨h1, h2⟩ := wp_req ht
             cases draw with
             | true => exact drawn_sound hCT hm R hr h1 fun a' w' g' R' => ih n s' k t' ht' env B Q' g' a' w' hrk hn hF R' h2
             | false => exact region_sound hCT R hr h1 fun a' w' g' R' => ih n s' k t' ht' env B Q' g' a' w' hrk hn hF R' h2
           · cases h
         · cases draw with
           | true => cases h
           | false => exact wp_region (crun_sound hCT (fun s' t' a' w' g' ht' R' hw => ih n s' k t' ht' env B Q' g' a' w' hrk hn hF R' hw) _ (fun _ hns => by simp at hns) R h ht)
       | cond x y z =>
         have hry : rt = true ∨ nrK (.code y :: k) = true := hr.imp (fun q => q) fun h => by simp only [nrK, nrC, Bool.and_eq_true] at h ⊢; exact ⟨h.1.1, h.2⟩
         have hrz : rt = true ∨ nrK (.code z :: k) = true := hr.imp (fun q => q) fun h => by simp only [nrK, nrC, Bool.and_eq_true] at h ⊢; exact ⟨h.1.2, h.2⟩
         simp only [run] at h
         split at h
         · rename_i hx
           exact wp_cond_true (R.bool hx) (ih n s (.code y :: k) t h env B _ g a w hry hn ⟨Q', hF, rfl⟩ R ht)
         · rename_i hx
           exact wp_cond_false (R.bool hx) (ih n s (.code z :: k) t h env B _ g a w hrz hn ⟨Q', hF, rfl⟩ R ht)
         · rename_i e _ _ hx
           split at h
           · rename_i t1 t2 h1 h2
             simp only [Option.some.injEq] at h
             subst h
             exact wp_cond_split (R.bool hx) (fun hb => ih n s (.code y :: k) t1 h1 env B _ g a w hry hn ⟨Q', hF, rfl⟩ R (ht.1 hb))
               (fun hb => ih n s (.code z :: k) t2 h2 env B _ g a w hrz hn ⟨Q', hF, rfl⟩ R (ht.2 hb))
           · cases h
         · cases h
       | exit id =>
         simp only [run] at h
         split at h
         · rename_i k' hk
           obtain ⟨Q2, h1, h2⟩ := hF.exit hk
           exact wp_exit (h2 a w (ih n s k' t h env B Q2 g a w (hrk.imp (fun q => q) fun h => nrK_unwind h hk) hn h1 R ht))
         · cases h
       | ret =>
         simp only [run] at h
         split at h
         · rename_i es he
           simp only [Option.some.injEq] at h
           subst h
           exact wp_ret (hF.ret ((hend env g s a w es he R ht).2 (hr.resolve_right (by simp [nrK, nrC]))))
         · cases h
       | loop c =>
         simp only [run] at h
         split at h
         · rename_i H m hG
           split at h
           · rename_i init hi
             split at h
             · rename_i t' ht'
               simp only [Option.some.injEq] at h
               subst h
               obtain ⟨I, μ, h0, hI⟩ := ht
               obtain ⟨h1, g', h2⟩ := fit_sound R (Nat.le_of_eq hn.symm) hi
               have et : env.take n = env := List.take_of_length_le (by omega)
               refine wp_loop_ix (I := fun N a w => ∃ vs g, vs.length = m ∧ Rel C g (H.den Φ (env ++ vs)) a w ∧ I vs ∧ μ vs = N) (N := μ (init.map (E.den Φ env))) ⟨_, g', by simpa using h1, ?_, h0, rfl⟩ fun N a w hN => ?_
               · unfold envOf at h2; rw [et] at h2; exact h2
               · obtain ⟨vs, g2, hv, R2, hIv, rfl⟩ := hN
                 have hw := kinds_elim (allN_iff hI vs hv) (fun q hq => facts_sound R2 n q hq) hIv
                 refine ih (n + m) H (.code c :: .lp (lps k) n m H :: k) t' ht' (env ++ vs) _ _ g2 a w (hr.imp (fun q => q) fun h => by simp only [nrK, nrC, Bool.and_eq_true] at h ⊢; exact h) (by simp [hn, hv]) ⟨_, ⟨Q', _, hF.ext vs (fun j hj => ?_), rfl, rfl, by simp; omega, fun vs' a w g3 hv' R3 hb => ?_⟩, rfl⟩ R2 hw
                 · show setB B (lps k) _ j = B j
                   unfold setB
                   rw [if_neg (by omega)]
                 · unfold setB at hb
                   rw [if_pos rfl] at hb
                   rw [List.take_append_of_le_length (by omega), et] at R3
                   exact ⟨μ vs', hb.2, vs', g3, hv', R3, hb.1, rfl⟩
             · cases h
           · cases h
         · cases h
       | rangeFunc => simp [run] at h
       | «scope» => simp [run] at h
       | label => simp [run] at h
       | goto => simp [run] at h
       | refuse => simp [run] at h
theorem run_sound (hm : C.P.follows .mixedOrders = true) (hCT : Told C.P Φ CT) {G : Nat → SSt → Code → List It → Option (SSt × Nat)} {end' : SSt → Option (List E)}
   (hend : ∀ env g s a w es, end' s = some es → Rel C g (SSt.den Φ env s) a w → post (es.map (E.den Φ env)) → F .normal a w ∧ F .ret a w)
   (f n : Nat) (s : SSt) (k : List It) (t : VC) (h : run C.T CT G end' f n s k = some t) (env : List D) (B : Nat → List D → Prop) (Q : Exit → Act → World → Prop) (g : Gh) (a : Act) (w : World)
   (hn : env.length = n) (hF : Fits Φ C F k env B Q) (R : Rel C g (s.den Φ env) a w) (ht : t.wp Φ post env B) : Q .normal a w :=
 run_soundR true hm hCT (fun env g s a w es h1 h2 h3 => ⟨(hend env g s a w es h1 h2 h3).1, fun _ => (hend env g s a w es h1 h2 h3).2⟩) f n s k t h env B Q g a w (.inl rfl) hn hF R ht
end
end Go.Vx
namespace Go.Vx
open Go.RowKit (Below)
mutual
def WFa : K → D → Prop
 | .int k, d => inR k d.asInt
 | .bool, _ => True
 | .str, d => d.asStr.size ≤ lenMax
 | .sl _ ks, d => d.asList.length ≤ lenMax ∧ ∀ row, row ∈ d.asList → WFas ks row
def WFas : List K → List D → Prop
 | [], _ => True
 | k :: ks, ds => WFa k (ds.headD default) ∧ WFas ks ds.tail
end
mutual
theorem RepC.wfa {w : World} {M : Nat → Nat → Prop} : ∀ {k : K} {v : Value} {d : D}, RepC w M k v d → WFa k d
 | .int _, _, _, h => h.2
 | .bool, _, _, _ => trivial
 | .str, _, _, h => h.2
 | .sl _ ks, v, d, h => by
   obtain ⟨a, cap, rfl, _, h2, h3⟩ := h
   refine ⟨h2, fun row hr => ?_⟩
   rcases h3 with h3 | ⟨b, off, _, hrow⟩
   · rw [h3] at hr; simp at hr
   · obtain ⟨i, hi⟩ := List.getElem?_of_mem hr
     obtain ⟨vs, _, _, hc⟩ := hrow i row hi
     exact RepCs.wfa hc
theorem RepCs.wfa {w : World} {M : Nat → Nat → Prop} : ∀ {ks : List K} {vs : List Value} {ds : List D}, RepCs w M ks vs ds → WFas ks ds
 | [], _, _, _ => trivial
 | _ :: _, _, _, h => by
   obtain ⟨v, vs', rfl, hc, h'⟩ := h
   exact ⟨RepC.wfa hc, RepCs.wfa h'⟩
end
def WFA : ASh → D → Prop
 | .one k, d => WFa k d
 | .agg ks, d => WFas ks d.row
 | .pim ks, d => WFas ks d.row
def WFAs : List ASh → List D → Prop
 | s :: ss, d :: ds => WFA s d ∧ WFAs ss ds
 | _, _ => True
theorem ArgReps.wf {w : World} {M : Nat → Nat → Prop} : ∀ {ss : List ASh} {vs : List Value} {ds : List D}, ArgReps w M ss vs ds → WFAs ss ds ∧ ds.length = ss.length ∧ vs.length = ss.length
 | [], _, _, h => by rw [h.1, h.2]; exact ⟨trivial, rfl, rfl⟩
 | s :: ss, _, _, h => by
   obtain ⟨v, vs', d, ds', rfl, rfl, hv, h'⟩ := h
   obtain ⟨h1, h2, h3⟩ := ArgReps.wf h'
   refine ⟨⟨?_, h1⟩, by simp [h2], by simp [h3]⟩
   cases s with
   | one k => exact RepC.wfa hv
   | agg ks => obtain ⟨us, _, hv⟩ := hv; exact RepCs.wfa hv
   | pim ks => obtain ⟨_, _, us, _, _, _, hv⟩ := hv; exact RepCs.wfa hv
def eqK : K → D → D → Prop
 | .int _, a, b => a.asInt = b.asInt
 | .bool, a, b => a.asBool = b.asBool
 | .str, a, b => a.asStr = b.asStr
 | .sl _ _, a, b => a.asList = b.asList
def eqRC : RC → D → D → Prop
 | .im k, a, b => eqK k a b
 | .own _ _ _, a, b => a.asList = b.asList
def eqRets : List RC → List D → List D → Prop
 | [], _, _ => True
 | c :: cs, ds, ds' => eqRC c (ds.headD default) (ds'.headD default) ∧ eqRets cs ds.tail ds'.tail
theorem eqK_refl (k : K) (a : D) : eqK k a a := by cases k <;> rfl
theorem eqRC_refl (c : RC) (a : D) : eqRC c a a := by cases c <;> first | exact eqK_refl _ _ | rfl
theorem eqRets_refl : ∀ (cs : List RC) (ds : List D), eqRets cs ds ds
 | [], _ => trivial
 | c :: cs, ds => ⟨eqRC_refl c _, eqRets_refl cs ds.tail⟩
theorem RepC.eqv {w : World} {M : Nat → Nat → Prop} {k : K} {v : Value} {a b : D} (h : RepC w M k v a) (he : eqK k a b) : RepC w M k v b := by
 cases k with
 | int k => have he : a.asInt = b.asInt := he; unfold RepC at h ⊢; rw [← he]; exact h
 | bool => have he : a.asBool = b.asBool := he; unfold RepC at h ⊢; rw [← he]; exact h
 | str => have he : a.asStr = b.asStr := he; unfold RepC at h ⊢; rw [← he]; exact h
 | sl e ks => have he : a.asList = b.asList := he; unfold RepC at h ⊢; rw [← he]; exact h
theorem RetCs.eqv {w : World} {M : Nat → Nat → Prop} : ∀ {cs : List RC} {vs : List Value} {ds ds' : List D} {Fs : List (List Nat)}, RetCs w M cs vs ds Fs → eqRets cs ds ds' → RetCs w M cs vs ds' Fs
 | [], _, _, _, _, h, _ => h
 | .im k :: cs, _, _, _, _, ⟨v, vs', e, hc, hr⟩, he => ⟨v, vs', e, hc.eqv he.1, hr.eqv he.2⟩
 | .own t ks dp :: cs, _, _, _, _, ⟨v, vs', F, Fs', e1, e2, ho, hr⟩, he => ⟨v, vs', F, Fs', e1, e2, by have h1 : _ = _ := he.1; rw [← h1]; exact ho, hr.eqv he.2⟩
theorem VC.wp_mono {Φ : Fns} {post post' : List D → Prop} (h : ∀ l, post l → post' l) : ∀ (t : VC) (env : List D) (B : Nat → List D → Prop), t.wp Φ post env B → t.wp Φ post' env B := by
 have hN : ∀ (n : Nat) {p q : List D → Prop}, (∀ l, p l → q l) → allN n p → allN n q := by
   intro n
   induction n with
   | zero => intro p q hpq hp; exact hpq _ hp
   | succ n ih => intro p q hpq hp d; exact ih (fun l => hpq (d :: l)) (hp d)
 have hK : ∀ (l : List (K × Nat)) (env : List D) {p q : Prop}, (p → q) → kinds env l p → kinds env l q := by
   intro l env
   induction l with
   | nil => intro p q hpq hp; exact hpq hp
   | cons x l ih => intro p q hpq hp hw; exact ih hpq (hp hw)
 intro t
 induction t with
 | req cs t ih => intro env B ht; exact ⟨ht.1, ih env B ht.2⟩
 | ite c x y ihx ihy => intro env B ht; exact ⟨fun hc => ihx env B (ht.1 hc), fun hc => ihy env B (ht.2 hc)⟩
 | loop id l m fs init body ih =>
   intro env B ⟨I, μ, h0, hI⟩
   exact ⟨I, μ, h0, hN m (fun vs hk => hK fs _ (fun hb hi => ih _ _ (hb hi)) hk) hI⟩
 | back l es => intro env B ht; exact ht
 | ret es => intro env B ht; exact h _ ht
 | join id l m fs x y ihx ihy =>
   intro env B ⟨I, h1, h2⟩
   exact ⟨I, ihx _ _ h1, hN m (fun vs hk => hK fs _ (fun hb hi => ihy _ _ (hb hi)) hk) h2⟩
def argV (i : Nat) : ASh → SV
 | .one k => .one (.dat k (.var i))
 | .agg ks => .agg (sdats ks (.var i) 0)
 | .pim ks => .pim ks (.var i) 0
def argVs : Nat → List ASh → List SV
 | _, [] => []
 | i, s :: ss => argV i s :: argVs (i + 1) ss
def start (args : List ASh) (n : Nat) : SSt := ⟨argVs 0 args ++ List.replicate (n - args.length) .dead, []⟩
section
variable {Φ : Fns}
theorem argVs_rep {w : World} {M : Nat → Nat → Prop} {S : Sur} (hw : S.w = w) (hM : ∀ b o, S.me b o → M b o) {env : List D} : ∀ {ss : List ASh} {i : Nat} {vs : List Value} {ds : List D}, ArgReps w M ss vs ds → (∀ j, env.getD (i + j) default = ds.getD j default) →
   ∀ t, RepAV S (((argVs i ss).getD t .dead).den Φ env) (vs.getD t undef)
 | [], i, vs, ds, h, he, t => by simp [argVs, SV.den, RepAV]
 | s :: ss, i, _, _, h, he, t => by
   obtain ⟨v, vs', d, ds', rfl, rfl, hv, h'⟩ := h
   cases t with
   | zero =>
     simp only [argVs, List.getD_cons_zero]
     have e0 : env.getD i default = d := by simpa using he 0
     cases s with
     | one k =>
       have hv : RepC w M k v d := hv
       refine ⟨?_, hv.oneCell⟩
       show RepC S.w S.me k v (env.getD i default)
       rw [hw, e0]
       exact hv.mono hM
     | agg ks =>
       obtain ⟨us, rfl, hv⟩ := hv
       refine ⟨us, rfl, ?_⟩
       rw [sdats_den]
       refine dats_rep ?_
       rw [hw, E.den, e0]
       exact hv.mono hM
     | pim ks =>
       obtain ⟨b, o, us, rfl, h1, h2, hv⟩ := hv
       refine ⟨b, o, us, rfl, by rw [hw]; exact h1, fun j hj hm => h2 j hj (hM _ _ hm), ?_⟩
       rw [hw, E.den, e0]
       exact hv.mono hM
   | succ t =>
     simp only [argVs, List.getD_cons_succ]
     exact argVs_rep hw hM h' (fun j => by have := he (j + 1); simpa [Nat.add_assoc, Nat.add_comm 1 j] using this) t
def G0 : Gh := ⟨fun _ => undef, fun _ => []⟩
theorem start_rel {C : Cx} {args : List ASh} {vs : List Value} {ds : List D} (h : ArgReps C.w0 C.M args vs ds) (hl : args.length ≤ C.n) (hpin : C.pin = []) (hpinB : C.pinB = []) :
   Rel C G0 ((start args C.n).den Φ ds) { tmps := vs.toArray ++ Array.replicate (C.n - vs.toArray.size) undef, defers := [] } C.w0 := by
 obtain ⟨_, h2, h3⟩ := h.wf
 have hlen : ∀ (ss : List ASh) (i : Nat), (argVs i ss).length = ss.length := by
   intro ss
   induction ss with
   | nil => intro i; rfl
   | cons s ss ih => intro i; simp [argVs, ih]
 refine ⟨rfl, by simp [h3]; omega, by simp [SSt.den, start, hlen]; omega, fun t => ?_, fun x => rfl, fun x => List.nodup_nil, fun x y _ b hb => by simp [G0] at hb, fun x b hb => by simp [G0] at hb, ⟨rfl, rfl, rfl, Nat.le_refl _, fun _ _ _ => rfl⟩, ⟨fun p hp => by rw [hpin] at hp; simp at hp, fun p hp => by rw [hpinB] at hp; simp at hp⟩⟩
 rw [SSt.den_tmp]
 have ht : (start args C.n).tmp t = (argVs 0 args).getD t .dead := by
   unfold SSt.tmp start
   simp only [List.getD_eq_getElem?_getD, List.getElem?_append, List.getElem?_replicate]
   split
   · rfl
   · rename_i hn
     rw [List.getElem?_eq_none (l := argVs 0 args) (by omega)]
     split <;> rfl
 have hv : (vs.toArray ++ Array.replicate (C.n - vs.toArray.size) undef).getD t undef = vs.getD t undef := by
   simp only [Array.getD_eq_getD_getElem?, List.getD_eq_getElem?_getD, Array.getElem?_append, Array.getElem?_replicate, List.getElem?_toArray, List.size_toArray]
   split
   · rfl
   · rename_i hn
     rw [List.getElem?_eq_none (l := vs) (by omega)]
     split <;> rfl
 rw [ht]
 show RepAV _ _ ((vs.toArray ++ Array.replicate (C.n - vs.toArray.size) undef).getD t undef)
 rw [hv]
 refine argVs_rep rfl (fun b o hm => ?_) h (fun j => by rw [Nat.zero_add]) t
 rcases hm with hm | ⟨x, hl, _⟩ | ⟨x, hl, _⟩
 · exact hm
 · simp [SSt.den, start, St.obj, look, Ob.live] at hl
 · simp [SSt.den, start, St.obj, look, Ob.isX] at hl
theorem funR_of {P : Program} {T : TypeId → TI} (tok : ∀ t, (T t).ok = true → TOk P T t) (hm : P.follows .mixedOrders = true) {CT : Nat → Option Sig} (hCT : Told P Φ CT) {f : FuncId} {fn : Func} {c : Code}
   (hf : P.funcs[f]? = some fn) (hb : fn.body = some c) {args : List ASh} {rets : List RSh} {φ : Nat → List D → D} {G : Nat → SSt → Code → List It → Option (SSt × Nat)} {fuel : Nat} {vc : VC}
   (hl : args.length ≤ fn.ntmps) (hv : run T CT G (fin T fn.results.toList rets) fuel args.length (start args fn.ntmps) [.code c] = some vc)
   (hw : ∀ ds, ds.length = args.length → WFAs args ds → (φ 1000 ds).asBool = true → vc.wp Φ (fun l => eqRets (rets.flatMap RSh.cells) l (retDs (fun c => φ c ds) 0 rets)) ds fun _ _ => False) : FunR P f args rets φ := by
 intro w M vs ds hM hgl hargs hpre
 obtain ⟨h1, h2, h3⟩ := hargs.wf
 let C : Cx := { P := P, T := T, tok := tok, w0 := w, X := [], M := M, mold := fun b o h => ⟨hM b o h, by simp⟩, n := fn.ntmps, pin := [], pinBig := fun p hp => by simp at hp, pinB := [], pinBBig := fun p hp => by simp at hp, gl := fun w' h => hgl.fr h }
 refine calls_of_wp hf hb ?_
 have R0 : Rel C G0 ((start args fn.ntmps).den Φ ds) { tmps := vs.toArray ++ Array.replicate (fn.ntmps - vs.toArray.size) undef, defers := [] } w := start_rel (C := C) hargs hl rfl rfl
 have hend : ∀ env g s a w' es, fin T fn.results.toList rets s = some es → Rel C g (SSt.den Φ env s) a w' → (fun l => eqRets (rets.flatMap RSh.cells) l (retDs (fun c => φ c ds) 0 rets)) (es.map (E.den Φ env)) →
     bodyPost P fn (fun e w' => ∃ us Fs, e = .returned (mkRet rets us) ∧ Below w.heap.size w w' ∧ RetCs w' (MeH M (retHeads (rets.flatMap RSh.cells) us)) (rets.flatMap RSh.cells) us (retDs (fun c => φ c ds) 0 rets) Fs ∧
       Fs.flatten.Nodup ∧ ∀ b, b ∈ Fs.flatten → w.heap.size ≤ b ∧ b < w'.heap.size) .normal a w' ∧
     bodyPost P fn (fun e w' => ∃ us Fs, e = .returned (mkRet rets us) ∧ Below w.heap.size w w' ∧ RetCs w' (MeH M (retHeads (rets.flatMap RSh.cells) us)) (rets.flatMap RSh.cells) us (retDs (fun c => φ c ds) 0 rets) Fs ∧
       Fs.flatten.Nodup ∧ ∀ b, b ∈ Fs.flatten → w.heap.size ≤ b ∧ b < w'.heap.size) .ret a w' := fun env g s a w' es he R hp => by
   obtain ⟨us, Fs, e1, e2, e3, e4'⟩ := fin_sound (C := C) R he
   have e4 : ∀ b, b ∈ Fs.flatten → w.heap.size ≤ b ∧ b < w'.heap.size := fun b hb => ⟨(e4' b hb).1.resolve_right (by simp [C]), (e4' b hb).2⟩
   replace e2 := e2.eqv hp
   have hbel : Below w.heap.size w w' := ⟨R.fr.os, R.fr.tape, R.fr.output, R.fr.size, fun k hk => R.fr.block k hk (by simp [C])⟩
   exact ⟨⟨R.defers, _, e1, us, Fs, rfl, hbel, e2, e3, e4⟩, ⟨R.defers, _, e1, us, Fs, rfl, hbel, e2, e3, e4⟩⟩
 have := run_sound (C := C) (Φ := Φ) (CT := CT) hm hCT (post := fun l => eqRets (rets.flatMap RSh.cells) l (retDs (fun c => φ c ds) 0 rets)) hend fuel args.length (start args fn.ntmps) [.code c] vc hv ds (fun _ _ => False) _ G0 _ w h2 ⟨_, rfl, rfl⟩ R0 (hw ds h2 h1 hpre)
 exact this
end
abbrev Ents := List (TypeId × List K × E)
def Ent (w : World) (Φ : Fns) (env : List D) : Ents → List (TypeId × List K × Value) → List (List Nat) → Prop
 | [], io, Fs => io = [] ∧ Fs = []
 | (t, ks, e) :: l, io, Fs => ∃ v io' F Fs', io = (t, ks, v) :: io' ∧ Fs = F :: Fs' ∧ RepD w (.sl t ks) v (.sl (e.den Φ env).asList) F ∧ Ent w Φ env l io' Fs'
section
variable {Φ : Fns} {env : List D} {w : World}
theorem Ent.append : ∀ {l l' : Ents} {io io' : List (TypeId × List K × Value)} {Fs Fs' : List (List Nat)}, Ent w Φ env l io Fs → Ent w Φ env l' io' Fs' → Ent w Φ env (l ++ l') (io ++ io') (Fs ++ Fs')
 | [], _, _, _, _, _, h, h' => by obtain ⟨rfl, rfl⟩ := h; exact h'
 | _ :: _, _, _, _, _, _, ⟨v, io1, F, Fs1, e1, e2, h1, h2⟩, h' => ⟨v, _, F, _, by rw [e1]; rfl, by rw [e2]; rfl, h1, h2.append h'⟩
theorem Ent.len : ∀ {l : Ents} {io : List (TypeId × List K × Value)} {Fs : List (List Nat)}, Ent w Φ env l io Fs → io.length = l.length ∧ Fs.length = l.length
 | [], _, _, ⟨e1, e2⟩ => by rw [e1, e2]; exact ⟨rfl, rfl⟩
 | _ :: _, _, _, ⟨v, io1, F, Fs1, e1, e2, _, h2⟩ => by rw [e1, e2]; simp [h2.len.1, h2.len.2]
theorem Ent.get : ∀ {l : Ents} {io : List (TypeId × List K × Value)} {Fs : List (List Nat)}, Ent w Φ env l io Fs → ∀ (n : Nat) (t : TypeId) (ks : List K) (e : E), l[n]? = some (t, ks, e) →
   ∃ v F, io[n]? = some (t, ks, v) ∧ Fs[n]? = some F ∧ RepD w (.sl t ks) v (.sl (e.den Φ env).asList) F
 | [], _, _, _, n, t, ks, e, hn => by simp at hn
 | (t', ks', e') :: l, _, _, ⟨v, io1, F, Fs1, e1, e2, h1, h2⟩, n, t, ks, e, hn => by
   subst e1 e2
   cases n with
   | zero =>
     simp only [List.getElem?_cons_zero, Option.some.injEq, Prod.mk.injEq] at hn
     obtain ⟨rfl, rfl, rfl⟩ := hn
     exact ⟨v, F, rfl, rfl, h1⟩
   | succ n => exact h2.get n t ks e (by simpa using hn)
def EntS (S : Sur) (k : Nat) (l : Ents) (io : List (TypeId × List K × Value)) : Prop :=
 ∀ n t ks e v, l[n]? = some (t, ks, e) → io[n]? = some (t, ks, v) → (∃ xs, S.obj (k + n) = some (.arx t ks xs)) ∧ S.hd (k + n) = v
theorem EntS.right {S : Sur} {k : Nat} {l l' : Ents} {io io' : List (TypeId × List K × Value)} (hl : io.length = l.length) (h : EntS S k (l ++ l') (io ++ io')) : EntS S (k + l.length) l' io' := fun n t ks e v h1 h2 => by
 have := h (l.length + n) t ks e v (by rw [List.getElem?_append_right (by omega)]; simpa using h1) (by rw [List.getElem?_append_right (by omega)]; simpa [hl] using h2)
 rwa [show k + l.length + n = k + (l.length + n) by omega]
theorem EntS.left {S : Sur} {k : Nat} {l l' : Ents} {io io' : List (TypeId × List K × Value)} (h : EntS S k (l ++ l') (io ++ io')) : EntS S k l io := fun n t ks e v h1 h2 =>
 h n t ks e v (by rw [List.getElem?_append_left (List.getElem?_eq_some_iff.1 h1).1]; exact h1) (by rw [List.getElem?_append_left (List.getElem?_eq_some_iff.1 h2).1]; exact h2)
theorem XReps.len {M : Nat → Nat → Prop} : ∀ {ss : List XSh} {vs : List Value} {ds : List D} {Fs : List (List Nat)}, XReps w M ss vs ds Fs → vs.length = ss.length ∧ ds.length = ss.length
 | [], _, _, _, ⟨e1, e2, _⟩ => by rw [e1, e2]; exact ⟨rfl, rfl⟩
 | .im _ :: _, _, _, _, ⟨v, vs', d, ds', e1, e2, _, h⟩ => by rw [e1, e2]; simp [h.len.1, h.len.2]
 | .one _ :: _, _, _, _, ⟨v, vs', d, ds', F, Fs', e1, e2, _, _, h⟩ => by rw [e1, e2]; simp [h.len.1, h.len.2]
 | .agg _ :: _, _, _, _, ⟨v, vs', d, ds', F, Fs', e1, e2, _, _, h⟩ => by rw [e1, e2]; simp [h.len.1, h.len.2]
def GX (io : List (TypeId × List K × Value)) (Fs : List (List Nat)) : Gh :=
 ⟨fun x => if 1000000000 ≤ x then match io[x - 1000000000]? with | some (_, _, v) => v | none => undef else undef, fun x => if 1000000000 ≤ x then Fs.getD (x - 1000000000) [] else []⟩
theorem RetCs.flat {M : Nat → Nat → Prop} : ∀ {cs : List RC} {vs : List Value} {ds : List D} {Fs : List (List Nat)}, RetCs w M cs vs ds Fs → cs.all RC.flatIm = true → RetCs w (fun _ _ => False) cs vs ds []
 | [], _, _, _, h, _ => ⟨h.1, rfl⟩
 | .im k :: cs, _, _, _, ⟨v, vs', e, hc, hr⟩, hf => by
   simp only [List.all_cons, Bool.and_eq_true] at hf
   exact ⟨v, vs', e, hc.plain' hf.1, hr.flat hf.2⟩
 | .own _ _ _ :: cs, _, _, _, _, hf => by simp [RC.flatIm] at hf
end
end Go.Vx

/-
  A program logic of our own, parts 34b to 43.
-/
import Derived.Test.YthibophjhdoooaaDoorVxc
import Derived.ProofKit
import Derived.OpenShut
import Derived.SizedLaws
import Derived.WideKeyArgs
set_option linter.unusedVariables false
set_option linter.unusedSimpArgs false
/-
  Vx, part 34b: functions that are handed boxes by pointer: where they begin, what they leave.
-/
namespace Go.Vx
open Go.RowKit (Below)

def bk (i : Nat) : Nat := 1000000000 + 100 * i
def argBC (key : Nat) (e : Nat → E) : Nat → List BC → List SC
  | j, .keep k :: cs => .dat k (e j) :: argBC key e (j + 1) cs
  | j, .im k :: cs => .dat k (e j) :: argBC key e (j + 1) cs
  | j, .own _ _ :: cs => .ref (key + j) none :: argBC key e (j + 1) cs
  | j, .ex _ _ _ :: cs => .ref (key + j) none :: argBC key e (j + 1) cs
  | _, [] => []
def argBO (key : Nat) (e : Nat → E) : Nat → List BC → List (Nat × SOb)
  | j, .keep _ :: cs => argBO key e (j + 1) cs
  | j, .im _ :: cs => argBO key e (j + 1) cs
  | j, .own t ks :: cs => (key + j, .arr t ks false (e j)) :: argBO key e (j + 1) cs
  | j, .ex t ks _ :: cs => (key + j, .arx t ks (e j)) :: argBO key e (j + 1) cs
  | _, [] => []
def eFld (i : Nat) (j : Nat) : E := .op (.fld j) [.var i]
def argB (i : Nat) : BSh → SV × List (Nat × SOb)
  | .im s => (argV i s, [])
  | .one c => (.one ((argBC (bk i + 1) (fun _ => .var i) 0 [c]).headD .dead), argBO (bk i + 1) (fun _ => .var i) 0 [c])
  | .agg cs => (.agg (argBC (bk i + 1) (eFld i) 0 cs), argBO (bk i + 1) (eFld i) 0 cs)
  | .box T cs => (.ptr (bk i) (.int 0) 0, (bk i, .box T (argBC (bk i + 1) (eFld i) 0 cs)) :: argBO (bk i + 1) (eFld i) 0 cs)
def argBs : Nat → List BSh → List SV × List (Nat × SOb)
  | _, [] => ([], [])
  | i, b :: bs => ((argB i b).1 :: (argBs (i + 1) bs).1, (argB i b).2 ++ (argBs (i + 1) bs).2)
def startB (args : List BSh) (n : Nat) : SSt := ⟨(argBs 0 args).1 ++ List.replicate (n - args.length) .dead, (argBs 0 args).2⟩

def itmA (key : Nat) (e : Nat → E) : Nat → List BC → List Value → List (List Nat) → List Itm
  | j, .keep _ :: cs, _ :: us, Fs => itmA key e (j + 1) cs us Fs
  | j, .im _ :: cs, _ :: us, Fs => itmA key e (j + 1) cs us Fs
  | j, .own t ks :: cs, u :: us, F :: Fs => ⟨key + j, .arr t ks false (e j), u, F⟩ :: itmA key e (j + 1) cs us Fs
  | j, .ex t ks _ :: cs, u :: us, F :: Fs => ⟨key + j, .arx t ks (e j), u, F⟩ :: itmA key e (j + 1) cs us Fs
  | _, _, _, _ => []

/-- The cells that a value points at. -/
def cellsAt (w : World) : Value → List Value
  | .pointer (some a) => match w.heap[a.block]? with
    | some (.cells us _ _) => us.toList
    | _ => []
  | _ => []
def pinsC (key : Nat) : Nat → List BC → List Value → List (Nat × TypeId × List K × Value)
  | j, .ex t ks true :: cs, u :: us => (key + j, t, ks, u) :: pinsC key (j + 1) cs us
  | j, _ :: cs, _ :: us => pinsC key (j + 1) cs us
  | _, _, _ => []
def pinsX (w : World) : Nat → List BSh → List Value → List (Nat × TypeId × List K × Value)
  | i, .box _ cs :: ss, v :: vs => pinsC (bk i + 1) 0 cs (cellsAt w v) ++ pinsX w (i + 1) ss vs
  | i, _ :: ss, _ :: vs => pinsX w (i + 1) ss vs
  | _, _, _ => []
def pinsB : Nat → List BSh → List Value → List (Nat × Value)
  | i, .box _ _ :: ss, v :: vs => (bk i, v) :: pinsB (i + 1) ss vs
  | i, _ :: ss, _ :: vs => pinsB (i + 1) ss vs
  | _, _, _ => []

theorem pinsC_mem {key : Nat} : ∀ {cs : List BC} {us : List Value} {j : Nat} {p : Nat × TypeId × List K × Value}, p ∈ pinsC key j cs us → ∃ n t ks, p.1 = key + (j + n) ∧ cs[n]? = some (.ex t ks true) ∧ p.2.1 = t ∧ p.2.2.1 = ks ∧ us[n]? = some p.2.2.2
  | [], _, _, _, h => by simp [pinsC] at h
  | c :: cs, [], _, _, h => by
    cases c with
    | ex t ks pin => cases pin <;> simp [pinsC] at h
    | _ => simp [pinsC] at h
  | c :: cs, u :: us, j, p, h => by
    have rest : p ∈ pinsC key (j + 1) cs us → ∃ n t ks, p.1 = key + (j + n) ∧ (c :: cs)[n]? = some (.ex t ks true) ∧ p.2.1 = t ∧ p.2.2.1 = ks ∧ (u :: us)[n]? = some p.2.2.2 := fun h => by
      obtain ⟨n, t, ks, h1, h2, h3, h4, h5⟩ := pinsC_mem h
      exact ⟨n + 1, t, ks, by omega, by simpa using h2, h3, h4, by simpa using h5⟩
    cases c with
    | keep k => exact rest h
    | im k => exact rest h
    | own t ks => exact rest h
    | ex t ks pin =>
      cases pin with
      | false => exact rest h
      | true =>
        simp only [pinsC, List.mem_cons] at h
        rcases h with rfl | h
        · exact ⟨0, t, ks, rfl, rfl, rfl, rfl, rfl⟩
        · exact rest h
theorem pinsC_get {key : Nat} : ∀ {cs : List BC} {us : List Value} {j n : Nat} {t : TypeId} {ks : List K} {u : Value}, cs[n]? = some (.ex t ks true) → us[n]? = some u → (key + (j + n), t, ks, u) ∈ pinsC key j cs us
  | [], _, _, _, _, _, _, h, _ => by simp at h
  | c :: cs, [], _, _, _, _, _, _, h => by simp at h
  | c :: cs, u :: us, j, 0, t, ks, u', h, h' => by
    simp only [List.getElem?_cons_zero, Option.some.injEq] at h h'
    subst h h'
    simp [pinsC]
  | c :: cs, u :: us, j, n + 1, t, ks, u', h, h' => by
    have := pinsC_get (key := key) (j := j + 1) (cs := cs) (us := us) (n := n) (by simpa using h) (by simpa using h')
    rw [show j + 1 + n = j + (n + 1) by omega] at this
    cases c with
    | ex t2 ks2 pin =>
      cases pin with
      | false => exact this
      | true => simp only [pinsC]; exact List.mem_cons_of_mem _ this
    | _ => exact this
theorem pinsX_big {w : World} : ∀ {ss : List BSh} {vs : List Value} {i : Nat} {p : Nat × TypeId × List K × Value}, p ∈ pinsX w i ss vs → 1000000000 ≤ p.1
  | [], _, _, _, h => by simp [pinsX] at h
  | s :: ss, [], _, _, h => by cases s <;> simp [pinsX] at h
  | s :: ss, v :: vs, i, p, h => by
    cases s with
    | box T cs =>
      simp only [pinsX, List.mem_append] at h
      rcases h with h | h
      · obtain ⟨n, t, ks, e, _⟩ := pinsC_mem h
        unfold bk at e; omega
      · exact pinsX_big h
    | im s => exact pinsX_big (ss := ss) h
    | one c => exact pinsX_big (ss := ss) h
    | agg cs => exact pinsX_big (ss := ss) h
theorem pinsB_big : ∀ {ss : List BSh} {vs : List Value} {i : Nat} {p : Nat × Value}, p ∈ pinsB i ss vs → 1000000000 ≤ p.1
  | [], _, _, _, h => by simp [pinsB] at h
  | s :: ss, [], _, _, h => by cases s <;> simp [pinsB] at h
  | s :: ss, v :: vs, i, p, h => by
    cases s with
    | box T cs =>
      simp only [pinsB, List.mem_cons] at h
      rcases h with rfl | h
      · unfold bk; omega
      · exact pinsB_big h
    | im s => exact pinsB_big (ss := ss) h
    | one c => exact pinsB_big (ss := ss) h
    | agg cs => exact pinsB_big (ss := ss) h

/-- What is known of an object at the begin. -/
inductive AI (Φ : Fns) (env : List D) (w : World) (M0 : Nat → Nat → Prop) (l : List Itm) (i : Itm) : Prop where
  | arr (t : TypeId) (ks : List K) (xs : E) (h : i.ob = .arr t ks false xs) (ho : OwnRep w M0 t ks false i.hd (xs.den Φ env).asList i.fp)
  | arx (t : TypeId) (ks : List K) (xs : E) (h : i.ob = .arx t ks xs) (ho : OwnRep w M0 t ks true i.hd (xs.den Φ env).asList i.fp)
  | box (T : TypeId) (cs : List SC) (b : Nat) (us : List Value) (h : i.ob = .box T cs) (hh : i.hd = .pointer (some ⟨b, 0, none⟩)) (hf : i.fp = [b]) (hw : w.heap[b]? = some (.cells (List.toArray us) T (0, 0)))
      (hc : ∀ S : Sur, S.w = w → (∀ b o, S.me b o → M0 b o) → (∀ i, i ∈ l → S.obj i.key = some (i.ob.den Φ env) ∧ S.hd i.key = i.hd) → RepACs S (cs.map (SC.den Φ env)) us)
theorem AI.mono {Φ : Fns} {env : List D} {w : World} {M0 : Nat → Nat → Prop} {l l' : List Itm} {i : Itm} (h : AI Φ env w M0 l i) (hl : ∀ i, i ∈ l → i ∈ l') : AI Φ env w M0 l' i := by
  cases h with
  | arr t ks xs h ho => exact .arr t ks xs h ho
  | arx t ks xs h ho => exact .arx t ks xs h ho
  | box T cs b us h hh hf hw hc => exact .box T cs b us h hh hf hw fun S q1 q2 q3 => hc S q1 q2 fun i hi => q3 i (hl i hi)

section
variable {Φ : Fns} {env : List D}

theorem argBC_all {w : World} {M0 : Nat → Nat → Prop} {key : Nat} {e : Nat → E} : ∀ {cs : List BC} {us : List Value} {dd : List D} {Fs : List (List Nat)} {j : Nat}, RetCs w M0 (cs.map BC.rc) us dd Fs → (∀ i, i < cs.length → dd.getD i default = (e (j + i)).den Φ env) →
    ((itmA key e j cs us Fs).map fun i => (i.key, i.ob)) = argBO key e j cs ∧ (itmA key e j cs us Fs).flatMap Itm.fp = Fs.flatten ∧ (∀ i, i ∈ itmA key e j cs us Fs → AI Φ env w M0 [] i) ∧
    ∀ S : Sur, S.w = w → (∀ b o, S.me b o → M0 b o) → (∀ i, i ∈ itmA key e j cs us Fs → S.obj i.key = some (i.ob.den Φ env) ∧ S.hd i.key = i.hd) → RepACs S ((argBC key e j cs).map (SC.den Φ env)) us
  | [], us, dd, Fs, j, hr, hd => by
    obtain ⟨rfl, rfl⟩ := hr
    exact ⟨rfl, rfl, fun i hi => by simp [itmA] at hi, fun S _ _ _ => rfl⟩
  | c :: cs, us, dd, Fs, j, hr, hd => by
    have hd0 : dd.headD default = (e j).den Φ env := by
      have := hd 0 (by simp)
      simpa [List.headD_eq_head?_getD, List.getD_eq_getElem?_getD, List.head?_eq_getElem?] using this
    have hd1 : ∀ i, i < cs.length → dd.tail.getD i default = (e (j + 1 + i)).den Φ env := fun i hi => by
      have := hd (i + 1) (by simpa using hi)
      rw [show j + (i + 1) = j + 1 + i by omega] at this
      rw [← this]
      simp [List.getD_eq_getElem?_getD, List.getElem?_tail]
    have im : ∀ k, (∃ v vs', us = v :: vs' ∧ RepC w M0 k v (dd.headD default) ∧ RetCs w M0 (cs.map BC.rc) vs' dd.tail Fs) →
        ∀ (c : BC), (∀ (v : Value) vs', itmA key e j (c :: cs) (v :: vs') Fs = itmA key e (j + 1) cs vs' Fs) → argBO key e j (c :: cs) = argBO key e (j + 1) cs → argBC key e j (c :: cs) = .dat k (e j) :: argBC key e (j + 1) cs →
        ((itmA key e j (c :: cs) us Fs).map fun i => (i.key, i.ob)) = argBO key e j (c :: cs) ∧ (itmA key e j (c :: cs) us Fs).flatMap Itm.fp = Fs.flatten ∧ (∀ i, i ∈ itmA key e j (c :: cs) us Fs → AI Φ env w M0 [] i) ∧
        ∀ S : Sur, S.w = w → (∀ b o, S.me b o → M0 b o) → (∀ i, i ∈ itmA key e j (c :: cs) us Fs → S.obj i.key = some (i.ob.den Φ env) ∧ S.hd i.key = i.hd) → RepACs S ((argBC key e j (c :: cs)).map (SC.den Φ env)) us := by
      rintro k ⟨v, vs', rfl, hc, hr⟩ c e1 e2 e3
      obtain ⟨i1, i2, i3, i4⟩ := argBC_all (key := key) (e := e) hr hd1
      rw [e1, e2, e3]
      refine ⟨i1, i2, i3, fun S hS hM hi => ⟨v, vs', rfl, hc.oneCell, ?_, i4 S hS hM hi⟩⟩
      show RepC S.w S.me k v _
      rw [hS, ← hd0]
      exact hc.mono hM
    cases c with
    | keep k => exact im k hr (.keep k) (fun _ _ => rfl) rfl rfl
    | im k => exact im k hr (.im k) (fun _ _ => rfl) rfl rfl
    | own t ks =>
      obtain ⟨v, vs', F, Fs', rfl, rfl, ho, hr⟩ := hr
      obtain ⟨i1, i2, i3, i4⟩ := argBC_all (key := key) (e := e) hr hd1
      refine ⟨by simp only [itmA, argBO, List.map_cons, i1], by simp only [itmA, List.flatMap_cons, i2, List.flatten_cons], fun i hi => ?_, fun S hS hM hi => ⟨v, vs', rfl, ?_, ?_, i4 S hS hM fun i hm => hi i (List.mem_cons_of_mem _ hm)⟩⟩
      · rcases List.mem_cons.1 hi with rfl | hi
        · exact .arr t ks _ rfl (by rw [← hd0]; exact ho)
        · exact i3 i hi
      · obtain ⟨_, _, hown, _⟩ := ho
        rcases ownsRow_cases hown with ⟨e, _⟩ | ⟨b, c, e, _⟩ <;> rw [e] <;> rfl
      · obtain ⟨q1, q2⟩ := hi ⟨key + j, .arr t ks false (e j), v, F⟩ (by simp [itmA])
        show RefRep S (key + j) none v
        unfold RefRep
        rw [q1]
        exact ⟨trivial, q2.symm⟩
    | ex t ks pin =>
      obtain ⟨v, vs', F, Fs', rfl, rfl, ho, hr⟩ := hr
      obtain ⟨i1, i2, i3, i4⟩ := argBC_all (key := key) (e := e) hr hd1
      refine ⟨by simp only [itmA, argBO, List.map_cons, i1], by simp only [itmA, List.flatMap_cons, i2, List.flatten_cons], fun i hi => ?_, fun S hS hM hi => ⟨v, vs', rfl, ?_, ?_, i4 S hS hM fun i hm => hi i (List.mem_cons_of_mem _ hm)⟩⟩
      · rcases List.mem_cons.1 hi with rfl | hi
        · exact .arx t ks _ rfl (by rw [← hd0]; exact ho)
        · exact i3 i hi
      · obtain ⟨_, _, hown, _⟩ := ho
        rcases ownsRow_cases hown with ⟨e, _⟩ | ⟨b, c, e, _⟩ <;> rw [e] <;> rfl
      · obtain ⟨q1, q2⟩ := hi ⟨key + j, .arx t ks (e j), v, F⟩ (by simp [itmA])
        show RefRep S (key + j) none v
        unfold RefRep
        rw [q1]
        exact q2.symm

theorem itmA_get {w : World} {M0 : Nat → Nat → Prop} {key : Nat} {e : Nat → E} : ∀ {cs : List BC} {us : List Value} {dd : List D} {Fs : List (List Nat)} {j n : Nat} {t : TypeId} {ks : List K} {pin : Bool} {u : Value}, RetCs w M0 (cs.map BC.rc) us dd Fs →
    cs[n]? = some (.ex t ks pin) → us[n]? = some u → ∃ F, (⟨key + (j + n), .arx t ks (e (j + n)), u, F⟩ : Itm) ∈ itmA key e j cs us Fs
  | [], _, _, _, _, _, _, _, _, _, _, h, _ => by simp at h
  | c :: cs, us, dd, Fs, j, 0, t, ks, pin, u, hr, h, hu => by
    simp only [List.getElem?_cons_zero, Option.some.injEq] at h
    subst h
    obtain ⟨v, vs', F, Fs', rfl, rfl, ho, hr⟩ := hr
    simp only [List.getElem?_cons_zero, Option.some.injEq] at hu
    subst hu
    exact ⟨F, by simp [itmA]⟩
  | c :: cs, us, dd, Fs, j, n + 1, t, ks, pin, u, hr, h, hu => by
    have go : ∀ {vs' : List Value} {dd' : List D} {Fs' : List (List Nat)}, RetCs w M0 (cs.map BC.rc) vs' dd' Fs' → vs'[n]? = some u → ∃ F, (⟨key + (j + (n + 1)), .arx t ks (e (j + (n + 1))), u, F⟩ : Itm) ∈ itmA key e (j + 1) cs vs' Fs' := fun hr hv => by
      have := itmA_get (key := key) (e := e) (j := j + 1) (pin := pin) hr (by simpa using h) hv
      rwa [show j + 1 + n = j + (n + 1) by omega] at this
    cases c with
    | keep k => obtain ⟨v, vs', rfl, _, hr⟩ := hr; exact go hr (by simpa using hu)
    | im k => obtain ⟨v, vs', rfl, _, hr⟩ := hr; exact go hr (by simpa using hu)
    | own t2 ks2 =>
      obtain ⟨v, vs', F, Fs', rfl, rfl, _, hr⟩ := hr
      obtain ⟨F, hF⟩ := go hr (by simpa using hu)
      exact ⟨F, by simp only [itmA]; exact List.mem_cons_of_mem _ hF⟩
    | ex t2 ks2 p2 =>
      obtain ⟨v, vs', F, Fs', rfl, rfl, _, hr⟩ := hr
      obtain ⟨F, hF⟩ := go hr (by simpa using hu)
      exact ⟨F, by simp only [itmA]; exact List.mem_cons_of_mem _ hF⟩

theorem argBs_len : ∀ (ss : List BSh) (i : Nat), (argBs i ss).1.length = ss.length
  | [], _ => rfl
  | s :: ss, i => by simp [argBs, argBs_len ss]
theorem BReps.len {w : World} {M : Nat → Nat → Prop} : ∀ {ss : List BSh} {vs : List Value} {ds : List D} {Fs : List (List Nat)}, BReps w M ss vs ds Fs → vs.length = ss.length ∧ ds.length = ss.length
  | [], _, _, _, ⟨e1, e2, _⟩ => by rw [e1, e2]; exact ⟨rfl, rfl⟩
  | .im _ :: _, _, _, _, ⟨v, vs', d, ds', e1, e2, _, h⟩ => by rw [e1, e2]; simp [h.len.1, h.len.2]
  | .one _ :: _, _, _, _, ⟨v, vs', d, ds', F, Fs', e1, e2, _, _, h⟩ => by rw [e1, e2]; simp [h.len.1, h.len.2]
  | .agg _ :: _, _, _, _, ⟨v, vs', d, ds', F, Fs', e1, e2, _, _, h⟩ => by rw [e1, e2]; simp [h.len.1, h.len.2]
  | .box _ _ :: _, _, _, _, ⟨b, us, vs', d, ds', F, Fs', e1, e2, _, _, _, h⟩ => by rw [e1, e2]; simp [h.len.1, h.len.2]

/-- All that the arguments bring. -/
theorem argBs_all {w : World} {M0 : Nat → Nat → Prop} : ∀ {ss : List BSh} {vs : List Value} {ds : List D} {Fs : List (List Nat)} {i : Nat}, BReps w M0 ss vs ds Fs → (∀ j, env.getD (i + j) default = ds.getD j default) →
    ∃ l : List Itm, (l.map fun i => (i.key, i.ob)) = (argBs i ss).2 ∧ l.flatMap Itm.fp = Fs.flatten ∧ (∀ it, it ∈ l → AI Φ env w M0 l it) ∧
      (∀ S : Sur, S.w = w → (∀ b o, S.me b o → M0 b o) → (∀ i, i ∈ l → S.obj i.key = some (i.ob.den Φ env) ∧ S.hd i.key = i.hd) → ∀ t, RepAV S (((argBs i ss).1.getD t .dead).den Φ env) (vs.getD t undef)) ∧
      (∀ p, p ∈ pinsX w i ss vs → ∃ xs F, (⟨p.1, .arx p.2.1 p.2.2.1 xs, p.2.2.2, F⟩ : Itm) ∈ l) ∧ (∀ p, p ∈ pinsB i ss vs → ∃ T cs F b, (⟨p.1, .box T cs, p.2, F⟩ : Itm) ∈ l ∧ p.2 = .pointer (some ⟨b, 0, none⟩))
  | [], vs, ds, Fs, i, h, he => by
    obtain ⟨rfl, rfl, rfl⟩ := h
    exact ⟨[], rfl, rfl, fun i hi => by simp at hi, fun S _ _ _ t => by simp [argBs, SV.den, RepAV], fun p hp => by simp [pinsX] at hp, fun p hp => by simp [pinsB] at hp⟩
  | s :: ss, vs, ds, Fs, i, h, he => by
    have he' : ∀ {d : D} {ds' : List D}, ds = d :: ds' → env.getD i default = d ∧ ∀ j, env.getD (i + 1 + j) default = ds'.getD j default := fun e => by
      subst e
      refine ⟨by simpa using he 0, fun j => ?_⟩
      have := he (j + 1)
      rw [show i + (j + 1) = i + 1 + j by omega] at this
      simpa using this
    cases s with
    | im sh =>
      obtain ⟨v, vs', d, ds', rfl, rfl, hv, h⟩ := h
      obtain ⟨e0, e1⟩ := he' rfl
      obtain ⟨l, i1, i2, i3, i4, i5, i6⟩ := argBs_all (i := i + 1) h e1
      refine ⟨l, by simpa [argBs, argB] using i1, i2, i3, fun S hS hM hi t => ?_, fun p hp => i5 p hp, fun p hp => i6 p hp⟩
      cases t with
      | succ t => simpa [argBs] using i4 S hS hM hi t
      | zero =>
        simp only [argBs, argB, List.getD_cons_zero]
        cases sh with
        | one k =>
          have hv : RepC w M0 k v d := hv
          refine ⟨?_, hv.oneCell⟩
          show RepC S.w S.me k v (env.getD i default)
          rw [hS, e0]
          exact hv.mono hM
        | agg ks =>
          obtain ⟨us, rfl, hv⟩ := hv
          refine ⟨us, rfl, ?_⟩
          rw [sdats_den]
          refine dats_rep ?_
          rw [hS, E.den, e0]
          exact hv.mono hM
        | pim ks =>
          obtain ⟨b, o, us, rfl, h1, h2, hv⟩ := hv
          refine ⟨b, o, us, rfl, by rw [hS]; exact h1, fun j hj hm => h2 j hj (hM _ _ hm), ?_⟩
          rw [hS, E.den, e0]
          exact hv.mono hM
    | one c =>
      obtain ⟨v, vs', d, ds', F, Fs', rfl, rfl, rfl, hc, h⟩ := h
      obtain ⟨e0, e1⟩ := he' rfl
      obtain ⟨l, i1, i2, i3, i4, i5, i6⟩ := argBs_all (i := i + 1) h e1
      obtain ⟨c1, c2, c3, c4⟩ := argBC_all (Φ := Φ) (env := env) (key := bk i + 1) (e := fun _ => .var i) (j := 0) (cs := [c]) hc (fun q hq => by
        simp only [List.length_singleton] at hq
        have : q = 0 := by omega
        subst this
        simp [E.den, ← e0])
      refine ⟨itmA (bk i + 1) (fun _ => .var i) 0 [c] [v] F ++ l, by simp only [List.map_append, c1, i1, argBs, argB], by simp only [List.flatMap_append, c2, i2, List.flatten_append], fun it hit => ?_, fun S hS hM hi t => ?_, fun p hp => ?_, fun p hp => ?_⟩
      · rcases List.mem_append.1 hit with hit | hit
        · exact (c3 it hit).mono fun _ h => by simp at h
        · exact (i3 it hit).mono fun _ h => List.mem_append.2 (.inr h)
      · cases t with
        | succ t => simpa [argBs] using i4 S hS hM (fun it h => hi it (List.mem_append.2 (.inr h))) t
        | zero =>
          simp only [argBs, argB, List.getD_cons_zero]
          have h4 := c4 S hS hM (fun it h => hi it (List.mem_append.2 (.inl h)))
          cases c <;>
          · obtain ⟨v', vs2, e2, o2, r2, _⟩ := h4
            simp only [List.cons.injEq] at e2
            obtain ⟨rfl, rfl⟩ := e2
            exact ⟨r2, o2⟩
      · obtain ⟨xs, F, hm⟩ := i5 p hp
        exact ⟨xs, F, List.mem_append.2 (.inr hm)⟩
      · obtain ⟨T, cs, F, b, hm, hb⟩ := i6 p hp
        exact ⟨T, cs, F, b, List.mem_append.2 (.inr hm), hb⟩
    | agg cs =>
      obtain ⟨us, vs', d, ds', F, Fs', rfl, rfl, rfl, hc, h⟩ := h
      obtain ⟨e0, e1⟩ := he' rfl
      obtain ⟨l, i1, i2, i3, i4, i5, i6⟩ := argBs_all (i := i + 1) h e1
      obtain ⟨c1, c2, c3, c4⟩ := argBC_all (Φ := Φ) (env := env) (key := bk i + 1) (e := eFld i) (j := 0) hc (fun q hq => by rw [Nat.zero_add]; show d.row.getD q default = (env.getD i default).row.getD q default; rw [e0])
      refine ⟨itmA (bk i + 1) (eFld i) 0 cs us F ++ l, by simp only [List.map_append, c1, i1, argBs, argB], by simp only [List.flatMap_append, c2, i2, List.flatten_append], fun it hit => ?_, fun S hS hM hi t => ?_, fun p hp => ?_, fun p hp => ?_⟩
      · rcases List.mem_append.1 hit with hit | hit
        · exact (c3 it hit).mono fun _ h => by simp at h
        · exact (i3 it hit).mono fun _ h => List.mem_append.2 (.inr h)
      · cases t with
        | succ t => simpa [argBs] using i4 S hS hM (fun it h => hi it (List.mem_append.2 (.inr h))) t
        | zero =>
          simp only [argBs, argB, List.getD_cons_zero]
          exact ⟨us, rfl, c4 S hS hM fun it h => hi it (List.mem_append.2 (.inl h))⟩
      · obtain ⟨xs, F, hm⟩ := i5 p hp
        exact ⟨xs, F, List.mem_append.2 (.inr hm)⟩
      · obtain ⟨T, cs, F, b, hm, hb⟩ := i6 p hp
        exact ⟨T, cs, F, b, List.mem_append.2 (.inr hm), hb⟩
    | box T cs =>
      obtain ⟨b, us, vs', d, ds', F, Fs', rfl, rfl, rfl, hw, hc, h⟩ := h
      obtain ⟨e0, e1⟩ := he' rfl
      obtain ⟨l, i1, i2, i3, i4, i5, i6⟩ := argBs_all (i := i + 1) h e1
      obtain ⟨c1, c2, c3, c4⟩ := argBC_all (Φ := Φ) (env := env) (key := bk i + 1) (e := eFld i) (j := 0) hc (fun q hq => by rw [Nat.zero_add]; show d.row.getD q default = (env.getD i default).row.getD q default; rw [e0])
      let bx : Itm := ⟨bk i, .box T (argBC (bk i + 1) (eFld i) 0 cs), .pointer (some ⟨b, 0, none⟩), [b]⟩
      refine ⟨bx :: (itmA (bk i + 1) (eFld i) 0 cs us F ++ l), by simp only [bx, List.map_cons, List.map_append, c1, i1, argBs, argB, List.cons_append],
        by simp only [bx, List.flatMap_cons, List.flatMap_append, c2, i2, List.flatten_cons, List.flatten_append], fun it hit => ?_, fun S hS hM hi t => ?_, fun p hp => ?_, fun p hp => ?_⟩
      · rcases List.mem_cons.1 hit with rfl | hit
        · exact .box T _ b us rfl rfl rfl hw fun S hS hM hi => c4 S hS hM fun it h => hi it (List.mem_cons_of_mem _ (List.mem_append.2 (.inl h)))
        · rcases List.mem_append.1 hit with hit | hit
          · exact (c3 it hit).mono fun _ h => by simp at h
          · exact (i3 it hit).mono fun _ h => List.mem_cons_of_mem _ (List.mem_append.2 (.inr h))
      · cases t with
        | succ t => simpa [argBs] using i4 S hS hM (fun it h => hi it (List.mem_cons_of_mem _ (List.mem_append.2 (.inr h)))) t
        | zero =>
          simp only [argBs, argB, List.getD_cons_zero]
          obtain ⟨q1, q2⟩ := hi bx (List.mem_cons_self ..)
          show PtrRep S (bk i) _ 0 _
          unfold PtrRep
          rw [q1]
          exact ⟨b, q2, rfl⟩
      · simp only [pinsX, List.mem_append] at hp
        rcases hp with hp | hp
        · obtain ⟨n, t, ks, h1, h2, h3, h4, h5⟩ := pinsC_mem hp
          have hcl : cellsAt w (.pointer (some ⟨b, 0, none⟩)) = us := by simp only [cellsAt, hw]
          rw [hcl] at h5
          obtain ⟨F', hF'⟩ := itmA_get (key := bk i + 1) (e := eFld i) (j := 0) hc h2 h5
          refine ⟨eFld i (0 + n), F', List.mem_cons_of_mem _ (List.mem_append.2 (.inl ?_))⟩
          rw [h1, h3, h4]
          exact hF'
        · obtain ⟨xs, F, hm⟩ := i5 p hp
          exact ⟨xs, F, List.mem_cons_of_mem _ (List.mem_append.2 (.inr hm))⟩
      · simp only [pinsB, List.mem_cons] at hp
        rcases hp with rfl | hp
        · exact ⟨T, _, [b], b, List.mem_cons_self .., rfl⟩
        · obtain ⟨T, cs, F, b, hm, hb⟩ := i6 p hp
          exact ⟨T, cs, F, b, List.mem_cons_of_mem _ (List.mem_append.2 (.inr hm)), hb⟩

theorem slook_itms (x : Nat) : ∀ l : List Itm, slook x (l.map fun i => (i.key, i.ob)) = (ilook x l).map Itm.ob
  | [] => rfl
  | i :: l => by
    simp only [List.map_cons, slook, ilook]
    by_cases h : x = i.key
    · rw [if_pos h]
      have : (x == i.key) = true := by simpa using h
      rw [this]; rfl
    · rw [if_neg h]
      have : (x == i.key) = false := by simpa using h
      rw [this, cond_false, slook_itms x l]

theorem startB_rel {C : Cx} {args : List BSh} {vs : List Value} {ds : List D} {Fs : List (List Nat)} (h : BReps C.w0 (fun b o => C.M b o ∨ b ∈ Fs.flatten) args vs ds Fs) (hl : args.length ≤ C.n) (hX : C.X = Fs.flatten) (hnd : Fs.flatten.Nodup)
    (hlt : ∀ b, b ∈ Fs.flatten → b < C.w0.heap.size) (hk : nodupB ((argBs 0 args).2.map (·.1)) = true) (hpin : C.pin = pinsX C.w0 0 args vs) (hpinB : C.pinB = pinsB 0 args vs) :
    ∃ g, Rel C g ((startB args C.n).den Φ ds) { tmps := vs.toArray ++ Array.replicate (C.n - vs.toArray.size) undef, defers := [] } C.w0 := by
  obtain ⟨h3, h2⟩ := h.len
  obtain ⟨l, i1, i2, i3, i4, i5, i6⟩ := argBs_all (Φ := Φ) (env := ds) (i := 0) h fun j => by rw [Nat.zero_add]
  have hkn : (l.map Itm.key).Nodup := by
    have : l.map Itm.key = (argBs 0 args).2.map (·.1) := by rw [← i1]; simp [Function.comp_def]
    rw [this]; exact nodupB_iff hk
  have hobj : ∀ x, ((startB args C.n).den Φ ds).obj x = (ilook x l).map fun i => i.ob.den Φ ds := fun x => by
    rw [SSt.den_obj]
    show (slook x (argBs 0 args).2).map _ = _
    rw [← i1, slook_itms]
    cases ilook x l <;> rfl
  let g : Gh := G0.itms l
  have hhd : ∀ i, i ∈ l → g.hd i.key = i.hd := fun i hi => by simp only [g, Gh.itms, ilook_of hkn hi]
  have hfp : ∀ i, i ∈ l → g.fp i.key = i.fp := fun i hi => by simp only [g, Gh.itms, ilook_of hkn hi]
  have hob : ∀ i, i ∈ l → ((startB args C.n).den Φ ds).obj i.key = some (i.ob.den Φ ds) := fun i hi => by rw [hobj, ilook_of hkn hi]; rfl
  have hno : ∀ x, x ∉ l.map Itm.key → ((startB args C.n).den Φ ds).obj x = none ∧ g.fp x = [] := fun x hx => by
    have := ilook_none.2 hx
    exact ⟨by rw [hobj, this]; rfl, by simp only [g, Gh.itms, this, G0]⟩
  have hmem : ∀ i, i ∈ l → ∀ b, b ∈ i.fp → b ∈ Fs.flatten := fun i hi b hb => by rw [← i2]; exact List.mem_flatMap.2 ⟨i, hi, hb⟩
  have hme : ∀ b o, Me C.M ((startB args C.n).den Φ ds).obj g.hd g.fp b o → C.M b o ∨ b ∈ Fs.flatten := fun b o hm => by
    rcases hm with hm | ⟨x, hx, hb⟩ | ⟨x, hx, hb⟩
    · exact .inl hm
    · by_cases hxl : x ∈ l.map Itm.key
      · obtain ⟨i, hi, rfl⟩ := List.mem_map.1 hxl
        rw [hhd i hi] at hb
        rw [hob i hi] at hx
        refine .inr (hmem i hi b ?_)
        cases i3 i hi with
        | arr t ks xs h ho =>
          obtain ⟨_, _, h1, _, _, _, h5, _⟩ := ho
          rw [blk_own h1] at hb
          rw [h5, hb]; simp
        | arx t ks xs h ho => rw [h] at hx; simp [SOb.den, Ob.live] at hx
        | box T cs b' us h hh hf hw hc =>
          rw [hh] at hb
          simp only [blkOf, Option.some.injEq] at hb
          rw [hf, hb]; simp
      · rw [(hno x hxl).1] at hx; simp [Ob.live] at hx
    · by_cases hxl : x ∈ l.map Itm.key
      · obtain ⟨i, hi, rfl⟩ := List.mem_map.1 hxl
        rw [hfp i hi] at hb
        exact .inr (hmem i hi b hb)
      · rw [(hno x hxl).2] at hb; simp at hb
  have hplace : ∀ i, i ∈ l → (sur C g ((startB args C.n).den Φ ds) C.w0).obj i.key = some (i.ob.den Φ ds) ∧ (sur C g ((startB args C.n).den Φ ds) C.w0).hd i.key = i.hd := fun i hi => ⟨hob i hi, hhd i hi⟩
  have hpw := List.pairwise_flatten.1 (by rw [← List.flatMap_def, i2]; exact hnd : (l.map Itm.fp).flatten.Nodup)
  refine ⟨g, rfl, by simp [h3]; omega, by simp [SSt.den, startB, argBs_len]; omega, fun t => ?_, fun x => ?_, fun x => ?_, fun x y hxy b hb hb' => ?_, fun x b hb => ?_, ⟨rfl, rfl, rfl, Nat.le_refl _, fun _ _ _ => rfl⟩, ⟨fun p hp => ?_, fun p hp => ?_⟩⟩
  · rw [SSt.den_tmp]
    have ht : (startB args C.n).tmp t = (argBs 0 args).1.getD t .dead := by
      unfold SSt.tmp startB
      simp only [List.getD_eq_getElem?_getD, List.getElem?_append, List.getElem?_replicate]
      split
      · rfl
      · rename_i hn
        rw [List.getElem?_eq_none (l := (argBs 0 args).1) (by omega)]
        split <;> rfl
    have hv : (vs.toArray ++ Array.replicate (C.n - vs.toArray.size) undef).getD t undef = vs.getD t undef := by
      simp only [Array.getD_eq_getD_getElem?, List.getD_eq_getElem?_getD, Array.getElem?_append, Array.getElem?_replicate, List.getElem?_toArray, List.size_toArray]
      split
      · rfl
      · rename_i hn
        rw [List.getElem?_eq_none (l := vs) (by omega)]
        split <;> rfl
    rw [ht]
    show RepAV _ _ ((vs.toArray ++ Array.replicate (C.n - vs.toArray.size) undef).getD t undef)
    rw [hv]
    exact i4 _ rfl hme hplace t
  · by_cases hxl : x ∈ l.map Itm.key
    · obtain ⟨i, hi, rfl⟩ := List.mem_map.1 hxl
      unfold RepOb
      simp only [sur, hob i hi, hhd i hi, hfp i hi]
      cases i3 i hi with
      | arr t ks xs h ho =>
        simp only [h, SOb.den]
        obtain ⟨vss, fps, q1, q2, q3, q4, q5, q6⟩ := ho
        refine ⟨vss, fps, q1, q2, q3, q4, q5, fun j row us f e1 e2 e3 => ?_⟩
        have := q6 j row us f e1 e2 e3
        rw [if_neg (by simp)] at this ⊢
        exact ⟨this.1.mono hme, this.2⟩
      | arx t ks xs h ho =>
        simp only [h, SOb.den]
        obtain ⟨vss, fps, q1, q2, q3, q4, q5, q6⟩ := ho
        exact ⟨vss, fps, q1, q2, q3, q4, q5, fun j row us f e1 e2 e3 => by have := q6 j row us f e1 e2 e3; rwa [if_pos rfl] at this⟩
      | box T cs b us h hh hf hw hc =>
        simp only [h, SOb.den]
        exact ⟨b, us, hh, hf, hw, hc _ rfl hme hplace⟩
    · unfold RepOb
      simp only [sur, (hno x hxl).1]
      exact (hno x hxl).2
  · by_cases hxl : x ∈ l.map Itm.key
    · obtain ⟨i, hi, rfl⟩ := List.mem_map.1 hxl
      rw [hfp i hi]
      exact hpw.1 _ (List.mem_map.2 ⟨i, hi, rfl⟩)
    · rw [(hno x hxl).2]; exact List.nodup_nil
  · by_cases hxl : x ∈ l.map Itm.key
    · by_cases hyl : y ∈ l.map Itm.key
      · obtain ⟨i, hi, rfl⟩ := List.mem_map.1 hxl
        obtain ⟨j, hj, rfl⟩ := List.mem_map.1 hyl
        rw [hfp i hi] at hb
        rw [hfp j hj] at hb'
        obtain ⟨p, hp, rfl⟩ := List.getElem_of_mem hi
        obtain ⟨q, hq, rfl⟩ := List.getElem_of_mem hj
        have hpq : p ≠ q := fun e => hxy (by subst e; rfl)
        have hP := List.pairwise_iff_getElem.1 hpw.2
        rcases Nat.lt_or_gt_of_ne hpq with h | h
        · exact hP p q (by simpa using hp) (by simpa using hq) h b (by simpa using hb) b (by simpa using hb') rfl
        · exact hP q p (by simpa using hq) (by simpa using hp) h b (by simpa using hb') b (by simpa using hb) rfl
      · rw [(hno y hyl).2] at hb'; simp at hb'
    · rw [(hno x hxl).2] at hb; simp at hb
  · by_cases hxl : x ∈ l.map Itm.key
    · obtain ⟨i, hi, rfl⟩ := List.mem_map.1 hxl
      rw [hfp i hi] at hb
      have := hmem i hi b hb
      exact ⟨.inr (by rw [hX]; exact this), hlt b this⟩
    · rw [(hno x hxl).2] at hb; simp at hb
  · rw [hpin] at hp
    obtain ⟨xs, F, hm⟩ := i5 p hp
    obtain ⟨q1, q2⟩ := hplace _ hm
    refine ⟨_, q1, fun e ks ys he => ?_⟩
    simp only [SOb.den, Ob.arx.injEq] at he
    obtain ⟨rfl, rfl, _⟩ := he
    exact ⟨rfl, rfl, q2, fun i j u hu => hu⟩
  · rw [hpinB] at hp
    obtain ⟨T, cs, F, b, hm, hb⟩ := i6 p hp
    obtain ⟨q1, q2⟩ := hplace _ hm
    unfold PtrRep
    simp only at q1 q2
    rw [q1, q2]
    exact ⟨b, hb, hb⟩
end

/-! What is left. -/
def rcell (s : SSt) : RC → SC → Option (E × List (Nat × Bool))
  | .im k, c => match liveK s c, sargC s k c with
    | [], some (e, _) => some (e, [])
    | _, _ => none
  | .own t ks _, .nil t' ks' => bif t' == t && K.eqbs ks' ks then some (.nl, []) else none
  | .own t ks dp, .ref z none => match s.obj z with
    | some (.arr t' ks' dp' xs) => bif (t' == t && K.eqbs ks' ks) && (dp' || (!dp || plainK ks)) then some (.op .asl [xs], [(z, dp && dp')]) else none
    | some (.arx t' ks' xs) => bif t' == t && K.eqbs ks' ks then some (.op .asl [xs], [(z, dp)]) else none
    | _ => none
  | _, _ => none
def rcells (s : SSt) : List RC → List SC → Option (List E × List (Nat × Bool))
  | [], [] => some ([], [])
  | r :: rs, c :: cs => match rcell s r c, rcells s rs cs with
    | some (e, k), some (es, ks) => some (e :: es, k ++ ks)
    | _, _ => none
  | _, _ => none
def fcell (s : SSt) (key : Nat) (j : Nat) : BC → SC → Option (E × List (Nat × Bool))
  | .im k, c => rcell s (.im k) c
  | .own t ks, c => rcell s (.own t ks false) c
  | .ex t ks false, .nil t' ks' => bif t' == t && K.eqbs ks' ks then some (.nl, []) else none
  | .ex t ks pin, .ref z none => match s.obj z with
    | some (.arx t' ks' xs) => bif (t' == t && K.eqbs ks' ks) && (!pin || z == key + j) then some (.op .asl [xs], [(z, true)]) else none
    | _ => none
  | _, _ => none
def fcells (s : SSt) (key : Nat) : Nat → List BC → List SC → Option (List E × List (Nat × Bool))
  | _, [], [] => some ([], [])
  | j, r :: rs, c :: cs => match fcell s key j r c, fcells s key (j + 1) rs cs with
    | some (e, k), some (es, ks) => some (e :: es, k ++ ks)
    | _, _ => none
  | _, _, _ => none
def finBx (s : SSt) : Nat → List BSh → Option (List E × List (Nat × Bool))
  | _, [] => some ([], [])
  | i, .box T cs :: ss => match s.obj (bk i) with
    | some (.box T' ds) => bif T' == T then match fcells s (bk i + 1) 0 cs ds, finBx s (i + 1) ss with
        | some (es, k), some (es', k') => some (es ++ es', (bk i, true) :: (k ++ k'))
        | _, _ => none
      else none
    | _ => none
  | i, .im _ :: ss => finBx s (i + 1) ss
  | i, .one _ :: ss => finBx s (i + 1) ss
  | i, .agg _ :: ss => finBx s (i + 1) ss
def finB (T : TypeId → TI) (rv : List ResultVar) (rets : List RSh) (args : List BSh) (s : SSt) : Option (List E) :=
  match resVs T s rv with
  | some vs => match finV rets vs with
    | some cs => match rcells s (rets.flatMap RSh.cells) cs, finBx s 0 args with
      | some (es, k), some (es', k') => bif nodupB ((k ++ k').map (·.1)) then some (es ++ es') else none
      | _, _ => none
    | none => none
  | none => none

section
variable {Φ : Fns} {env : List D} {C : Cx} {g : Gh} {s : SSt} {a : Act} {w : World}

/-- A block that may be written: one of those that are left. -/
def InX (C : Cx) (g : Gh) (σ : St) (kx : List (Nat × Bool)) (b : Nat) : Prop := ∃ q, q ∈ kx ∧ b ∈ xB g q ∧ ∀ o, Me C.M σ.obj g.hd g.fp b o
theorem InX.mono {σ : St} {kx kx' : List (Nat × Bool)} {b : Nat} (h : InX C g σ kx b) (hk : ∀ q, q ∈ kx → q ∈ kx') : InX C g σ kx' b := by
  obtain ⟨q, h1, h2⟩ := h
  exact ⟨q, hk q h1, h2⟩

theorem head_fp (R : Rel C g (s.den Φ env) a w) {z : Nat} (hz : (∃ t ks dp xs, s.obj z = some (.arr t ks dp xs)) ∨ ∃ t ks xs, s.obj z = some (.arx t ks xs)) {b : Nat} (hb : b ∈ (g.hd z).ownBlock.toList) : b ∈ g.fp z ∧ ∀ o, Me C.M (s.den Φ env).obj g.hd g.fp b o := by
  have ho := R.objs z
  unfold RepOb at ho
  rcases hz with ⟨t, ks, dp, xs, hz⟩ | ⟨t, ks, xs, hz⟩
  · have hz' := obj_is (Φ := Φ) (env := env) hz
    simp only [sur, hz', SOb.den] at ho
    obtain ⟨vss, fps, h1, _, _, _, h5, _⟩ := ho
    refine ⟨by rw [h5]; exact List.mem_append.2 (.inl hb), fun o => .inr (.inl ⟨z, by rw [hz']; rfl, by rw [blk_own h1]; simpa using hb⟩)⟩
  · have hz' := obj_is (Φ := Φ) (env := env) hz
    simp only [sur, hz', SOb.den] at ho
    obtain ⟨vss, fps, h1, _, _, _, h5, _⟩ := ho
    have : b ∈ g.fp z := by rw [h5]; exact List.mem_append.2 (.inl hb)
    exact ⟨this, fun o => .inr (.inr ⟨z, by rw [hz']; rfl, this⟩)⟩

theorem rcell_rep (R : Rel C g (s.den Φ env) a w) {M0 : Nat → Nat → Prop} {r : RC} {c : SC} {v : Value} {e : E} {kx : List (Nat × Bool)} (hc : RepAC (sur C g (s.den Φ env) w) (c.den Φ env) v) (h : rcell s r c = some (e, kx)) (hH : Hand C g (s.den Φ env) M0 kx) :
    (∀ q, q ∈ kx → ∀ b, b ∈ xB g q → b ∈ g.fp q.1) ∧ (∀ b, b ∈ r.head v → InX C g (s.den Φ env) kx b) ∧
    match r with
    | .im k => RepC w M0 k v (e.den Φ env) ∧ kx = []
    | .own t ks dp => OwnRep w M0 t ks dp v (e.den Φ env).asList (kx.flatMap (xB g)) := by
  cases r with
  | im k =>
    simp only [rcell] at h
    split at h
    · rename_i e' l hl hs
      simp only [Option.some.injEq, Prod.mk.injEq] at h
      obtain ⟨rfl, rfl⟩ := h
      exact ⟨fun q hq => by simp at hq, fun b hb => by simp [RC.head] at hb, sargC_repM R hH.le (fun z hz => by rw [hl] at hz; simp at hz) hc hs, rfl⟩
    · cases h
  | own t0 ks dp =>
    cases c with
    | nil t' ks' =>
      obtain ⟨_, h4⟩ := bif_some (show (bif t' == t0 && K.eqbs ks' ks then some ((.nl, []) : E × List (Nat × Bool)) else none) = some (e, kx) from h)
      simp only [Option.some.injEq, Prod.mk.injEq] at h4
      obtain ⟨rfl, rfl⟩ := h4
      have hv : v = .slice none 0 0 := hc
      subst hv
      exact ⟨fun q hq => by simp at hq, fun b hb => by simp [RC.head, Value.ownBlock] at hb, nil_own _ _ _ _ _⟩
    | ref z p =>
      cases p with
      | some p => simp [rcell] at h
      | none =>
        simp only [rcell] at h
        have hr' : RefRep (sur C g (s.den Φ env) w) z none v := hc
        split at h
        · rename_i t' ks' dp' ys hz
          obtain ⟨h3, h4⟩ := bif_some h
          simp only [Bool.and_eq_true, beq_iff_eq] at h3
          obtain ⟨⟨rfl, h5⟩, h7⟩ := h3
          have h6 := K.eqbs_eq h5
          subst h6
          simp only [Option.some.injEq, Prod.mk.injEq] at h4
          obtain ⟨rfl, rfl⟩ := h4
          have hz' := obj_is (Φ := Φ) (env := env) hz
          unfold RefRep at hr'
          simp only [sur, hz', SOb.den] at hr'
          have hv : v = g.hd z := hr'.2
          subst hv
          have hhead : ∀ b, b ∈ (g.hd z).ownBlock.toList → b ∈ g.fp z ∧ ∀ o, Me C.M (s.den Φ env).obj g.hd g.fp b o := fun b hb => head_fp R (.inl ⟨_, _, _, _, hz⟩) hb
          have hin : ∀ b, b ∈ (g.hd z).ownBlock.toList → b ∈ xB g (z, dp && dp') := fun b hb => by
            unfold xB; split
            · exact (hhead b hb).1
            · exact hb
          have hob := R.objs z
          unfold RepOb at hob
          simp only [sur, hz', SOb.den] at hob
          obtain ⟨vss, fps, q1, q2, q3, q4, q5, q6⟩ := hob
          refine ⟨fun q hq b hb => ?_, fun b hb => ⟨_, List.mem_singleton.2 rfl, hin b (by simpa [RC.head] using hb), (hhead b (by simpa [RC.head] using hb)).2⟩, ?_⟩
          · simp only [List.mem_singleton] at hq
            subst hq
            unfold xB at hb
            split at hb
            · exact hb
            · exact (hhead b hb).1
          · simp only [List.flatMap_cons, List.flatMap_nil, List.append_nil]
            have hden : ((E.op .asl [ys]).den Φ env).asList = (ys.den Φ env).asList := by simp [E.den, E.dens, opD]
            rw [hden]
            cases dp with
            | false =>
              have := arr_own R hH.le hz
              simpa [xB] using this
            | true =>
              cases dp' with
              | true =>
                simp only [Bool.and_self, xB, if_true]
                exact ⟨vss, fps, q1, q2, q3, q4, q5, fun i row us f e1 e2 e3 => by have := q6 i row us f e1 e2 e3; rwa [if_pos rfl] at this⟩
              | false =>
                have hp : plainK ks' = true := by simpa using h7
                simp only [Bool.and_false, xB, Bool.false_eq_true, if_false]
                refine ⟨vss, List.replicate (ys.den Φ env).asList.length [], q1, q2, q3, by simp, by simp, fun i row us f e1 e2 e3 => ?_⟩
                have hlt := (List.getElem?_eq_some_iff.1 e1).1
                have e4 : fps[i]? = some (fps[i]'(by omega)) := List.getElem?_eq_getElem (by omega)
                have := q6 i row us _ e1 e2 e4
                rw [if_neg (by simp)] at this
                rw [if_pos rfl, (List.mem_replicate.1 (List.mem_of_getElem? e3)).2]
                exact this.1.plain hp
        · rename_i t' ks' ys hz
          obtain ⟨h3, h4⟩ := bif_some h
          simp only [Bool.and_eq_true, beq_iff_eq] at h3
          obtain ⟨rfl, h5⟩ := h3
          have h6 := K.eqbs_eq h5
          subst h6
          simp only [Option.some.injEq, Prod.mk.injEq] at h4
          obtain ⟨rfl, rfl⟩ := h4
          have hz' := obj_is (Φ := Φ) (env := env) hz
          unfold RefRep at hr'
          simp only [sur, hz', SOb.den] at hr'
          have hv : v = g.hd z := hr'
          subst hv
          have hhead : ∀ b, b ∈ (g.hd z).ownBlock.toList → b ∈ g.fp z ∧ ∀ o, Me C.M (s.den Φ env).obj g.hd g.fp b o := fun b hb => head_fp R (.inr ⟨_, _, _, hz⟩) hb
          have hin : ∀ b, b ∈ (g.hd z).ownBlock.toList → b ∈ xB g (z, dp) := fun b hb => by
            unfold xB; split
            · exact (hhead b hb).1
            · exact hb
          refine ⟨fun q hq b hb => ?_, fun b hb => ⟨_, List.mem_singleton.2 rfl, hin b (by simpa [RC.head] using hb), (hhead b (by simpa [RC.head] using hb)).2⟩, ?_⟩
          · simp only [List.mem_singleton] at hq
            subst hq
            unfold xB at hb
            split at hb
            · exact hb
            · exact (hhead b hb).1
          · simp only [List.flatMap_cons, List.flatMap_nil, List.append_nil]
            have hden : ((E.op .asl [ys]).den Φ env).asList = (ys.den Φ env).asList := by simp [E.den, E.dens, opD]
            rw [hden]
            cases dp with
            | false =>
              have := arx_own R (M0 := M0) hz (fun b hb o hm => by have := hH.off (z, false) (by simp) b hb o hm; simpa [xB] using this)
              simpa [xB] using this
            | true =>
              have := arx_ex R (M0 := M0) hz
              simpa [xB] using this
        · cases h
    | _ => simp [rcell] at h

theorem rcells_rep (R : Rel C g (s.den Φ env) a w) {M0 : Nat → Nat → Prop} : ∀ {rs : List RC} {cs : List SC} {vs : List Value} {es : List E} {kx : List (Nat × Bool)}, RepACs (sur C g (s.den Φ env) w) (cs.map (SC.den Φ env)) vs → rcells s rs cs = some (es, kx) → Hand C g (s.den Φ env) M0 kx →
    (∃ Fs, RetCs w M0 rs vs (es.map (E.den Φ env)) Fs ∧ Fs.flatten = kx.flatMap (xB g)) ∧ es.length = rs.length ∧ (∀ q, q ∈ kx → ∀ b, b ∈ xB g q → b ∈ g.fp q.1) ∧ ∀ b, b ∈ retHeads rs vs → InX C g (s.den Φ env) kx b
  | [], [], vs, es, kx, hv, h, _ => by
    simp only [rcells, Option.some.injEq, Prod.mk.injEq] at h
    obtain ⟨rfl, rfl⟩ := h
    have hv : vs = [] := hv
    subst hv
    exact ⟨⟨[], ⟨rfl, rfl⟩, rfl⟩, rfl, fun q hq => by simp at hq, fun b hb => by simp [retHeads] at hb⟩
  | [], _ :: _, _, _, _, _, h, _ => by simp [rcells] at h
  | _ :: _, [], _, _, _, _, h, _ => by simp [rcells] at h
  | r :: rs, c :: cs, vs, es, kx, hv, h, hH => by
    obtain ⟨v, vs', rfl, _, hc, hr⟩ := hv
    simp only [rcells] at h
    split at h
    · rename_i e k1 es1 k2 h1 h2
      simp only [Option.some.injEq, Prod.mk.injEq] at h
      obtain ⟨rfl, rfl⟩ := h
      obtain ⟨⟨Fs, i1, i2⟩, i3, i4, i5⟩ := rcells_rep R (M0 := M0) hr h2 ⟨hH.le, fun q hq => hH.off q (List.mem_append.2 (.inr hq))⟩
      obtain ⟨j1, j2, j3⟩ := rcell_rep R hc h1 ⟨hH.le, fun q hq => hH.off q (List.mem_append.2 (.inl hq))⟩
      refine ⟨?_, by simp [i3], fun q hq => ?_, fun b hb => ?_⟩
      · cases r with
        | im k =>
          obtain ⟨j3, rfl⟩ := j3
          exact ⟨Fs, ⟨v, vs', rfl, j3, i1⟩, by simpa using i2⟩
        | own t ks dp => exact ⟨k1.flatMap (xB g) :: Fs, ⟨v, vs', _, Fs, rfl, rfl, j3, i1⟩, by simp [i2]⟩
      · rcases List.mem_append.1 hq with hq | hq
        · exact j1 q hq
        · exact i4 q hq
      · simp only [retHeads, List.mem_append] at hb
        rcases hb with hb | hb
        · exact (j2 b hb).mono fun q hq => List.mem_append.2 (.inl hq)
        · exact (i5 b hb).mono fun q hq => List.mem_append.2 (.inr hq)
    · cases h

theorem fcells_rep (R : Rel C g (s.den Φ env) a w) {M0 : Nat → Nat → Prop} {key : Nat} : ∀ {rs : List BC} {cs : List SC} {vs : List Value} {es : List E} {kx : List (Nat × Bool)} {j : Nat}, RepACs (sur C g (s.den Φ env) w) (cs.map (SC.den Φ env)) vs → fcells s key j rs cs = some (es, kx) → Hand C g (s.den Φ env) M0 kx →
    (∃ Fs, RetCs w M0 (rs.map BC.rc) vs (es.map (E.den Φ env)) Fs ∧ Fs.flatten = kx.flatMap (xB g) ∧ ∀ b, b ∈ cHD rs vs Fs → InX C g (s.den Φ env) kx b) ∧ es.length = rs.length ∧ (∀ q, q ∈ kx → ∀ b, b ∈ xB g q → b ∈ g.fp q.1) ∧
    (∀ n t ks, rs[n]? = some (.ex t ks true) → ∃ xs, s.obj (key + (j + n)) = some (.arx t ks xs) ∧ vs[n]? = some (g.hd (key + (j + n)))) ∧ ∀ k, BC.keep k ∉ rs
  | [], [], vs, es, kx, j, hv, h, _ => by
    simp only [fcells, Option.some.injEq, Prod.mk.injEq] at h
    obtain ⟨rfl, rfl⟩ := h
    have hv : vs = [] := hv
    subst hv
    exact ⟨⟨[], ⟨rfl, rfl⟩, rfl, fun b hb => by simp [cHD] at hb⟩, rfl, fun q hq => by simp at hq, fun n t ks h => by simp at h, fun k h => by simp at h⟩
  | [], _ :: _, _, _, _, _, _, h, _ => by simp [fcells] at h
  | _ :: _, [], _, _, _, _, _, h, _ => by simp [fcells] at h
  | r :: rs, c :: cs, vs, es, kx, j, hv, h, hH => by
    obtain ⟨v, vs', rfl, _, hc, hr⟩ := hv
    simp only [fcells] at h
    split at h
    · rename_i e k1 es1 k2 h1 h2
      simp only [Option.some.injEq, Prod.mk.injEq] at h
      obtain ⟨rfl, rfl⟩ := h
      obtain ⟨⟨Fs, i1, i2, i2'⟩, i3, i4, i5, i6⟩ := fcells_rep R (M0 := M0) hr h2 ⟨hH.le, fun q hq => hH.off q (List.mem_append.2 (.inr hq))⟩
      have hH1 : Hand C g (s.den Φ env) M0 k1 := ⟨hH.le, fun q hq => hH.off q (List.mem_append.2 (.inl hq))⟩
      have tail5 : ∀ n t ks, rs[n]? = some (.ex t ks true) → ∃ xs, s.obj (key + (j + (n + 1))) = some (.arx t ks xs) ∧ vs'[n]? = some (g.hd (key + (j + (n + 1)))) := fun n t ks hn => by
        have := i5 n t ks hn
        rwa [show j + 1 + n = j + (n + 1) by omega] at this
      have i4' : (∀ q, q ∈ k1 → ∀ b, b ∈ xB g q → b ∈ g.fp q.1) → ∀ q, q ∈ k1 ++ k2 → ∀ b, b ∈ xB g q → b ∈ g.fp q.1 := fun j1 q hq => by
        rcases List.mem_append.1 hq with hq | hq
        · exact j1 q hq
        · exact i4 q hq
      have i2'' : ∀ b, b ∈ cHD rs vs' Fs → InX C g (s.den Φ env) (k1 ++ k2) b := fun b hb => (i2' b hb).mono fun q hq => List.mem_append.2 (.inr hq)
      cases r with
      | keep k => simp [fcell] at h1
      | im k =>
        obtain ⟨j1, j2, j3, rfl⟩ := rcell_rep R hc (show rcell s (.im k) c = some (e, k1) from by simpa [fcell] using h1) hH1
        refine ⟨⟨Fs, ⟨v, vs', rfl, j3, i1⟩, by simpa using i2, i2''⟩, by simp [i3], i4' j1, fun n t ks hn => ?_, fun k' hk => ?_⟩
        · cases n with
          | zero => simp at hn
          | succ n => exact tail5 n t ks (by simpa using hn)
        · rcases List.mem_cons.1 hk with hk | hk
          · cases hk
          · exact i6 k' hk
      | own t0 ks0 =>
        obtain ⟨j1, j2, j3⟩ := rcell_rep R hc (show rcell s (.own t0 ks0 false) c = some (e, k1) from by simpa [fcell] using h1) hH1
        refine ⟨⟨k1.flatMap (xB g) :: Fs, ⟨v, vs', _, Fs, rfl, rfl, j3, i1⟩, by simp [i2], fun b hb => ?_⟩, by simp [i3], i4' j1, fun n t ks hn => ?_, fun k' hk => ?_⟩
        · simp only [cHD, List.mem_append] at hb
          rcases hb with hb | hb
          · exact (j2 b hb).mono fun q hq => List.mem_append.2 (.inl hq)
          · exact i2'' b hb
        · cases n with
          | zero => simp at hn
          | succ n => exact tail5 n t ks (by simpa using hn)
        · rcases List.mem_cons.1 hk with hk | hk
          · cases hk
          · exact i6 k' hk
      | ex t0 ks0 pin =>
        have main : (∃ F, OwnRep w M0 t0 ks0 true v (e.den Φ env).asList F ∧ F = k1.flatMap (xB g)) ∧ (∀ q, q ∈ k1 → ∀ b, b ∈ xB g q → b ∈ g.fp q.1) ∧ (∀ b, b ∈ k1.flatMap (xB g) → InX C g (s.den Φ env) k1 b) ∧
            (pin = true → ∃ xs, s.obj (key + j) = some (.arx t0 ks0 xs) ∧ v = g.hd (key + j)) := by
          have ref : ∀ {z : Nat}, c = .ref z none → (match s.obj z with
              | some (.arx t' ks' xs) => bif (t' == t0 && K.eqbs ks' ks0) && (!pin || z == key + j) then some (E.op .asl [xs], [(z, true)]) else none
              | _ => none) = some (e, k1) → (∃ F, OwnRep w M0 t0 ks0 true v (e.den Φ env).asList F ∧ F = k1.flatMap (xB g)) ∧ (∀ q, q ∈ k1 → ∀ b, b ∈ xB g q → b ∈ g.fp q.1) ∧ (∀ b, b ∈ k1.flatMap (xB g) → InX C g (s.den Φ env) k1 b) ∧
            (pin = true → ∃ xs, s.obj (key + j) = some (.arx t0 ks0 xs) ∧ v = g.hd (key + j)) := fun {z} ec hm1 => by
            subst ec
            have hr' : RefRep (sur C g (s.den Φ env) w) z none v := hc
            split at hm1
            · rename_i t' ks' ys hz
              obtain ⟨h3, h4⟩ := bif_some hm1
              simp only [Bool.and_eq_true, beq_iff_eq] at h3
              obtain ⟨⟨rfl, h5⟩, h7⟩ := h3
              have h6 := K.eqbs_eq h5
              subst h6
              simp only [Option.some.injEq, Prod.mk.injEq] at h4
              obtain ⟨rfl, rfl⟩ := h4
              have hz' := obj_is (Φ := Φ) (env := env) hz
              unfold RefRep at hr'
              simp only [sur, hz', SOb.den] at hr'
              have hv : v = g.hd z := hr'
              subst hv
              have hden : ((E.op .asl [ys]).den Φ env).asList = (ys.den Φ env).asList := by simp [E.den, E.dens, opD]
              refine ⟨⟨g.fp z, by rw [hden]; exact arx_ex R (M0 := M0) hz, by simp [xB]⟩, fun q hq b hb => ?_, fun b hb => ?_, fun hp => ?_⟩
              · simp only [List.mem_singleton] at hq
                subst hq
                simpa [xB] using hb
              · have hb' : b ∈ g.fp z := by simpa [xB] using hb
                exact ⟨(z, true), by simp, by simpa [xB] using hb', fun o => .inr (.inr ⟨z, by rw [hz']; rfl, hb'⟩)⟩
              · rw [hp] at h7
                have : z = key + j := by simpa using h7
                subst this
                exact ⟨ys, hz, rfl⟩
            · cases hm1
          cases c with
          | nil t' ks' =>
            cases pin with
            | true => simp [fcell] at h1
            | false =>
              obtain ⟨_, h4⟩ := bif_some (show (bif t' == t0 && K.eqbs ks' ks0 then some ((.nl, []) : E × List (Nat × Bool)) else none) = some (e, k1) from h1)
              simp only [Option.some.injEq, Prod.mk.injEq] at h4
              obtain ⟨rfl, rfl⟩ := h4
              have hv : v = .slice none 0 0 := hc
              subst hv
              exact ⟨⟨[], nil_own _ _ _ _ _, rfl⟩, fun q hq => by simp at hq, fun b hb => by simp at hb, fun h => by cases h⟩
          | ref z p =>
            cases p with
            | some p => cases pin <;> simp [fcell] at h1
            | none => exact ref rfl (by cases pin <;> exact h1)
          | dat _ _ => cases pin <;> simp [fcell] at h1
          | dead => cases pin <;> simp [fcell] at h1
        obtain ⟨⟨F, j3, rfl⟩, j1, j2, j4⟩ := main
        refine ⟨⟨k1.flatMap (xB g) :: Fs, ⟨v, vs', _, Fs, rfl, rfl, j3, i1⟩, by simp [i2], fun b hb => ?_⟩, by simp [i3], i4' j1, fun n t ks hn => ?_, fun k' hk => ?_⟩
        · simp only [cHD, List.mem_append] at hb
          rcases hb with hb | hb
          · exact (j2 b hb).mono fun q hq => List.mem_append.2 (.inl hq)
          · exact i2'' b hb
        · cases n with
          | zero =>
            simp only [List.getElem?_cons_zero, Option.some.injEq, BC.ex.injEq] at hn
            obtain ⟨rfl, rfl, rfl⟩ := hn
            obtain ⟨xs, hx, rfl⟩ := j4 rfl
            exact ⟨xs, hx, rfl⟩
          | succ n => exact tail5 n t ks (by simpa using hn)
        · rcases List.mem_cons.1 hk with hk | hk
          · cases hk
          · exact i6 k' hk
    · cases h

theorem retCs_outs {w0 : World} {M : Nat → Nat → Prop} : ∀ {cs : List BC} {us0 us : List Value} {ds : List D} {Gs : List (List Nat)}, RetCs w M (cs.map BC.rc) us ds Gs → us0.length = cs.length → (∀ k, BC.keep k ∉ cs) →
    (∀ (n : Nat) (t : TypeId) (ks : List K), cs[n]? = some (BC.ex t ks true) → us[n]? = us0[n]? ∧ ∀ v i j x, us0[n]? = some v → LodAt w0 ks v i j x → LodAt w ks v i j x) → BOutCs w0 w M cs us0 us ds Gs
  | [], _, _, _, _, h, _, _, _ => h
  | c :: cs, [], _, _, _, _, hl, _, _ => by simp at hl
  | c :: cs, v0 :: us0, us, ds, Gs, h, hl, hk, hp => by
    have hl' : us0.length = cs.length := by simpa using hl
    have hk' : ∀ k, BC.keep k ∉ cs := fun k hm => hk k (List.mem_cons_of_mem _ hm)
    have hp' : ∀ {us' : List Value} {v : Value}, us = v :: us' → ∀ (n : Nat) (t : TypeId) (ks : List K), cs[n]? = some (BC.ex t ks true) → us'[n]? = us0[n]? ∧ ∀ v i j x, us0[n]? = some v → LodAt w0 ks v i j x → LodAt w ks v i j x := fun e n t ks hn => by
      subst e
      simpa using hp (n + 1) t ks (by simpa using hn)
    cases c with
    | keep k => exact absurd (List.mem_cons_self ..) (hk k)
    | im k =>
      obtain ⟨v, vs', rfl, hc, hr⟩ := h
      exact ⟨v0, us0, v, vs', rfl, rfl, hc, retCs_outs hr hl' hk' (hp' rfl)⟩
    | own t ks =>
      obtain ⟨v, vs', F, Fs', rfl, rfl, ho, hr⟩ := h
      exact ⟨v0, us0, v, vs', F, Fs', rfl, rfl, rfl, ho, retCs_outs hr hl' hk' (hp' rfl)⟩
    | ex t ks pin =>
      obtain ⟨v, vs', F, Fs', rfl, rfl, ho, hr⟩ := h
      refine ⟨v0, us0, v, vs', F, Fs', rfl, rfl, rfl, ho, fun e => ?_, retCs_outs hr hl' hk' (hp' rfl)⟩
      subst e
      obtain ⟨h1, h2⟩ := hp 0 t ks rfl
      simp only [List.getElem?_cons_zero, Option.some.injEq] at h1
      exact ⟨h1, fun i j x => h2 v0 i j x rfl⟩

def boxRC : List BSh → List RC
  | [] => []
  | .box _ cs :: ss => cs.map BC.rc ++ boxRC ss
  | .im _ :: ss => boxRC ss
  | .one _ :: ss => boxRC ss
  | .agg _ :: ss => boxRC ss
def outDs (φ : Nat → D) : Nat → List BSh → List D
  | _, [] => []
  | n, .box _ cs :: ss => (List.range cs.length).map (fun j => (φ n).row.getD j default) ++ outDs φ (n + 1) ss
  | n, .im _ :: ss => outDs φ n ss
  | n, .one _ :: ss => outDs φ n ss
  | n, .agg _ :: ss => outDs φ n ss

theorem eqRets_append : ∀ {cs cs' : List RC} {x x' y y' : List D}, x.length = cs.length → y.length = cs.length → eqRets (cs ++ cs') (x ++ x') (y ++ y') → eqRets cs x y ∧ eqRets cs' x' y'
  | [], cs', x, x', y, y', hx, hy, h => by
    have hx : x = [] := List.eq_nil_of_length_eq_zero hx
    have hy : y = [] := List.eq_nil_of_length_eq_zero hy
    subst hx hy
    exact ⟨trivial, h⟩
  | c :: cs, cs', [], _, _, _, hx, _, _ => by simp at hx
  | c :: cs, cs', _ :: _, _, [], _, _, hy, _ => by simp at hy
  | c :: cs, cs', a :: x, x', b :: y, y', hx, hy, h => by
    obtain ⟨h1, h2⟩ := h
    obtain ⟨h3, h4⟩ := eqRets_append (x := x) (y := y) (by simpa using hx) (by simpa using hy) h2
    exact ⟨⟨h1, h3⟩, h4⟩

theorem range_get (n : Nat) (r : List D) (j : Nat) (hj : j < n) : ((List.range n).map fun j => r.getD j default).getD j default = r.getD j default := by
  simp [List.getD_eq_getElem?_getD, hj]

/-- The boxes that are left. -/
theorem finBx_rep (R : Rel C g (s.den Φ env) a w) {M0 M' : Nat → Nat → Prop} (hM : ∀ b o, M' b o → M0 b o) : ∀ {ss : List BSh} {i n : Nat} {vs : List Value} {ds : List D} {Fs : List (List Nat)} {es : List E} {kx : List (Nat × Bool)} {φ : Nat → D} {Mx : Nat → Nat → Prop},
    BReps C.w0 Mx ss vs ds Fs → finBx s i ss = some (es, kx) → Hand C g (s.den Φ env) M0 kx → (∀ p, p ∈ pinsX C.w0 i ss vs → p ∈ C.pin) → (∀ p, p ∈ pinsB i ss vs → p ∈ C.pinB) → eqRets (boxRC ss) (es.map (E.den Φ env)) (outDs φ n ss) →
    ∃ Bs Gs, BOuts C.w0 w M' n ss vs φ Bs Gs ∧ bFp ss vs Gs = kx.flatMap (xB g) ∧ (∀ b, b ∈ bHD ss vs Bs Gs → InX C g (s.den Φ env) kx b) ∧ ∀ q, q ∈ kx → ∀ b, b ∈ xB g q → b ∈ g.fp q.1
  | [], i, n, vs, ds, Fs, es, kx, φ, Mx, hb, h, hH, hp, hpB, he => by
    simp only [finBx, Option.some.injEq, Prod.mk.injEq] at h
    obtain ⟨rfl, rfl⟩ := h
    obtain ⟨rfl, rfl, rfl⟩ := hb
    exact ⟨[], [], ⟨rfl, rfl⟩, rfl, fun b hb => by simp [bHD] at hb, fun q hq => by simp at hq⟩
  | .im sh :: ss, i, n, vs, ds, Fs, es, kx, φ, Mx, hb, h, hH, hp, hpB, he => by
    obtain ⟨v, vs', d, ds', rfl, rfl, _, hb⟩ := hb
    exact finBx_rep R hM (ss := ss) hb h hH (fun p hm => hp p hm) (fun p hm => hpB p hm) he
  | .one c :: ss, i, n, vs, ds, Fs, es, kx, φ, Mx, hb, h, hH, hp, hpB, he => by
    obtain ⟨v, vs', d, ds', F, Fs', rfl, rfl, rfl, _, hb⟩ := hb
    exact finBx_rep R hM (ss := ss) hb h hH (fun p hm => hp p hm) (fun p hm => hpB p hm) he
  | .agg cs :: ss, i, n, vs, ds, Fs, es, kx, φ, Mx, hb, h, hH, hp, hpB, he => by
    obtain ⟨us, vs', d, ds', F, Fs', rfl, rfl, rfl, _, hb⟩ := hb
    exact finBx_rep R hM (ss := ss) hb h hH (fun p hm => hp p hm) (fun p hm => hpB p hm) he
  | .box T cs :: ss, i, n, vs, ds, Fs, es, kx, φ, Mx, hb, h, hH, hp, hpB, he => by
    obtain ⟨b, us0, vs', d, ds', F, Fs', rfl, rfl, rfl, hw0, hrc, hb⟩ := hb
    simp only [finBx] at h
    split at h
    · rename_i T' dc hy
      obtain ⟨h1, h2⟩ := bif_some h
      clear h
      have h1 : T' = T := by simpa using h1
      subst h1
      split at h2
      · rename_i es1 k1 es2 k2 hf hr
        simp only [Option.some.injEq, Prod.mk.injEq] at h2
        obtain ⟨rfl, rfl⟩ := h2
        have hy' := obj_is (Φ := Φ) (env := env) hy
        have hpt := R.pin.2 _ (hpB (bk i, .pointer (some ⟨b, 0, none⟩)) (by simp [pinsB]))
        unfold PtrRep at hpt
        simp only [sur, hy', SOb.den] at hpt
        obtain ⟨b1, hb', e'⟩ := hpt
        simp only [Value.pointer.injEq, Option.some.injEq, Addr.mk.injEq, and_true] at e'
        rw [← e'] at hb'
        clear e'
        have ho := R.objs (bk i)
        unfold RepOb at ho
        simp only [sur, hy', SOb.den] at ho
        obtain ⟨b2, us, hb2, hfp, hh, hcs⟩ := ho
        rw [hb'] at hb2
        simp only [Value.pointer.injEq, Option.some.injEq, Addr.mk.injEq, and_true] at hb2
        rw [← hb2] at hfp hh
        clear hb2
        have hH1 : Hand C g (s.den Φ env) M0 k1 := ⟨hH.le, fun q hq => hH.off q (List.mem_cons_of_mem _ (List.mem_append.2 (.inl hq)))⟩
        have hH2 : Hand C g (s.den Φ env) M0 k2 := ⟨hH.le, fun q hq => hH.off q (List.mem_cons_of_mem _ (List.mem_append.2 (.inr hq)))⟩
        obtain ⟨⟨G, g1, g2, g3⟩, g4, g5, g6, g7⟩ := fcells_rep R hcs hf hH1
        have hlen0 : us0.length = cs.length := by
          have : ∀ {cs : List RC} {vs : List Value} {ds : List D} {Fs : List (List Nat)}, RetCs C.w0 Mx cs vs ds Fs → vs.length = cs.length := by
            intro cs
            induction cs with
            | nil => intro vs ds Fs h; rw [h.1]; rfl
            | cons c cs ih =>
              intro vs ds Fs h
              cases c with
              | im k => obtain ⟨v, vs', rfl, _, h⟩ := h; simp [ih h]
              | own t ks dp => obtain ⟨v, vs', F, Fs', rfl, _, _, h⟩ := h; simp [ih h]
          simpa using this hrc
        have hle : ((es1 ++ es2).map (E.den Φ env)) = es1.map (E.den Φ env) ++ es2.map (E.den Φ env) := by simp
        rw [hle] at he
        obtain ⟨he1, he2⟩ := eqRets_append (by simp [g4]) (by simp) (show eqRets (cs.map BC.rc ++ boxRC ss) _ ((List.range cs.length).map (fun j => (φ n).row.getD j default) ++ outDs φ (n + 1) ss) from he)
        obtain ⟨Bs, Gs, i1, i2, i3, i4⟩ := finBx_rep R hM (i := i + 1) (n := n + 1) hb hr hH2 (fun p hm => hp p (by simp only [pinsX]; exact List.mem_append.2 (.inr hm))) (fun p hm => hpB p (by simp only [pinsB]; exact List.mem_cons_of_mem _ hm)) he2
        have gR : RetCs w M' (cs.map BC.rc) us (φ n).row G := ((g1.eqv he1).ext fun j hj => range_get _ _ _ (by simpa using hj)).to (.inl hM)
        refine ⟨us :: Bs, G :: Gs, ⟨b, us0, vs', us, Bs, G, Gs, rfl, hw0, rfl, rfl, hh, retCs_outs gR hlen0 g7 fun m t ks hm => ?_, i1⟩, ?_, fun c hc => ?_, fun q hq => ?_⟩
        · obtain ⟨xs, q1, q2⟩ := g6 m t ks hm
          rw [Nat.zero_add] at q1 q2
          have hml : m < us0.length := by rw [hlen0]; exact (List.getElem?_eq_some_iff.1 hm).1
          have hu0 : us0[m]? = some us0[m] := List.getElem?_eq_getElem hml
          have hpm : (bk i + 1 + m, t, ks, us0[m]) ∈ C.pin := hp _ (by
            simp only [pinsX]
            refine List.mem_append.2 (.inl ?_)
            have hcl : cellsAt C.w0 (.pointer (some ⟨b, 0, none⟩)) = us0 := by simp only [cellsAt, hw0]
            rw [hcl]
            have := pinsC_get (key := bk i + 1) (j := 0) hm hu0
            rwa [Nat.zero_add] at this)
          obtain ⟨o, ho, hx⟩ := R.pin.1 _ hpm
          have q1' := obj_is (Φ := Φ) (env := env) q1
          simp only [sur, q1', Option.some.injEq] at ho
          obtain ⟨_, _, x3, x4⟩ := hx _ _ _ ho.symm
          simp only [sur] at x3 x4
          refine ⟨by rw [q2, x3, hu0], fun v i' j' x hv hl => ?_⟩
          rw [hu0] at hv
          simp only [Option.some.injEq] at hv
          subst hv
          exact x4 i' j' x hl
        · simp only [bFp, blkOf, Option.toList, i2, g2, List.flatMap_cons, List.flatMap_append, xB, if_true, hfp, List.cons_append, List.nil_append]
        · simp only [bHD, blkOf, List.mem_append, Option.toList] at hc
          rcases hc with hc | hc | hc
          · simp only [List.mem_singleton] at hc
            subst hc
            exact ⟨(bk i, true), by simp, by simp [xB, hfp], fun o => .inr (.inl ⟨bk i, by rw [hy']; rfl, by rw [hb']; rfl⟩)⟩
          · exact (g3 c hc).mono fun q hq => List.mem_cons_of_mem _ (List.mem_append.2 (.inl hq))
          · exact (i3 c hc).mono fun q hq => List.mem_cons_of_mem _ (List.mem_append.2 (.inr hq))
        · rcases List.mem_cons.1 hq with rfl | hq
          · intro b hb; simpa [xB] using hb
          · rcases List.mem_append.1 hq with hq | hq
            · exact g5 q hq
            · exact i4 q hq
      · cases h2
    · cases h

theorem funB_of {P : Program} {T : TypeId → TI} (tok : ∀ t, (T t).ok = true → TOk P T t) (hm : P.follows .mixedOrders = true) {CT : Nat → Option Sig} (hCT : Told P Φ CT) {f : FuncId} {fn : Func} {c : Code}
    (hf : P.funcs[f]? = some fn) (hb : fn.body = some c) {args : List BSh} {rets : List RSh} {φ : Nat → List D → D} {G : Nat → SSt → Code → List It → Option (SSt × Nat)} {fuel : Nat} {vc : VC}
    (hl : args.length ≤ fn.ntmps) (hk : nodupB ((argBs 0 args).2.map (·.1)) = true)
    (hv : run T CT G (finB T fn.results.toList rets args) fuel args.length (startB args fn.ntmps) [.code c] = some vc)
    (hw : ∀ ds, ds.length = args.length → (φ 1000 ds).asBool = true → vc.wp Φ (fun l => eqRets (rets.flatMap RSh.cells ++ boxRC args) l (retDs (fun c => φ c ds) 0 rets ++ outDs (fun n => φ (2000 + n) ds) 0 args)) ds fun _ _ => False) : FunB P f args rets φ := by
  intro w M vs ds Fs hM hgl hargs hnd hlt hpre
  have hlen := hargs.len
  let C : Cx := { P := P, T := T, tok := tok, w0 := w, X := Fs.flatten, M := M, mold := hM, n := fn.ntmps, pin := pinsX w 0 args vs, pinBig := fun p hp => pinsX_big hp, pinB := pinsB 0 args vs, pinBBig := fun p hp => pinsB_big hp, gl := hgl }
  refine calls_of_wp hf hb ?_
  obtain ⟨g0, R0⟩ : ∃ g, Rel C g ((startB args fn.ntmps).den Φ ds) { tmps := vs.toArray ++ Array.replicate (fn.ntmps - vs.toArray.size) undef, defers := [] } w := startB_rel (C := C) hargs hl rfl hnd hlt hk rfl rfl
  let F : Exit → Act → World → Prop := bodyPost P fn fun e w' => ∃ us Rs Bs Gs, e = .returned (mkRet rets us) ∧ Fr w Fs.flatten w' ∧
      RetCs w' (MeH M (retHeads (rets.flatMap RSh.cells) us ++ bHD args vs Bs Gs)) (rets.flatMap RSh.cells) us (retDs (fun c => φ c ds) 0 rets) Rs ∧
      BOuts w w' (MeH M (retHeads (rets.flatMap RSh.cells) us ++ bHD args vs Bs Gs)) 0 args vs (fun n => φ (2000 + n) ds) Bs Gs ∧
      (Rs.flatten ++ bFp args vs Gs).Nodup ∧ ∀ b, b ∈ Rs.flatten ++ bFp args vs Gs → (w.heap.size ≤ b ∨ b ∈ Fs.flatten) ∧ b < w'.heap.size
  have hend : ∀ env g s a w' es, finB T fn.results.toList rets args s = some es → Rel C g (SSt.den Φ env s) a w' → (fun l => eqRets (rets.flatMap RSh.cells ++ boxRC args) l (retDs (fun c => φ c ds) 0 rets ++ outDs (fun n => φ (2000 + n) ds) 0 args)) (es.map (E.den Φ env)) →
      F .normal a w' ∧ F .ret a w' := fun env g s a w' es he R hp => by
    suffices hh : ∃ us Rs Bs Gs, (results fn a.tmps).run C.P w' = .ok (mkRet rets us) w' ∧ Fr w Fs.flatten w' ∧
      RetCs w' (MeH M (retHeads (rets.flatMap RSh.cells) us ++ bHD args vs Bs Gs)) (rets.flatMap RSh.cells) us (retDs (fun c => φ c ds) 0 rets) Rs ∧
      BOuts w w' (MeH M (retHeads (rets.flatMap RSh.cells) us ++ bHD args vs Bs Gs)) 0 args vs (fun n => φ (2000 + n) ds) Bs Gs ∧
      (Rs.flatten ++ bFp args vs Gs).Nodup ∧ ∀ b, b ∈ Rs.flatten ++ bFp args vs Gs → (w.heap.size ≤ b ∨ b ∈ Fs.flatten) ∧ b < w'.heap.size by
      obtain ⟨us, Rs, Bs, Gs, e1, e2⟩ := hh
      exact ⟨⟨R.defers, _, e1, us, Rs, Bs, Gs, rfl, e2⟩, ⟨R.defers, _, e1, us, Rs, Bs, Gs, rfl, e2⟩⟩
    unfold finB at he
    split at he
    · rename_i uv h1
      split at he
      · rename_i cs h2
        split at he
        · rename_i es1 k1 es2 k2 h3 h4
          obtain ⟨h5, h6⟩ := bif_some he
          clear he
          simp only [Option.some.injEq] at h6
          subst h6
          obtain ⟨ws, r1, r2⟩ := resVs_run R h1
          obtain ⟨us, q1, q2, q3⟩ := finV_rep r2 h2
          have hkn := nodupB_iff h5
          have hsame : ∀ q q', q ∈ k1 ++ k2 → q' ∈ k1 ++ k2 → q.1 = q'.1 → q = q' := fun q q' hq hq' e => by
            obtain ⟨i, hi, rfl⟩ := List.getElem_of_mem hq
            obtain ⟨j, hj, rfl⟩ := List.getElem_of_mem hq'
            by_cases hij : i = j
            · subst hij; rfl
            · have hp := List.pairwise_iff_getElem.1 hkn
              rcases Nat.lt_or_gt_of_ne hij with hlt | hlt
              · exact absurd (by rw [List.getElem_map, List.getElem_map]; exact e) (hp i j (by simpa using hi) (by simpa using hj) hlt)
              · exact absurd (by rw [List.getElem_map, List.getElem_map]; exact e.symm) (hp j i (by simpa using hj) (by simpa using hi) hlt)
          let M0 : Nat → Nat → Prop := fun b o => Me C.M (s.den Φ env).obj g.hd g.fp b o ∧ ∀ q, q ∈ k1 ++ k2 → b ∈ g.fp q.1 → b ∈ xB g q
          have hH : Hand C g (s.den Φ env) M0 (k1 ++ k2) := ⟨fun b o h => h.1, fun q hq b hb o hm => hm.2 q hq hb⟩
          obtain ⟨⟨Rs, a1, a2⟩, a3, a4, a5⟩ := rcells_rep R (M0 := M0) q1 h3 ⟨hH.le, fun q hq => hH.off q (List.mem_append.2 (.inl hq))⟩
          rw [List.map_append] at hp
          have hrl : (retDs (fun c => φ c ds) 0 rets).length = (rets.flatMap RSh.cells).length := by
            have := sretE_length f ([] : List E) rets 0
            have h2 := sretE_den (Φ := fun _ c _ => φ c ds) (env := []) f [] rets 0
            rw [← this, ← List.length_map (f := E.den (fun _ c _ => φ c ds) []), h2]
          obtain ⟨p1, p2⟩ := eqRets_append (by simp [a3]) hrl hp
          have H2 : Hand C g (s.den Φ env) M0 k2 := ⟨hH.le, fun q hq => hH.off q (List.mem_append.2 (.inr hq))⟩
          -- the boxes first: which blocks
          obtain ⟨Bs, Gs, b1, b2, b3, b4⟩ := finBx_rep R (M0 := M0) (M' := M0) (fun _ _ h => h) (i := 0) (n := 0) hargs h4 H2 (fun p hm => hm) (fun p hm => hm) p2
          have hfpx : ∀ q, q ∈ k1 ++ k2 → ∀ b, b ∈ xB g q → b ∈ g.fp q.1 := fun q hq => by
            rcases List.mem_append.1 hq with hq | hq
            · exact a4 q hq
            · exact b4 q hq
          have hMM : ∀ b o, MeH M (retHeads (rets.flatMap RSh.cells) us ++ bHD args vs Bs Gs) b o → M0 b o := fun b o hm => by
            rcases hm with hm | hm
            · refine ⟨.inl hm, fun q hq hbq => ?_⟩
              have := C.mold b o hm
              rcases (R.alw q.1 b hbq).1 with h7 | h7
              · omega
              · exact absurd h7 this.2
            · have hX : InX C g (s.den Φ env) (k1 ++ k2) b := by
                rcases List.mem_append.1 hm with hm | hm
                · exact (a5 b hm).mono fun q hq => List.mem_append.2 (.inl hq)
                · exact (b3 b hm).mono fun q hq => List.mem_append.2 (.inr hq)
              obtain ⟨q, hq, hbq, hme⟩ := hX
              refine ⟨hme o, fun q' hq' hb' => ?_⟩
              have hbf := hfpx q hq b hbq
              by_cases e : q.1 = q'.1
              · rw [← hsame q q' hq hq' e]; exact hbq
              · exact absurd hb' (R.apart q.1 q'.1 e b hbf)
          have outs : ∀ {M1 M2 : Nat → Nat → Prop}, (∀ b o, M2 b o → M1 b o) → ∀ {ss : List BSh} {n : Nat} {vs : List Value} {φ : Nat → D} {Bs : List (List Value)} {Gs : List (List (List Nat))}, BOuts w w' M1 n ss vs φ Bs Gs → BOuts w w' M2 n ss vs φ Bs Gs := by
            intro M1 M2 hM12
            have cell : ∀ {cs : List BC} {us0 us : List Value} {ds : List D} {Gs : List (List Nat)}, BOutCs w w' M1 cs us0 us ds Gs → BOutCs w w' M2 cs us0 us ds Gs := by
              intro cs
              induction cs with
              | nil => intro us0 us ds Gs h; exact h
              | cons c cs ih =>
                intro us0 us ds Gs h
                have ow : ∀ {t : TypeId} {ks : List K} {dp : Bool} {v : Value} {xs : List (List D)} {F : List Nat}, OwnRep w' M1 t ks dp v xs F → OwnRep w' M2 t ks dp v xs F := fun h => by
                  obtain ⟨vss, fps, h1, h2, h3, h4, h5, h6⟩ := h
                  refine ⟨vss, fps, h1, h2, h3, h4, h5, fun i row us f e1 e2 e3 => ?_⟩
                  have := h6 i row us f e1 e2 e3
                  split at this
                  · rename_i hd; rw [if_pos hd]; exact this
                  · rename_i hd; rw [if_neg hd]; exact ⟨this.1.mono hM12, this.2⟩
                cases c with
                | keep k => obtain ⟨v, vs', us', e1, e2, h⟩ := h; exact ⟨v, vs', us', e1, e2, ih h⟩
                | im k => obtain ⟨v, vs', u, us', e1, e2, h1, h⟩ := h; exact ⟨v, vs', u, us', e1, e2, h1.mono hM12, ih h⟩
                | own t ks => obtain ⟨v, vs', u, us', G, Gs', e1, e2, e3, h1, h⟩ := h; exact ⟨v, vs', u, us', G, Gs', e1, e2, e3, ow h1, ih h⟩
                | ex t ks pin => obtain ⟨v, vs', u, us', G, Gs', e1, e2, e3, h1, h2, h⟩ := h; exact ⟨v, vs', u, us', G, Gs', e1, e2, e3, ow h1, h2, ih h⟩
            intro ss
            induction ss with
            | nil => intro n vs φ Bs Gs h; exact h
            | cons x ss ih =>
              intro n vs φ Bs Gs h
              cases x with
              | box T cs => obtain ⟨b, us0, vs', us, Bs', G, Gs', e1, e2, e3, e4, e5, h1, h⟩ := h; exact ⟨b, us0, vs', us, Bs', G, Gs', e1, e2, e3, e4, e5, cell h1, ih h⟩
              | im sh => exact ih (n := n) (vs := vs.tail) h
              | one c => exact ih (n := n) (vs := vs.tail) h
              | agg cs => exact ih (n := n) (vs := vs.tail) h
          have hall : Rs.flatten ++ bFp args vs Gs = (k1 ++ k2).flatMap (xB g) := by rw [a2, b2, List.flatMap_append]
          refine ⟨us, Rs, Bs, Gs, ?_, R.fr, (a1.eqv p1).to (.inl hMM), outs hMM b1, ?_, fun b hb => ?_⟩
          · rw [results_eq, show fn.results = fn.results.toList.toArray by simp]
            simp only [List.mapM_toArray, Sem.run_bind]
            have : ((List.toArray <$> List.mapM (resS a.tmps) fn.results.toList : Sem (Array Value))).run C.P w' = .ok ws.toArray w' := by simp [r1]
            rw [this]
            simp only [Result.andThen, Sem.run_pure]
            subst q2
            congr 1
            rcases rets with _ | ⟨r, _ | ⟨r2, rs⟩⟩
            · rfl
            · have : us.take r.cells.length = us := List.take_of_length_le (by rw [q3]; simp)
              simp [mkRets, mkRet, this]
            · simp [mkRets, mkRet]
          · rw [hall]
            refine List.nodup_iff_pairwise_ne.2 ?_
            rw [List.pairwise_flatMap]
            refine ⟨fun q hq => ?_, ?_⟩
            · have hnd : (xB g q).Nodup := by
                unfold xB
                split
                · exact R.own q.1
                · cases (g.hd q.1).ownBlock <;> simp
              exact List.nodup_iff_pairwise_ne.1 hnd
            · have hp := List.pairwise_map.1 hkn
              refine List.Pairwise.imp_of_mem (fun {q q'} hq hq' hne b hb b' hb' e => ?_) hp
              subst e
              exact R.apart q.1 q'.1 hne b (hfpx q hq b hb) (hfpx q' hq' b hb')
          · rw [hall] at hb
            obtain ⟨q, hq, hbq⟩ := List.mem_flatMap.1 hb
            exact R.alw q.1 b (hfpx q hq b hbq)
        · cases he
      · cases he
    · cases he
  have := run_sound (C := C) (Φ := Φ) (CT := CT) hm hCT (F := F) hend fuel args.length (startB args fn.ntmps) [.code c] vc hv ds (fun _ _ => False) _ g0 _ w hlen.2 ⟨_, rfl, rfl⟩ R0 (hw ds hlen.2 hpre)
  exact this
end
end Go.Vx

/-
  Vx, part 34c: a function that makes a variable and hands back a pointer to it.
-/
namespace Go.Vx
open Go.RowKit (Below)

def fcN : List K → List SC → Option (List E)
  | [], [] => some []
  | k :: ks, .dat k' e :: cs => bif K.eqb k' k then (fcN ks cs).map (e :: ·) else none
  | _, _ => none
def finN (rv : List ResultVar) (bt : TypeId) (ks : List K) (s : SSt) : Option (List E) := match rv with
  | [.tmp t] => match s.tmp t with
    | .ptr z _ 0 => match s.obj z with
      | some (.box T' cs) => bif T' == bt then fcN ks cs else none
      | _ => none
    | _ => none
  | _ => none

theorem fcN_rep {Φ : Fns} {env : List D} {S : Sur} {M : Nat → Nat → Prop} (hM : ∀ b o, M b o → S.me b o) : ∀ {ks : List K} {cs : List SC} {es : List E} {vs : List Value}, fcN ks cs = some es → RepACs S (cs.map (SC.den Φ env)) vs → RepCs S.w M ks vs (es.map (E.den Φ env))
  | [], [], es, vs, h, hr => by
    simp only [fcN, Option.some.injEq] at h
    subst h
    exact hr
  | k :: ks, .dat k' e :: cs, es, vs, h, hr => by
    simp only [fcN] at h
    obtain ⟨h1, h2⟩ := bif_some h
    simp only [Option.map_eq_some_iff] at h2
    obtain ⟨es', h3, rfl⟩ := h2
    have := K.eqb_eq h1
    subst this
    obtain ⟨v, vs', rfl, ho, hv, hr'⟩ := hr
    have hv : RepC S.w S.me k' v (e.den Φ env) := hv
    exact ⟨v, vs', rfl, hv.mono hM, fcN_rep hM h3 hr'⟩
  | [], _ :: _, _, _, h, _ => by simp [fcN] at h
  | _ :: _, [], _, _, h, _ => by simp [fcN] at h
  | _ :: _, .nil _ _ :: _, _, _, h, _ => by simp [fcN] at h
  | _ :: _, .ref _ _ :: _, _, _, h, _ => by simp [fcN] at h
  | _ :: _, .dead :: _, _, _, h, _ => by simp [fcN] at h

theorem finN_sound {Φ : Fns} {env : List D} {C : Cx} {g : Gh} {s : SSt} {a : Act} {w : World} (R : Rel C g (s.den Φ env) a w) {fn : Func} {bt : TypeId} {ks : List K} {es : List E} (h : finN fn.results.toList bt ks s = some es) :
    ∃ b us, (results fn a.tmps).run C.P w = .ok (.pointer (some ⟨b, 0, none⟩)) w ∧ (C.w0.heap.size ≤ b ∨ b ∈ C.X) ∧ w.heap[b]? = some (.cells (List.toArray us) bt (0, 0)) ∧ RepCs w (fun c o => C.M c o ∨ c = b) ks us (es.map (E.den Φ env)) := by
  unfold finN at h
  split at h
  · rename_i t hrv
    split at h
    · rename_i z i hz
      split at h
      · rename_i T' cs hy
        obtain ⟨h1, h2⟩ := bif_some h
        have hT : T' = bt := by simpa using h1
        subst hT
        have h' := R.tmps t
        rw [SSt.den_tmp, hz] at h'
        have h' : PtrRep (sur C g (s.den Φ env) w) z _ 0 (a.tmps.getD t undef) := h'
        have hy' := obj_is (Φ := Φ) (env := env) hy
        unfold PtrRep at h'
        simp only [sur, hy', SOb.den] at h'
        obtain ⟨b, hb, e⟩ := h'
        have ho' := R.objs z
        unfold RepOb at ho'
        simp only [sur, hy', SOb.den] at ho'
        obtain ⟨b', vs, hb', hfp, hh, hcs⟩ := ho'
        rw [hb] at hb'
        simp only [Value.pointer.injEq, Option.some.injEq, Addr.mk.injEq, and_true] at hb'
        subst hb'
        refine ⟨b, vs, ?_, (R.alw z b (by rw [hfp]; simp)).1, hh, ?_⟩
        · rw [results_eq, show fn.results = fn.results.toList.toArray by simp, hrv]
          simp [resS, e]
        · refine fcN_rep (S := sur C g (s.den Φ env) w) (fun c o hc => ?_) h2 hcs
          rcases hc with hc | rfl
          · exact .inl hc
          · exact .inr (.inl ⟨z, by show (match (s.den Φ env).obj z with | _ => _); simp [hy', SOb.den, Ob.live], by simp [hb, blkOf]⟩)
      · cases h
    · cases h
  · cases h

section
variable {Φ : Fns}
theorem funN_of {P : Program} {T : TypeId → TI} (tok : ∀ t, (T t).ok = true → TOk P T t) (hm : P.follows .mixedOrders = true) {CT : Nat → Option Sig} (hCT : Told P Φ CT) {f : FuncId} {fn : Func} {c : Code}
    (hf : P.funcs[f]? = some fn) (hb : fn.body = some c) {args : List ASh} {bt : TypeId} {ks : List K} {φ : Nat → List D → D} {G : Nat → SSt → Code → List It → Option (SSt × Nat)} {fuel : Nat} {vc : VC}
    (hl : args.length ≤ fn.ntmps) (hv : run T CT G (finN fn.results.toList bt ks) fuel args.length (start args fn.ntmps) [.code c] = some vc)
    (hw : ∀ ds, ds.length = args.length → WFAs args ds → (φ 1000 ds).asBool = true → vc.wp Φ (fun l => l = (φ 0 ds).row) ds fun _ _ => False) : FunN P f args bt ks φ := by
  intro w M vs ds hM hgl hargs hpre
  obtain ⟨h1, h2, h3⟩ := hargs.wf
  let C : Cx := { P := P, T := T, tok := tok, w0 := w, X := [], M := M, mold := fun b o h => ⟨hM b o h, by simp⟩, n := fn.ntmps, pin := [], pinBig := fun p hp => by simp at hp, pinB := [], pinBBig := fun p hp => by simp at hp, gl := fun w' h => hgl.fr h }
  refine calls_of_wp hf hb ?_
  have R0 : Rel C G0 ((start args fn.ntmps).den Φ ds) { tmps := vs.toArray ++ Array.replicate (fn.ntmps - vs.toArray.size) undef, defers := [] } w := start_rel (C := C) hargs hl rfl rfl
  have hend : ∀ env g s a w' es, finN fn.results.toList bt ks s = some es → Rel C g (SSt.den Φ env s) a w' → es.map (E.den Φ env) = (φ 0 ds).row →
      bodyPost P fn (fun e w' => ∃ b us, e = .returned (.pointer (some ⟨b, 0, none⟩)) ∧ Below w.heap.size w w' ∧ w.heap.size ≤ b ∧ w'.heap[b]? = some (.cells (List.toArray us) bt (0, 0)) ∧ RepCs w' (fun c o => M c o ∨ c = b) ks us (φ 0 ds).row) .normal a w' ∧
      bodyPost P fn (fun e w' => ∃ b us, e = .returned (.pointer (some ⟨b, 0, none⟩)) ∧ Below w.heap.size w w' ∧ w.heap.size ≤ b ∧ w'.heap[b]? = some (.cells (List.toArray us) bt (0, 0)) ∧ RepCs w' (fun c o => M c o ∨ c = b) ks us (φ 0 ds).row) .ret a w' := fun env g s a w' es he R hp => by
    obtain ⟨b, us, e1, e2, e3, e4⟩ := finN_sound (C := C) R he
    rw [hp] at e4
    have hbel : Below w.heap.size w w' := ⟨R.fr.os, R.fr.tape, R.fr.output, R.fr.size, fun k hk => R.fr.block k hk (by simp [C])⟩
    have e2 : w.heap.size ≤ b := e2.resolve_right (by simp [C])
    exact ⟨⟨R.defers, _, e1, b, us, rfl, hbel, e2, e3, e4⟩, ⟨R.defers, _, e1, b, us, rfl, hbel, e2, e3, e4⟩⟩
  exact run_sound (C := C) (Φ := Φ) (CT := CT) hm hCT (post := fun l => l = (φ 0 ds).row) hend fuel args.length (start args fn.ntmps) [.code c] vc hv ds (fun _ _ => False) _ G0 _ w h2 ⟨_, rfl, rfl⟩ R0 (hw ds h2 h1 hpre)
end
end Go.Vx

/-
  Vx, part 35: a pattern for a loop. Nothing here is relied on.
-/
namespace Go.Vx
open Go.RowKit (Below)

def opsC : Code → List Oper
  | .region _ ops _ => ops.toList
  | .seq a b => opsC a ++ opsC b
  | .cond _ a b => opsC a ++ opsC b
  | .block _ c => opsC c
  | .loop c => opsC c
  | _ => []
def operT (l : List Operand) : List Nat := l.filterMap fun x => match x with | .tmp t => some t | _ => none
/-- The temporaries that are read somewhere. -/
def usesC : Code → List Nat
  | .region _ ops _ => ops.toList.flatMap fun o => operT o.op.operands.toList
  | .seq a b => usesC a ++ usesC b
  | .cond x a b => operT [x] ++ usesC a ++ usesC b
  | .block _ c => usesC c
  | .loop c => usesC c
  | _ => []
def usesK : List It → List Nat
  | [] => []
  | .code c :: k => usesC c ++ usesK k
  | .lp _ _ _ H :: k => ((List.range H.tmps.length).zip H.tmps).filterMap (fun p => match p.2 with | .dead => none | _ => some p.1) ++ usesK k
  | _ :: k => usesK k
def resT (l : List ResultVar) : List Nat := l.map fun r => match r with | .tmp t => t | .cell t _ => t

/-- What is told of a loop: which of its candidates it leaves as they are; which nil slices are data. -/
structure Hint where
  id : Nat
  keep : List Nat
  data : List Nat
  /-- the rows of its arrays own nothing -/
  flat : Bool
  deriving Inhabited

def hasN (x : Nat) (l : List Nat) : Bool := l.any fun y => y == x

def rootT (ops : List Oper) : Nat → Nat → Nat
  | 0, p => p
  | f + 1, p => match ops.find? fun o => match o.dst with | some d => d == p | none => false with
    | some o => match o.op with
      | .move (.tmp q) => rootT ops f q
      | .assign (.tmp q) => rootT ops f q
      | .fieldAddr _ (.tmp q) _ => rootT ops f q
      | .indexAddr _ (.tmp q) _ => rootT ops f q
      | .slice _ (.tmp q) _ _ _ => rootT ops f q
      | .nilCheck (.tmp q) => rootT ops f q
      | _ => p
    | none => p
def keyOfC : SC → List Nat
  | .ref z _ => [z]
  | _ => []
def keyOfV : SV → List Nat
  | .one c => keyOfC c
  | .agg cs => cs.flatMap keyOfC
  | .ptr z _ _ => [z]
  | _ => []
def touched (ops : List Oper) (s : SSt) : List Nat := ops.flatMap fun o => match o.op with
  | .store _ (.tmp p) _ => keyOfV (s.tmp (rootT ops 8 p))
  | .call c => match c.callee, c.args.toList with
    | .builtin .append, .tmp p :: _ => keyOfV (s.tmp (rootT ops 8 p))
    | .value (.func _), xs => xs.flatMap fun x => match x with
      | .tmp p => match s.tmp (rootT ops 8 p) with | .ptr z _ _ => [z] | _ => []
      | _ => []
    | _, _ => []
  | _ => []

def genC (h : Hint) (i c : Nat) : SC → SC × Nat × Nat
  | .dat k e => bif hasN c h.keep then (.dat k e, i, c + 1) else (.dat k (.var i), i + 1, c + 1)
  | .nil t ks => (.nil t ks, i, c)
  | .ref z none => (.ref z none, i, c)
  | _ => (.dead, i, c)
def genCs (h : Hint) (i c : Nat) : List SC → List SC × Nat × Nat
  | [] => ([], i, c)
  | x :: cs => match genC h i c x with
    | (c', j, d) => match genCs h j d cs with
      | (cs', l) => (c' :: cs', l)
/-- a temporary, with the objects that are new -/
def genV (h : Hint) (t i c : Nat) : SV → SV × List (Nat × SOb) × Nat × Nat
  | .one (.nil e ks) => bif hasN c h.keep then (.one (.nil e ks), [], i, c + 1) else bif hasN c h.data then (.one (.dat (.sl e ks) (.var i)), [], i + 1, c + 1) else
      (.one (.ref (64000000 + t) none), [(64000000 + t, .arr e ks (!h.flat || plainK ks) (.var i))], i + 1, c + 1)
  | .one x => match genC h i c x with | (c', j) => (.one c', [], j)
  | .agg cs => match genCs h i c cs with | (cs', j) => (.agg cs', [], j)
  | _ => (.dead, [], i, c)
def keepV : SV → SV
  | .tup _ => .dead
  | .whn _ _ => .dead
  | v => v
def genT (h : Hint) (mods use : List Nat) : Nat → Nat → Nat → List SV → List SV × List (Nat × SOb) × List Nat × Nat × Nat
  | _, i, c, [] => ([], [], [], i, c)
  | t, i, c, v :: vs => bif !hasN t use then match genT h mods use (t + 1) i c vs with
      | (vs', os, ts, l) => (.dead :: vs', os, ts, l)
    else bif hasN t mods then
      match genV h t i c v with
      | (v', o, j, d) => match genT h mods use (t + 1) j d vs with
        | (vs', os, ts, l) => (v' :: vs', o ++ os, keyOfV v ++ ts, l)
    else match genT h mods use (t + 1) i c vs with
      | (vs', os, ts, l) => (keepV v :: vs', os, ts, l)
def genO (h : Hint) (i c : Nat) : SOb → SOb × Nat × Nat
  | .arr t ks dp e => bif hasN c h.keep then (.arr t ks dp e, i, c + 1) else (.arr t ks (dp && (!h.flat || plainK ks)) (.var i), i + 1, c + 1)
  | .box T cs => match genCs h i c cs with | (cs', j) => (.box T cs', j)
  | .arx t ks e => bif hasN c h.keep then (.arx t ks e, i, c + 1) else (.arx t ks (.var i), i + 1, c + 1)
  | o => (o, i, c)
/-- the nil slices of a variable as arrays -/
def genBC (h : Hint) (z : Nat) : Nat → Nat → Nat → List SC → List SC × List (Nat × SOb) × Nat × Nat
  | _, i, c, [] => ([], [], i, c)
  | j, i, c, .nil e ks :: cs => match genBC h z (j + 1) (i + 1) c cs with
    | (cs', os, l) => (.ref (65000000 + 16 * z + j) none :: cs', (65000000 + 16 * z + j, .arr e ks (!h.flat || plainK ks) (.var i)) :: os, l)
  | j, i, c, x :: cs => match genC h i c x with
    | (c', i', d) => match genBC h z (j + 1) i' d cs with
      | (cs', os, l) => (c' :: cs', os, l)
def genOb (h : Hint) (z i c : Nat) (o : SOb) : List (Nat × SOb) × Nat × Nat := match o with
  | .box T cs => bif hasN 1000000 h.data then (match genBC h z 0 i c cs with | (cs', os, l) => ((z, .box T cs') :: os, l)) else (match genO h i c o with | (o', l) => ([(z, o')], l))
  | _ => match genO h i c o with | (o', l) => ([(z, o')], l)
def genOs (s : SSt) (h : Hint) (tou : List Nat) : Nat → Nat → List Nat → List (Nat × SOb) × Nat × Nat
  | i, c, [] => ([], i, c)
  | i, c, z :: zs => match s.obj z with
    | some o => bif hasN z tou then match genOb h z i c o with
        | (o', j, d) => match genOs s h tou j d zs with
          | (os, l) => (o' ++ os, l)
      else match genOs s h tou i c zs with
        | (os, l) => ((z, o) :: os, l)
    | none => genOs s h tou i c zs
def uniq : List Nat → List Nat
  | [] => []
  | x :: l => bif hasN x l then uniq l else x :: uniq l

def genAt (h : Hint) (rt : List Nat) (n : Nat) (s : SSt) (c : Code) (after : List Nat) : Option (SSt × Nat) :=
  let ops := opsC c
  let mods := ops.filterMap (·.dst)
  match genT h mods (rt ++ after) 0 n 0 s.tmps with
  | (tmps, new, ts, i, c) =>
    let refs := tmps.flatMap keyOfV
    let refs2 := refs ++ refs.flatMap fun z => match s.obj z with | some (.box _ cs) => cs.flatMap keyOfC | _ => []
    let big := s.objs.filterMap fun p => bif Nat.blt p.1 1000000000 then none else some p.1
    let tou := touched ops s ++ ts ++ big
    let tou := tou ++ tou.flatMap fun z => match s.obj z with | some (.box _ cs) => cs.flatMap keyOfC | _ => []
    match genOs s h tou i c (uniq (refs2 ++ big)) with
    | (os, j, _) => some (⟨tmps, os ++ new⟩, j - n)
/-- A loop; or (asked of as a loop around two codes in a row) a place where ways come together, if its hint (1000000 more) is there. -/
def gen (hs : List Hint) (rt : List Nat) (n : Nat) (s : SSt) (c : Code) (k : List It) : Option (SSt × Nat) := match c with
  | .loop (.seq x y) => match hs.find? fun h => h.id == 1000000 + (firstId y).getD 0 with
    | some h => genAt h rt n s x (usesC y ++ usesK k)
    | none => none
  | c => genAt ((hs.find? fun h => h.id == (firstId c).getD 0).getD ⟨(firstId c).getD 0, [], [], false⟩) rt n s c (usesC c ++ usesK k)

/-! The contract of a function, by its number. -/
structure Told1 where
  f : Nat
  args : List ASh
  rets : List RSh
  ex : Bool := false
  xs : Option (List XSh) := none
  bs : Option (List BSh) := none
  so : Option (TypeId × List K) := none
  exn : List Nat := []
  nb : Option (TypeId × List K) := none
abbrev told (f : Nat) (args : List ASh) (rets : List RSh) : Told1 := { f := f, args := args, rets := rets }
/-- It is handed boxes by pointer, or arrays to keep. -/
abbrev toldB (f : Nat) (bs : List BSh) (rets : List RSh) : Told1 := { f := f, args := [], rets := rets, bs := some bs }
/-- It makes a variable and hands back a pointer to it. -/
abbrev toldN (f : Nat) (args : List ASh) (T : TypeId) (ks : List K) : Told1 := { f := f, args := args, rets := [], nb := some (T, ks) }
/-- As told, and nobody else is to look into what it makes. -/
abbrev Told1.x (t : Told1) : Told1 := { t with ex := true }
def sigs : List Told1 → Nat → Option Sig
  | [], _ => none
  | t :: l, f => bif t.f == f then some { args := t.args, rets := t.rets, ex := t.ex, xs := t.xs, bs := t.bs, so := t.so, exn := t.exn, nb := t.nb } else sigs l f

def vcOf (T : TypeId → TI) (CT : Nat → Option Sig) (hs : List Hint) (fn : Func) (args : List ASh) (rets : List RSh) : Option VC := match fn.body with
  | some c => run T CT (gen hs (resT fn.results.toList)) (fin T fn.results.toList rets) 2000 args.length (start args fn.ntmps) [.code c]
  | none => none
def vcB (T : TypeId → TI) (CT : Nat → Option Sig) (hs : List Hint) (fn : Func) (args : List BSh) (rets : List RSh) : Option VC := match fn.body with
  | some c => run T CT (gen hs (resT fn.results.toList)) (finB T fn.results.toList rets args) 2000 args.length (startB args fn.ntmps) [.code c]
  | none => none

def vcN (T : TypeId → TI) (CT : Nat → Option Sig) (hs : List Hint) (fn : Func) (args : List ASh) (bt : TypeId) (ks : List K) : Option VC := match fn.body with
  | some c => run T CT (gen hs (resT fn.results.toList)) (finN fn.results.toList bt ks) 2000 args.length (start args fn.ntmps) [.code c]
  | none => none

theorem funB_vc {Φ : Fns} {P : Program} {T : TypeId → TI} (tok : ∀ t, (T t).ok = true → TOk P T t) (hm : P.follows .mixedOrders = true) {CT : Nat → Option Sig} (hCT : Told P Φ CT) {f : FuncId} {fn : Func}
    (hf : P.funcs[f]? = some fn) {args : List BSh} {rets : List RSh} {φ : Nat → List D → D} {hs : List Hint} {vc : VC} (hl : args.length ≤ fn.ntmps) (hk : nodupB ((argBs 0 args).2.map (·.1)) = true) (hv : vcB T CT hs fn args rets = some vc)
    (hw : ∀ ds, ds.length = args.length → (φ 1000 ds).asBool = true → vc.wp Φ (fun l => eqRets (rets.flatMap RSh.cells ++ boxRC args) l (retDs (fun c => φ c ds) 0 rets ++ outDs (fun n => φ (2000 + n) ds) 0 args)) ds fun _ _ => False) : FunB P f args rets φ := by
  unfold vcB at hv
  split at hv
  · rename_i c hb
    exact funB_of tok hm hCT hf hb hl hk hv hw
  · cases hv

theorem funN_vc {Φ : Fns} {P : Program} {T : TypeId → TI} (tok : ∀ t, (T t).ok = true → TOk P T t) (hm : P.follows .mixedOrders = true) {CT : Nat → Option Sig} (hCT : Told P Φ CT) {f : FuncId} {fn : Func}
    (hf : P.funcs[f]? = some fn) {args : List ASh} {bt : TypeId} {ks : List K} {φ : Nat → List D → D} {hs : List Hint} {vc : VC} (hl : args.length ≤ fn.ntmps) (hv : vcN T CT hs fn args bt ks = some vc)
    (hw : ∀ ds, ds.length = args.length → WFAs args ds → (φ 1000 ds).asBool = true → vc.wp Φ (fun l => l = (φ 0 ds).row) ds fun _ _ => False) : FunN P f args bt ks φ := by
  unfold vcN at hv
  split at hv
  · rename_i c hb
    exact funN_of tok hm hCT hf hb hl hv hw
  · cases hv

theorem funR_vc {Φ : Fns} {P : Program} {T : TypeId → TI} (tok : ∀ t, (T t).ok = true → TOk P T t) (hm : P.follows .mixedOrders = true) {CT : Nat → Option Sig} (hCT : Told P Φ CT) {f : FuncId} {fn : Func}
    (hf : P.funcs[f]? = some fn) {args : List ASh} {rets : List RSh} {φ : Nat → List D → D} {hs : List Hint} {vc : VC} (hl : args.length ≤ fn.ntmps) (hv : vcOf T CT hs fn args rets = some vc)
    (hw : ∀ ds, ds.length = args.length → WFAs args ds → (φ 1000 ds).asBool = true → vc.wp Φ (fun l => eqRets (rets.flatMap RSh.cells) l (retDs (fun c => φ c ds) 0 rets)) ds fun _ _ => False) : FunR P f args rets φ := by
  unfold vcOf at hv
  split at hv
  · rename_i c hb
    exact funR_of tok hm hCT hf hb hl hv hw
  · cases hv

end Go.Vx

/-
  Vx, part 36: the table of types.
-/
namespace Go.Vx
open Go.RowKit (Below)

def flatFB (P : Program) : Nat → List Field → List K → Bool
  | _, [], [] => true
  | j, f :: fs, k :: ks => !decide (f.name = "_") && (f.offset == j && ((match k, P.underlying f.type with
    | .int k, some (.int k') => decide (k = k')
    | .bool, some .bool => true
    | .str, some .string => true
    | _, _ => false) && flatFB P (j + 1) fs ks))
  | _, _, _ => false
def flatB (P : Program) (t : TypeId) (ks : List K) : Bool := match P.underlying t with
  | some (.struct fs) => flatFB P 0 fs.toList ks
  | _ => false
theorem flatFB_is {P : Program} : ∀ {fs : List Field} {ks : List K} {j : Nat}, flatFB P j fs ks = true → flatF P j fs ks
  | [], [], _, _ => trivial
  | [], _ :: _, _, h => by simp [flatFB] at h
  | _ :: _, [], _, h => by simp [flatFB] at h
  | f :: fs, k :: ks, j, h => by
    simp only [flatFB, Bool.and_eq_true, Bool.not_eq_true', decide_eq_false_iff_not, beq_iff_eq] at h
    refine ⟨h.1, h.2.1, ?_, flatFB_is h.2.2.2⟩
    have := h.2.2.1
    split at this
    · rename_i k1 k2 h2
      simp only [decide_eq_true_eq] at this
      subst this
      exact h2
    · rename_i h2; exact h2
    · rename_i h2; exact h2
    · cases this
def eqB (P : Program) (i : TI) (t : TypeId) : Bool := !i.eq || (flatB P t i.ks && (!P.stoodInHeld t && !P.eqGuardType P.depth t))
theorem eqB_is {P : Program} {i : TI} {t : TypeId} (h : eqB P i t = true) (hi : i.eq = true) : ∃ fs, P.underlying t = some (.struct fs) ∧ P.stoodInHeld t = false ∧ P.eqGuardType P.depth t = false ∧ flatF P 0 fs.toList i.ks := by
  simp only [eqB, hi, Bool.not_true, Bool.false_or, Bool.and_eq_true, Bool.not_eq_true'] at h
  have h1 := h.1
  unfold flatB at h1
  split at h1
  · rename_i fs hf
    exact ⟨fs, hf, h.2.1, h.2.2, flatFB_is h1⟩
  · cases h1
def zeroB : List Value → List K → Bool
  | [], [] => true
  | .int k n :: vs, .int k' :: ks => decide (k = k') && (decide (n = 0) && zeroB vs ks)
  | .bool b :: vs, .bool :: ks => !b && zeroB vs ks
  | .string s :: vs, .str :: ks => decide (s = ⟨#[]⟩) && zeroB vs ks
  | .slice none 0 0 :: vs, .sl _ _ :: ks => zeroB vs ks
  | _, _ => false
theorem zeroB_eq : ∀ {vs : List Value} {ks : List K}, zeroB vs ks = true → vs = ks.map zeroV := by
  intro vs ks
  fun_induction zeroB vs ks with
  | case1 => intro _; rfl
  | case2 k n vs k' ks ih =>
    intro h
    simp only [Bool.and_eq_true, decide_eq_true_eq] at h
    obtain ⟨rfl, rfl, h⟩ := h
    simp [zeroV, ih h]
  | case3 b vs ks ih =>
    intro h
    simp only [Bool.and_eq_true, Bool.not_eq_true'] at h
    simp [zeroV, h.1, ih h.2]
  | case4 s vs ks ih =>
    intro h
    simp only [Bool.and_eq_true, decide_eq_true_eq] at h
    simp [zeroV, h.1, ih h.2]
  | case5 vs e ks' ks ih =>
    intro h
    simp [zeroV, ih h]
  | case6 => intro h; cases h

def fldsB : List (Nat × TypeId) → List (Nat × TypeId) → Bool
  | [], [] => true
  | a :: as, b :: bs => a.1 == b.1 && (a.2 == b.2 && fldsB as bs)
  | _, _ => false
theorem fldsB_eq : ∀ {a b : List (Nat × TypeId)}, fldsB a b = true → a = b
  | [], [], _ => rfl
  | [], _ :: _, h => by simp [fldsB] at h
  | _ :: _, [], h => by simp [fldsB] at h
  | (x, y) :: as, (u, v) :: bs, h => by
    simp only [fldsB, Bool.and_eq_true, beq_iff_eq] at h
    rw [h.1, h.2.1, fldsB_eq h.2.2]

def descB (i : TI) : TypeDesc → Bool
  | .struct fs => i.agg && (i.sl.isNone && (i.ik.isNone && (!i.isStr && fldsB (fs.toList.map fun f => (f.offset, f.type)) i.flds)))
  | .slice e => !i.agg && (isN i.sl e && (i.ik.isNone && (!i.isStr && match i.ks with | [.sl e' _] => e' == e | _ => false)))
  | .int k => !i.agg && (i.sl.isNone && ((match i.ik with | some k' => decide (k' = k) | none => false) && (!i.isStr && K.eqbs i.ks [.int k])))
  | .bool => !i.agg && (i.sl.isNone && (i.ik.isNone && (!i.isStr && K.eqbs i.ks [.bool])))
  | .string => !i.agg && (i.sl.isNone && (i.ik.isNone && (i.isStr && K.eqbs i.ks [.str])))
  | _ => false
theorem descB_is {i : TI} {d : TypeDesc} (h : descB i d = true) : descIs i d := by
  cases d <;> simp only [descB, Bool.false_eq_true, Bool.and_eq_true, Bool.not_eq_true', Option.isNone_iff_eq_none] at h
  case struct fs => exact ⟨h.1, h.2.1, h.2.2.1, h.2.2.2.1, fldsB_eq h.2.2.2.2⟩
  case slice e =>
    refine ⟨h.1, isN_eq h.2.1, h.2.2.1, h.2.2.2.1, ?_⟩
    have := h.2.2.2.2
    split at this
    · rename_i e' ks hk
      have e1 : e' = e := by simpa using this
      subst e1
      exact ⟨ks, hk⟩
    · cases this
  case int k =>
    refine ⟨h.1, h.2.1, ?_, h.2.2.2.1, K.eqbs_eq h.2.2.2.2⟩
    have := h.2.2.1
    split at this
    · rename_i k' hk
      rw [hk, of_decide_eq_true this]
    · cases this
  case bool => exact ⟨h.1, h.2.1, h.2.2.1, h.2.2.2.1, K.eqbs_eq h.2.2.2.2⟩
  case string => exact ⟨h.1, h.2.1, h.2.2.1, h.2.2.2.1, K.eqbs_eq h.2.2.2.2⟩

def tOkB (P : Program) (i : TI) (t : TypeId) : Bool := !i.ok || match P.info? t, P.underlying t with
  | some n, some d => match n.zero with
    | some z => n.size == i.ks.length && (n.bytes == i.bytes && (zeroB z.cells.toList i.ks && (descB i d && eqB P i t)))
    | none => false
  | _, _ => false
abbrev Tab := List (Nat × TI)
def tabOk (P : Program) (l : Tab) : Bool := l.all fun q => tOkB P q.2 q.1
def tabT (l : Tab) (t : TypeId) : TI := match l with
  | [] => default
  | (u, i) :: l => bif Nat.beq u t then i else tabT l t

theorem tabT_mem {t : TypeId} : ∀ {l : Tab}, (tabT l t).ok = true → (t, tabT l t) ∈ l
  | [], h => by simp [tabT] at h; cases h
  | (u, i) :: l, h => by
    simp only [tabT] at h ⊢
    cases hu : Nat.beq u t with
    | true =>
      have : u = t := Nat.eq_of_beq_eq_true hu
      subst this
      simp
    | false =>
      rw [hu] at h
      simp only [cond_false] at h ⊢
      exact List.mem_cons_of_mem _ (tabT_mem h)

theorem tabT_ok {P : Program} {l : Tab} (h : tabOk P l = true) (t : TypeId) (ht : (tabT l t).ok = true) : TOk P (tabT l) t := by
  have h1 := List.all_eq_true.1 h _ (tabT_mem ht)
  simp only [tOkB, ht, Bool.not_true, Bool.false_or] at h1
  split at h1
  · rename_i n d e1 e2
    split at h1
    · rename_i z e3
      simp only [Bool.and_eq_true, beq_iff_eq] at h1
      exact ⟨⟨n, d, z, e1, e2, h1.1, h1.2.1, e3, zeroB_eq h1.2.2.1, descB_is h1.2.2.2.1⟩, eqB_is h1.2.2.2.2⟩
    · cases h1
  · cases h1

/-! Functions, one after the other. -/
def Good1 (P : Program) (Φ : Fns) (t : Told1) : Prop := (t.xs = none → FunRB P t.f t.bs t.so t.nb t.args t.rets (Φ t.f)) ∧ (∀ l, t.xs = some l → FunX P t.f l t.rets (Φ t.f)) ∧ ∃ fn, P.funcs[t.f]? = some fn ∧ fn.body ≠ none ∧ fn.name ≠ "runtime.NumGoroutine"

theorem Good1.x {P : Program} {Φ : Fns} {t : Told1} (h : Good1 P Φ t) : Good1 P Φ t.x := h
theorem Good1.r {P : Program} {Φ : Fns} {t : Told1} (h : Good1 P Φ t) (hx : t.xs = none) (hb : t.bs = none := by rfl) (hs : t.so = none := by rfl) (hn : t.nb = none := by rfl) : FunR P t.f t.args t.rets (Φ t.f) := by
  have := h.1 hx
  rwa [hs, hb, hn] at this
theorem Good1.b {P : Program} {Φ : Fns} {t : Told1} (h : Good1 P Φ t) (hx : t.xs = none) {l : List BSh} (hb : t.bs = some l) (hs : t.so = none := by rfl) : FunB P t.f l t.rets (Φ t.f) := by
  have := h.1 hx
  rwa [hs, hb] at this

theorem told_of {P : Program} {Φ : Fns} : ∀ {l : List Told1}, (∀ t ∈ l, Good1 P Φ t) → Told P Φ (sigs l)
  | [], _, f, sg, h => by simp [sigs] at h
  | t :: l, hl, f, sg, h => by
    simp only [sigs] at h
    cases ht : t.f == f with
    | true =>
      rw [ht] at h
      simp only [cond_true, Option.some.injEq] at h
      have : t.f = f := by simpa using ht
      subst this
      subst h
      exact hl t (by simp)
    | false =>
      rw [ht] at h
      exact told_of (l := l) (fun t ht => hl t (by simp [ht])) f sg h

theorem good1e {P : Program} {Φ : Fns} {T : TypeId → TI} (tok : ∀ t, (T t).ok = true → TOk P T t) (hm : P.follows .mixedOrders = true) {l : List Told1} (hl : ∀ t ∈ l, Good1 P Φ t) {t : Told1} {fn : Func} {hs : List Hint} {vc : VC}
    (hf : P.funcs[t.f]? = some fn) (hn : fn.name ≠ "runtime.NumGoroutine") (hlen : t.args.length ≤ fn.ntmps) (hv : vcOf T (sigs l) hs fn t.args t.rets = some vc)
    (hw : ∀ ds, ds.length = t.args.length → WFAs t.args ds → (Φ t.f 1000 ds).asBool = true → vc.wp Φ (fun l => eqRets (t.rets.flatMap RSh.cells) l (retDs (fun c => Φ t.f c ds) 0 t.rets)) ds fun _ _ => False) (hx : t.xs = none := by rfl) (hbs : t.bs = none := by rfl) (hso : t.so = none := by rfl) (hnb : t.nb = none := by rfl) : Good1 P Φ t := by
  refine ⟨fun _ => (by rw [hso, hbs, hnb]; exact funR_vc tok hm (told_of hl) hf hlen hv hw), fun l e => (by rw [hx] at e; cases e), fn, hf, ?_, hn⟩
  intro hb
  unfold vcOf at hv
  rw [hb] at hv
  cases hv

theorem good1 {P : Program} {Φ : Fns} {T : TypeId → TI} (tok : ∀ t, (T t).ok = true → TOk P T t) (hm : P.follows .mixedOrders = true) {l : List Told1} (hl : ∀ t ∈ l, Good1 P Φ t) {t : Told1} {fn : Func} {hs : List Hint} {vc : VC}
    (hf : P.funcs[t.f]? = some fn) (hn : fn.name ≠ "runtime.NumGoroutine") (hlen : t.args.length ≤ fn.ntmps) (hv : vcOf T (sigs l) hs fn t.args t.rets = some vc)
    (hw : ∀ ds, ds.length = t.args.length → WFAs t.args ds → (Φ t.f 1000 ds).asBool = true → vc.wp Φ (fun l => l = retDs (fun c => Φ t.f c ds) 0 t.rets) ds fun _ _ => False) (hx : t.xs = none := by rfl) (hbs : t.bs = none := by rfl) (hso : t.so = none := by rfl) (hnb : t.nb = none := by rfl) : Good1 P Φ t :=
  good1e tok hm hl hf hn hlen hv (fun ds h1 h2 h3 => VC.wp_mono (fun l h => by rw [h]; exact eqRets_refl _ _) _ _ _ (hw ds h1 h2 h3)) hx hbs hso hnb

/-- A function that makes a variable. -/
theorem goodN {P : Program} {Φ : Fns} {T : TypeId → TI} (tok : ∀ t, (T t).ok = true → TOk P T t) (hm : P.follows .mixedOrders = true) {l : List Told1} (hl : ∀ t ∈ l, Good1 P Φ t) {t : Told1} {q : TypeId × List K} {fn : Func} {hs : List Hint} {vc : VC}
    (hf : P.funcs[t.f]? = some fn) (hn : fn.name ≠ "runtime.NumGoroutine") (hlen : t.args.length ≤ fn.ntmps) (hv : vcN T (sigs l) hs fn t.args q.1 q.2 = some vc)
    (hw : ∀ ds, ds.length = t.args.length → WFAs t.args ds → (Φ t.f 1000 ds).asBool = true → vc.wp Φ (fun l => l = (Φ t.f 0 ds).row) ds fun _ _ => False) (hx : t.xs = none := by rfl) (hbs : t.bs = none := by rfl) (hso : t.so = none := by rfl) (hnb : t.nb = some q := by rfl) : Good1 P Φ t := by
  refine ⟨fun _ => (by rw [hso, hbs, hnb]; exact funN_vc tok hm (told_of hl) hf hlen hv hw), fun l e => (by rw [hx] at e; cases e), fn, hf, ?_, hn⟩
  intro hb
  unfold vcN at hv
  rw [hb] at hv
  cases hv

/-- A function that is handed boxes by pointer, or arrays to keep. -/
theorem goodBe {P : Program} {Φ : Fns} {T : TypeId → TI} (tok : ∀ t, (T t).ok = true → TOk P T t) (hm : P.follows .mixedOrders = true) {l : List Told1} (hl : ∀ t ∈ l, Good1 P Φ t) {t : Told1} {args : List BSh} {fn : Func} {hs : List Hint} {vc : VC}
    (hf : P.funcs[t.f]? = some fn) (hn : fn.name ≠ "runtime.NumGoroutine") (hlen : args.length ≤ fn.ntmps) (hk : nodupB ((argBs 0 args).2.map (·.1)) = true) (hv : vcB T (sigs l) hs fn args t.rets = some vc)
    (hw : ∀ ds, ds.length = args.length → (Φ t.f 1000 ds).asBool = true → vc.wp Φ (fun l => eqRets (t.rets.flatMap RSh.cells ++ boxRC args) l (retDs (fun c => Φ t.f c ds) 0 t.rets ++ outDs (fun n => Φ t.f (2000 + n) ds) 0 args)) ds fun _ _ => False)
    (hx : t.xs = none := by rfl) (hbs : t.bs = some args := by rfl) (hso : t.so = none := by rfl) : Good1 P Φ t := by
  refine ⟨fun _ => (by rw [hso, hbs]; exact funB_vc tok hm (told_of hl) hf hlen hk hv hw), fun l e => (by rw [hx] at e; cases e), fn, hf, ?_, hn⟩
  intro hb
  unfold vcB at hv
  rw [hb] at hv
  cases hv
theorem goodB {P : Program} {Φ : Fns} {T : TypeId → TI} (tok : ∀ t, (T t).ok = true → TOk P T t) (hm : P.follows .mixedOrders = true) {l : List Told1} (hl : ∀ t ∈ l, Good1 P Φ t) {t : Told1} {args : List BSh} {fn : Func} {hs : List Hint} {vc : VC}
    (hf : P.funcs[t.f]? = some fn) (hn : fn.name ≠ "runtime.NumGoroutine") (hlen : args.length ≤ fn.ntmps) (hk : nodupB ((argBs 0 args).2.map (·.1)) = true) (hv : vcB T (sigs l) hs fn args t.rets = some vc)
    (hw : ∀ ds, ds.length = args.length → (Φ t.f 1000 ds).asBool = true → vc.wp Φ (fun l => l = retDs (fun c => Φ t.f c ds) 0 t.rets ++ outDs (fun n => Φ t.f (2000 + n) ds) 0 args) ds fun _ _ => False)
    (hx : t.xs = none := by rfl) (hbs : t.bs = some args := by rfl) (hso : t.so = none := by rfl) : Good1 P Φ t :=
  goodBe tok hm hl hf hn hlen hk hv (fun ds h1 h2 => VC.wp_mono (fun l h => by rw [h]; exact eqRets_refl _ _) _ _ _ (hw ds h1 h2)) hx hbs hso

end Go.Vx

/-
  Vx, part 37: plain functions on data: how large, the same again, alike.
-/
namespace Go.Vx
open Go.RowKit (Below)

/-- The row at a place. -/
def rowN (xs : List (List D)) (i : Nat) : List D := xs.getD i []
theorem rowN_lt {xs : List (List D)} {i : Nat} (h : i < xs.length) : rowN xs i = xs[i] := by simp [rowN, h]
theorem rowN_mem {xs : List (List D)} {i : Nat} (h : i < xs.length) : rowN xs i ∈ xs := by rw [rowN_lt h]; exact List.getElem_mem _
@[simp] theorem rowN_zero (x : List D) (xs : List (List D)) : rowN (x :: xs) 0 = x := rfl
@[simp] theorem rowN_succ (x : List D) (xs : List (List D)) (i : Nat) : rowN (x :: xs) (i + 1) = rowN xs i := by simp [rowN]
def sumR (p : List D → Nat) : List (List D) → Nat
  | [] => 0
  | x :: xs => p x + sumR p xs
def eqR (p : List D → List D → Bool) : List (List D) → List (List D) → Bool
  | [], [] => true
  | x :: xs, y :: ys => p x y && eqR p xs ys
  | _, _ => false
mutual
/-- How large a datum is: its rows and its texts. -/
def szD : K → D → Nat
  | .int _, _ => 0
  | .bool, _ => 0
  | .str, d => d.asStr.size
  | .sl _ ks, d => d.asList.length + sumR (szDs ks) d.asList
def szDs : List K → List D → Nat
  | [], _ => 0
  | k :: ks, ds => szD k (ds.headD default) + szDs ks ds.tail
end
mutual
/-- A datum, its rows as long as its kind has them. -/
def cnD : K → D → D
  | .int _, d => d
  | .bool, d => d
  | .str, d => d
  | .sl _ ks, d => .sl (d.asList.map (cnDs ks))
def cnDs : List K → List D → List D
  | [], _ => []
  | k :: ks, ds => cnD k (ds.headD default) :: cnDs ks ds.tail
end
mutual
def eqD : K → D → D → Bool
  | .int _, d, e => decide (d.asInt = e.asInt)
  | .bool, d, e => d.asBool == e.asBool
  | .str, d, e => decide (d.asStr = e.asStr)
  | .sl _ ks, d, e => eqR (eqDs ks) d.asList e.asList
def eqDs : List K → List D → List D → Bool
  | [], _, _ => true
  | k :: ks, ds, es => eqD k (ds.headD default) (es.headD default) && eqDs ks ds.tail es.tail
end

theorem eqR_refl {p : List D → List D → Bool} (h : ∀ x, p x x = true) : ∀ xs, eqR p xs xs = true
  | [] => rfl
  | x :: xs => by simp [eqR, h, eqR_refl h xs]
mutual
theorem eqD_refl : ∀ (k : K) (d : D), eqD k d d = true
  | .int _, d => by simp [eqD]
  | .bool, d => by simp [eqD]
  | .str, d => by simp [eqD]
  | .sl _ ks, d => eqR_refl (fun x => eqDs_refl ks x) d.asList
theorem eqDs_refl : ∀ (ks : List K) (ds : List D), eqDs ks ds ds = true
  | [], _ => rfl
  | k :: ks, ds => by rw [eqDs, eqD_refl k, eqDs_refl ks]; rfl
end

theorem sumR_append (p : List D → Nat) : ∀ (xs ys : List (List D)), sumR p (xs ++ ys) = sumR p xs + sumR p ys
  | [], ys => by simp [sumR]
  | x :: xs, ys => by simp [sumR, sumR_append p xs ys]; omega
theorem sumR_take (p : List D → Nat) {xs : List (List D)} {i : Nat} (h : i < xs.length) : sumR p (xs.take (i + 1)) = sumR p (xs.take i) + p (rowN xs i) := by
  rw [List.take_add_one, List.getElem?_eq_getElem h, sumR_append]
  simp [sumR, rowN_lt h]
theorem sumR_take_le (p : List D → Nat) {xs : List (List D)} {i : Nat} : sumR p (xs.take i) ≤ sumR p xs := by
  conv => rhs; rw [← List.take_append_drop i xs, sumR_append]
  omega

/-- A proposition as a Bool, with no instance in it. -/
noncomputable def tt (p : Prop) : Bool := @decide p (Classical.propDecidable p)
@[simp] theorem tt_ok (p : Prop) : (tt p = true) = p := by simp [tt]
@[simp] theorem tt_no (p : Prop) : (tt p = false) = ¬ p := by simp [tt]
theorem decide_tt {p : Prop} {i : Decidable p} : @decide p i = tt p := by by_cases h : p <;> simp [h, tt]
@[simp] theorem tt_and (p q : Prop) : (tt p && tt q) = tt (p ∧ q) := by rw [Bool.eq_iff_iff]; simp
@[simp] theorem tt_not (p : Prop) : (!tt p) = tt (¬ p) := by rw [Bool.eq_iff_iff]; simp
@[simp] theorem tt_true : tt True = true := by simp
@[simp] theorem tt_false : tt False = false := by simp
@[simp] theorem tt_inj (p q : Prop) : (tt p = tt q) = (p ↔ q) := by rw [Bool.eq_iff_iff]; simp

/-! Numbers of 64 bits. -/
theorem w64 {n : Int} (h : -9223372036854775808 ≤ n) (h' : n ≤ 9223372036854775807) : IntKind.i64.wrap n = n := by
  simp [IntKind.wrap, IntKind.bits, IntKind.signed]
  omega

section
variable {x y : Int}
@[simp] theorem intV_add {k : IntKind} : intV .add k x y = .int (k.wrap (x + y)) := rfl
@[simp] theorem intV_sub {k : IntKind} : intV .sub k x y = .int (k.wrap (x - y)) := rfl
@[simp] theorem intV_mul {k : IntKind} : intV .mul k x y = .int (k.wrap (x * y)) := rfl
@[simp] theorem intV_quo {k : IntKind} : intV .quo k x y = .int (k.wrap (x.tdiv y)) := rfl
@[simp] theorem intV_rem {k : IntKind} : intV .rem k x y = .int (x.tmod y) := rfl
@[simp] theorem intV_eql {k : IntKind} : intV .eql k x y = .bool (tt (x = y)) := by rw [← decide_tt]; rfl
@[simp] theorem intV_neq {k : IntKind} : intV .neq k x y = .bool (!tt (x = y)) := by rw [← decide_tt]; rfl
@[simp] theorem intV_lss {k : IntKind} : intV .lss k x y = .bool (tt (x < y)) := by rw [← decide_tt]; rfl
@[simp] theorem intV_leq {k : IntKind} : intV .leq k x y = .bool (tt (x ≤ y)) := by rw [← decide_tt]; rfl
@[simp] theorem intV_gtr {k : IntKind} : intV .gtr k x y = .bool (tt (y < x)) := by rw [← decide_tt]; rfl
@[simp] theorem intV_geq {k : IntKind} : intV .geq k x y = .bool (tt (y ≤ x)) := by rw [← decide_tt]; rfl
end
section
variable {x y : ByteArray}
@[simp] theorem strV_add : strV .add x y = .str (x ++ y) := rfl
@[simp] theorem strV_eql : strV .eql x y = .bool (tt (x = y)) := by rw [← decide_tt]; rfl
@[simp] theorem strV_neq : strV .neq x y = .bool (!tt (x = y)) := by rw [← decide_tt]; rfl
@[simp] theorem strV_lss : strV .lss x y = .bool (Op.bytesLess x.toList y.toList) := rfl
@[simp] theorem strV_geq : strV .geq x y = .bool (!Op.bytesLess x.toList y.toList) := rfl
end

@[simp] theorem D.row_sl (r : List D) : (D.sl [r]).row = r := rfl
theorem setB_same {B : Nat → List D → Prop} {l : Nat} {p : List D → Prop} : setB B l p l = p := by simp [setB]
theorem setB_ne {B : Nat → List D → Prop} {l j : Nat} {p : List D → Prop} (h : j ≠ l) : setB B l p j = B j := by simp [setB, h]

theorem eqD_int (k : IntKind) (d e : D) : eqD (.int k) d e = tt (d.asInt = e.asInt) := by rw [← decide_tt]; rfl
theorem eqD_bool (d e : D) : eqD .bool d e = (d.asBool == e.asBool) := rfl
theorem eqD_str (d e : D) : eqD .str d e = tt (d.asStr = e.asStr) := by rw [← decide_tt]; rfl
theorem eqD_sl (t : TypeId) (ks : List K) (d e : D) : eqD (.sl t ks) d e = eqR (eqDs ks) d.asList e.asList := rfl
end Go.Vx

/-
  Vx, part 38: what is left to show, read in plain Lean.
-/
namespace Go.Vx
open Go.RowKit (Below)

/-- A cell of a row; a row of a list. -/
def cell (r : List D) (j : Nat) : D := r.getD j default
def rowAt (xs : List (List D)) (i : Int) : List D := rowN xs i.toNat

@[simp] theorem cell_tail (r : List D) (j : Nat) : cell r.tail j = cell r (j + 1) := by cases r <;> simp [cell]
@[simp] theorem cell_zero (d : D) (r : List D) : cell (d :: r) 0 = d := rfl
@[simp] theorem cell_succ (d : D) (r : List D) (j : Nat) : cell (d :: r) (j + 1) = cell r j := by simp [cell]
theorem headD_cell (r : List D) : r.headD default = cell r 0 := by cases r <;> rfl

section
variable {Φ : Fns} {env : List D}
@[simp] theorem den_var (i : Nat) : (E.var i).den Φ env = cell env i := rfl
@[simp] theorem den_int (n : Int) : (E.int n).den Φ env = .int n := rfl
@[simp] theorem den_bool (b : Bool) : (E.bool b).den Φ env = .bool b := rfl
@[simp] theorem den_str (s : ByteArray) : (E.str s).den Φ env = .str s := rfl
@[simp] theorem den_nl : E.nl.den Φ env = .sl [] := rfl
@[simp] theorem den_op (o : Opn) (es : List E) : (E.op o es).den Φ env = opD Φ o (E.dens Φ env es) := rfl
@[simp] theorem dens_nil : E.dens Φ env [] = [] := rfl
@[simp] theorem dens_cons (e : E) (es : List E) : E.dens Φ env (e :: es) = e.den Φ env :: E.dens Φ env es := rfl
section
variable (a b c : D)
@[simp] theorem op_bin (op : BinOp) (k : IntKind) : opD Φ (.bin op k) [a, b] = intV op k a.asInt b.asInt := rfl
@[simp] theorem op_sbin (op : BinOp) : opD Φ (.sbin op) [a, b] = strV op a.asStr b.asStr := rfl
@[simp] theorem op_beq : opD Φ .beq [a, b] = .bool (a.asBool == b.asBool) := rfl
@[simp] theorem op_bne : opD Φ .bne [a, b] = .bool (a.asBool != b.asBool) := rfl
@[simp] theorem op_not : opD Φ .not [a] = .bool (!a.asBool) := rfl
@[simp] theorem op_and : opD Φ .and [a, b] = .bool (a.asBool && b.asBool) := rfl
@[simp] theorem op_neg (k : IntKind) : opD Φ (.neg k) [a] = .int (k.wrap (0 - a.asInt)) := rfl
@[simp] theorem op_wrap (k : IntKind) : opD Φ (.wrap k) [a] = .int (k.wrap a.asInt) := rfl
@[simp] theorem op_shr (k : IntKind) : opD Φ (.shr k) [a, b] = .int (a.asInt.fdiv (2 ^ min b.asInt.toNat k.bits)) := rfl
@[simp] theorem op_sidx : opD Φ .sidx [a, b] = .int (a.asStr.toList.getD b.asInt.toNat 0).toNat := rfl
@[simp] theorem op_slen : opD Φ .slen [a] = .int a.asStr.size := rfl
@[simp] theorem op_len : opD Φ .len [a] = .int a.asList.length := rfl
@[simp] theorem op_ssub : opD Φ .ssub [a, b, c] = .str (a.asStr.extract b.asInt.toNat c.asInt.toNat) := rfl
@[simp] theorem op_ite : opD Φ .ite [a, b, c] = bif a.asBool then b else c := by show (if a.asBool = true then b else c) = _; cases a.asBool <;> rfl
@[simp] theorem op_row : opD Φ .row [a, b] = .sl [rowAt a.asList b.asInt] := rfl
@[simp] theorem op_fld (j : Nat) : opD Φ (.fld j) [a] = cell a.row j := rfl
@[simp] theorem op_mk (ds : List D) : opD Φ .mk ds = .sl [ds] := rfl
@[simp] theorem op_rput (j : Nat) (ds : List D) : opD Φ (.rput j) (a :: ds) = .sl [a.row.take j ++ ds ++ a.row.drop (j + ds.length)] := rfl
@[simp] theorem op_lset : opD Φ .lset [a, b, c] = .sl (a.asList.set b.asInt.toNat c.row) := rfl
@[simp] theorem op_lapp : opD Φ .lapp [a, b] = .sl (a.asList ++ b.asList) := rfl
@[simp] theorem op_cut : opD Φ .cut [a, b, c] = .sl ((a.asList.drop b.asInt.toNat).take c.asInt.toNat) := rfl
@[simp] theorem op_rep : opD Φ .rep [a, b] = .sl (List.replicate a.asInt.toNat b.row) := rfl
@[simp] theorem op_le : opD Φ .le [a, b] = .bool (tt (a.asInt ≤ b.asInt)) := by rw [← decide_tt]; rfl
@[simp] theorem op_lt : opD Φ .lt [a, b] = .bool (tt (a.asInt < b.asInt)) := by rw [← decide_tt]; rfl
@[simp] theorem op_nz : opD Φ .nz [a] = .bool (tt (a.asInt ≠ 0)) := by rw [← decide_tt]; rfl
@[simp] theorem op_eqi : opD Φ .eqi [a, b] = .bool (tt (a.asInt = b.asInt)) := by rw [← decide_tt]; rfl
@[simp] theorem op_strfit : opD Φ .strfit [a, b] = .bool (tt (a.asStr.size + b.asStr.size ≤ lenMax)) := by rw [← decide_tt]; rfl
@[simp] theorem op_appfit (m : Nat) : opD Φ (.appfit m) [a, b] = .bool (tt (a.asList.length + b.asList.length ≤ lenMax ∧ (a.asList.length + b.asList.length) * m ≤ 140737488355328)) := by rw [← decide_tt]; rfl
@[simp] theorem op_mkfit (m : Nat) : opD Φ (.mkfit m) [a] = .bool (tt (0 ≤ a.asInt ∧ a.asInt.toNat ≤ lenMax ∧ a.asInt.toNat * m ≤ 140737488355328)) := by rw [← decide_tt]; rfl
@[simp] theorem op_rowlen (n : Nat) : opD Φ (.rowlen n) [a] = .bool (tt (a.row.length = n)) := by rw [← decide_tt]; rfl
@[simp] theorem op_addn : opD Φ .addn [a, b] = .int ((a.asInt.toNat + b.asInt.toNat : Nat)) := rfl
@[simp] theorem op_subn : opD Φ .subn [a, b] = .int ((a.asInt.toNat - b.asInt.toNat : Nat)) := rfl
@[simp] theorem op_asl : opD Φ .asl [a] = .sl a.asList := rfl
@[simp] theorem op_ltlen : opD Φ .ltlen [a, b] = .bool (tt (a.asInt.toNat < b.asList.length)) := by rw [← decide_tt]; rfl
@[simp] theorem op_bstr : opD Φ .bstr [a] = .str (bytesOf a.asList) := rfl
@[simp] theorem op_fn (f j : Nat) (ds : List D) : opD Φ (.fn f j) ds = Φ f j ds := rfl
end

section
variable {post : List D → Prop} {B : Nat → List D → Prop}
@[simp] theorem conj_nil : conj Φ env [] = True := rfl
@[simp] theorem conj_cons (c : E) (cs : List E) : conj Φ env (c :: cs) = ((c.den Φ env).asBool = true ∧ conj Φ env cs) := rfl
@[simp] theorem kinds_nil (p : Prop) : kinds env [] p = p := rfl
@[simp] theorem kinds_cons (k : K) (i : Nat) (l : List (K × Nat)) (p : Prop) : kinds env ((k, i) :: l) p = (WFD k (cell env i) → kinds env l p) := rfl
@[simp] theorem wp_req' (cs : List E) (t : VC) : (VC.req cs t).wp Φ post env B = (conj Φ env cs ∧ t.wp Φ post env B) := rfl
@[simp] theorem wp_ite' (c : E) (x y : VC) : (VC.ite c x y).wp Φ post env B = (((c.den Φ env).asBool = true → x.wp Φ post env B) ∧ ((c.den Φ env).asBool = false → y.wp Φ post env B)) := rfl
@[simp] theorem wp_back' (l : Nat) (es : List E) : (VC.back l es).wp Φ post env B = B l (es.map (E.den Φ env)) := rfl
@[simp] theorem wp_ret' (es : List E) : (VC.ret es).wp Φ post env B = post (es.map (E.den Φ env)) := rfl

/-- A loop: what holds of its values each time, and what gets less. -/
theorem wp_loop' {id l m : Nat} {fs : List (K × Nat)} {init : List E} {body : VC} (I : List D → Prop) (μ : List D → Nat) (h0 : I (init.map (E.den Φ env)))
    (hI : allN m fun vs => kinds (env ++ vs) fs (I vs → body.wp Φ post (env ++ vs) (setB B l fun v => I v ∧ μ v < μ vs))) : (VC.loop id l m fs init body).wp Φ post env B := ⟨I, μ, h0, hI⟩
end
end
@[simp] theorem allN_zero (p : List D → Prop) : allN 0 p = p [] := rfl
@[simp] theorem allN_succ (n : Nat) (p : List D → Prop) : allN (n + 1) p = ∀ d : D, allN n fun l => p (d :: l) := rfl
@[simp] theorem setB_eq (B : Nat → List D → Prop) (l : Nat) (p : List D → Prop) : setB B l p l = p := setB_same
@[simp] theorem WFD_int (k : IntKind) (d : D) : WFD (.int k) d = inR k d.asInt := rfl
@[simp] theorem WFD_bool (d : D) : WFD .bool d = True := rfl
@[simp] theorem WFD_str (d : D) : WFD .str d = (d.asStr.size ≤ lenMax) := rfl
@[simp] theorem WFD_sl (e : TypeId) (ks : List K) (d : D) : WFD (.sl e ks) d = (d.asList.length ≤ lenMax) := rfl

@[simp] theorem WFa_int (k : IntKind) (d : D) : WFa (.int k) d = inR k d.asInt := rfl
@[simp] theorem WFa_bool (d : D) : WFa .bool d = True := rfl
@[simp] theorem WFa_str (d : D) : WFa .str d = (d.asStr.size ≤ lenMax) := rfl
@[simp] theorem WFa_sl (e : TypeId) (ks : List K) (d : D) : WFa (.sl e ks) d = (d.asList.length ≤ lenMax ∧ ∀ row, row ∈ d.asList → WFas ks row) := rfl
@[simp] theorem WFas_nil (r : List D) : WFas [] r = True := rfl
@[simp] theorem WFas_cons (k : K) (ks : List K) (r : List D) : WFas (k :: ks) r = (WFa k (cell r 0) ∧ WFas ks r.tail) := by rw [WFas, headD_cell]
@[simp] theorem WFA_one (k : K) (d : D) : WFA (.one k) d = WFa k d := rfl
@[simp] theorem WFA_agg (ks : List K) (d : D) : WFA (.agg ks) d = WFas ks d.row := rfl
@[simp] theorem WFA_pim (ks : List K) (d : D) : WFA (.pim ks) d = WFas ks d.row := rfl
@[simp] theorem WFAs_nil (ds : List D) : WFAs [] ds = True := rfl
@[simp] theorem WFAs_cons (s : ASh) (ss : List ASh) (d : D) (ds : List D) : WFAs (s :: ss) (d :: ds) = (WFA s d ∧ WFAs ss ds) := rfl

theorem szDs_nil (r : List D) : szDs [] r = 0 := rfl
theorem szDs_cons (k : K) (ks : List K) (r : List D) : szDs (k :: ks) r = szD k (cell r 0) + szDs ks r.tail := by rw [szDs, headD_cell]
theorem cnDs_cons (k : K) (ks : List K) (r : List D) : cnDs (k :: ks) r = cnD k (cell r 0) :: cnDs ks r.tail := by rw [cnDs, headD_cell]
theorem eqDs_nil (r s : List D) : eqDs [] r s = true := rfl
theorem eqDs_cons (k : K) (ks : List K) (r s : List D) : eqDs (k :: ks) r s = (eqD k (cell r 0) (cell s 0) && eqDs ks r.tail s.tail) := by rw [eqDs, headD_cell, headD_cell]

@[simp] theorem retDs_nil (φ : Nat → D) (c : Nat) : retDs φ c [] = [] := rfl
@[simp] theorem retDs_cons (φ : Nat → D) (c : Nat) (r : RSh) (rs : List RSh) : retDs φ c (r :: rs) = r.ds (φ c) ++ retDs φ (c + 1) rs := rfl
def cellsOf : Nat → Nat → List D → List D
  | 0, _, _ => []
  | n + 1, j, r => cell r j :: cellsOf n (j + 1) r
theorem range'_map (r : List D) : ∀ n j, (List.range' j n).map (fun i => r.getD i default) = cellsOf n j r
  | 0, j => rfl
  | n + 1, j => by rw [List.range'_succ, List.map_cons, range'_map r n (j + 1)]; rfl
@[simp] theorem ds_one (c : RC) (d : D) : (RSh.one c).ds d = [d] := rfl
@[simp] theorem ds_agg (cs : List RC) (d : D) : (RSh.agg cs).ds d = cellsOf cs.length 0 d.row := by
  show (List.range cs.length).map (fun j => d.row.getD j default) = _
  rw [List.range_eq_range', range'_map]
@[simp] theorem cellsOf_zero (j : Nat) (r : List D) : cellsOf 0 j r = [] := rfl
@[simp] theorem cellsOf_succ (n j : Nat) (r : List D) : cellsOf (n + 1) j r = cell r j :: cellsOf n (j + 1) r := rfl

/-- The arguments, one by one. -/
theorem args1 {p : List D → Prop} (h : ∀ a, p [a]) : ∀ ds : List D, ds.length = 1 → p ds
  | [a], _ => h a
theorem args2 {p : List D → Prop} (h : ∀ a b, p [a, b]) : ∀ ds : List D, ds.length = 2 → p ds
  | [a, b], _ => h a b
theorem args3 {p : List D → Prop} (h : ∀ a b c, p [a, b, c]) : ∀ ds : List D, ds.length = 3 → p ds
  | [a, b, c], _ => h a b c
/-- A contract that asks `pre` of its arguments and gives `f` of them. -/
noncomputable def con (pre : List D → Prop) (f : Nat → List D → D) (c : Nat) (ds : List D) : D := if c = 1000 then .bool (tt (pre ds)) else f c ds
@[simp] theorem con_ok (pre : List D → Prop) (f : Nat → List D → D) (ds : List D) : ((con pre f 1000 ds).asBool = true) = pre ds := by simp [con]
@[simp] theorem con_asBool (pre : List D → Prop) (f : Nat → List D → D) (ds : List D) : (con pre f 1000 ds).asBool = tt (pre ds) := rfl
@[simp] theorem con_zero (pre : List D → Prop) (f : Nat → List D → D) (ds : List D) : con pre f 0 ds = f 0 ds := rfl
@[simp] theorem con_one (pre : List D → Prop) (f : Nat → List D → D) (ds : List D) : con pre f 1 ds = f 1 ds := rfl

@[simp] theorem asBool_cond (c : Bool) (x y : D) : (bif c then x else y).asBool = bif c then x.asBool else y.asBool := by cases c <;> rfl
@[simp] theorem asInt_cond (c : Bool) (x y : D) : (bif c then x else y).asInt = bif c then x.asInt else y.asInt := by cases c <;> rfl
@[simp] theorem asStr_cond (c : Bool) (x y : D) : (bif c then x else y).asStr = bif c then x.asStr else y.asStr := by cases c <;> rfl
@[simp] theorem asList_cond (c : Bool) (x y : D) : (bif c then x else y).asList = bif c then x.asList else y.asList := by cases c <;> rfl
@[simp] theorem bool_cond (c : Bool) (x y : Bool) : (bif c then D.bool x else D.bool y) = D.bool (bif c then x else y) := by cases c <;> rfl
@[simp] theorem int_cond (c : Bool) (x y : Int) : (bif c then D.int x else D.int y) = D.int (bif c then x else y) := by cases c <;> rfl
@[simp] theorem cond_true_right (c x : Bool) : (bif c then x else true) = (!c || x) := by cases c <;> rfl
@[simp] theorem cond_false_right (c x : Bool) : (bif c then x else false) = (c && x) := by cases c <;> rfl
@[simp] theorem cond_true_left (c x : Bool) : (bif c then true else x) = (c || x) := by cases c <;> rfl
@[simp] theorem cond_false_left (c x : Bool) : (bif c then false else x) = (!c && x) := by cases c <;> rfl
@[simp] theorem eqRets_nil (ds ds' : List D) : eqRets [] ds ds' = True := rfl
@[simp] theorem eqRets_cons (c : RC) (cs : List RC) (a b : D) (ds ds' : List D) : eqRets (c :: cs) (a :: ds) (b :: ds') = (eqRC c a b ∧ eqRets cs ds ds') := rfl
@[simp] theorem eqRC_im (k : K) (a b : D) : eqRC (.im k) a b = eqK k a b := rfl
@[simp] theorem eqRC_own (e : TypeId) (ks : List K) (dp : Bool) (a b : D) : eqRC (.own e ks dp) a b = (a.asList = b.asList) := rfl
@[simp] theorem eqK_int (k : IntKind) (a b : D) : eqK (.int k) a b = (a.asInt = b.asInt) := rfl
@[simp] theorem eqK_bool (a b : D) : eqK .bool a b = (a.asBool = b.asBool) := rfl
@[simp] theorem eqK_str (a b : D) : eqK .str a b = (a.asStr = b.asStr) := rfl
@[simp] theorem eqK_sl (e : TypeId) (ks : List K) (a b : D) : eqK (.sl e ks) a b = (a.asList = b.asList) := rfl
end Go.Vx

/-
  Vx, part 39: loops that measure, compare and copy the rows of a slice.
-/
namespace Go.Vx
open Go.RowKit (Below)

theorem cnDs_length : ∀ (ks : List K) (r : List D), (cnDs ks r).length = ks.length
  | [], _ => rfl
  | k :: ks, r => by simp [cnDs, cnDs_length ks]

theorem rowAt_nat (xs : List (List D)) (i : Nat) : rowAt xs (i : Int) = rowN xs i := by simp [rowAt]
/-- A row of a slice. -/
def mkE (x i : E) : E := .op .row [x, i]
section
variable {Φ : Fns} {env : List D}
@[simp] theorem mkE_den (x i : E) : (mkE x i).den Φ env = .sl [rowAt (x.den Φ env).asList (i.den Φ env).asInt] := rfl
end

/-! Measuring. -/
/-- The steps of measuring a struct. -/
inductive St1 where
  | s (e : E)
  | l (e : E)
  | c (f : Nat) (e : E)
/-! Comparing. -/
noncomputable def mEqA (ks : List K) : Nat → List D → D := con (fun _ => True) fun _ ds => .bool (eqDs ks (cell ds 0).row (cell ds 1).row)
noncomputable def mEqL (ks : List K) : Nat → List D → D := con (fun _ => True) fun _ ds => .bool (eqR (eqDs ks) (cell ds 0).asList (cell ds 1).asList)

theorem eqR_len {p : List D → List D → Bool} : ∀ {xs ys : List (List D)}, xs.length ≠ ys.length → eqR p xs ys = false
  | [], [], h => by simp at h
  | [], _ :: _, _ => rfl
  | _ :: _, [], _ => rfl
  | x :: xs, y :: ys, h => by simp [eqR, eqR_len (p := p) (xs := xs) (ys := ys) (by simpa using h)]
theorem eqR_take {p : List D → List D → Bool} : ∀ {xs ys : List (List D)} {i : Nat}, i < xs.length → i < ys.length → eqR p (xs.take (i + 1)) (ys.take (i + 1)) = (eqR p (xs.take i) (ys.take i) && p (rowN xs i) (rowN ys i))
  | x :: xs, y :: ys, 0, _, _ => by simp [eqR]
  | x :: xs, y :: ys, i + 1, h, h' => by
    have := eqR_take (p := p) (xs := xs) (ys := ys) (i := i) (by simpa using h) (by simpa using h')
    simp only [List.take_succ_cons, eqR] at this ⊢
    rw [this, Bool.and_assoc]
    simp
theorem eqR_false {p : List D → List D → Bool} : ∀ {xs ys : List (List D)} {i : Nat}, i < xs.length → i < ys.length → p (rowN xs i) (rowN ys i) = false → eqR p xs ys = false
  | x :: xs, y :: ys, 0, _, _, h => by simp at h; simp [eqR, h]
  | x :: xs, y :: ys, i + 1, h, h', hp => by
    simp [eqR, eqR_false (p := p) (xs := xs) (ys := ys) (i := i) (by simpa using h) (by simpa using h') (by simpa using hp)]

/-- A loop over two slices of one length: c compares two rows. -/
def eqV' (tests : List E) (t : E) : VC := .ite (.op (.bin .neq .i64) [.op .len [.var 0], .op .len [.var 1]]) (.ret [.bool false])
  (.loop 4 0 1 [(.int .i64, 2)] [.int 0] (.ite (.op (.bin .lss .i64) [.var 2, .op .len [.var 0]])
    (.req ([.op .le [.int 0, .var 2], .op .lt [.var 2, .op .len [.var 0]], .op .lt [.var 2, .op .len [.var 1]]] ++ tests)
      (.ite t (.ret [.bool false]) (.back 0 [.op (.bin .add .i64) [.var 2, .int 1]])))
    (.ret [.bool true])))
def eqV (tests : List E) (t : E) : VC := eqV' tests (.op .not [t])

theorem eqV'_wp {Φ : Fns} {tests : List E} {t : E} {p : List D → List D → Bool} {a b : D} (ha : a.asList.length ≤ lenMax)
    (ht : ∀ i : Nat, i < a.asList.length → i < b.asList.length → conj Φ [a, b, .int i] tests ∧ (t.den Φ [a, b, .int i]).asBool = !p (rowN a.asList i) (rowN b.asList i)) (B : Nat → List D → Prop) :
    (eqV' tests t).wp Φ (fun l => l = [.bool (eqR p a.asList b.asList)]) [a, b] B := by
  have hl : (a.asList.length : Int) ≤ 140737488355328 := by simp only [lenMax] at ha; omega
  simp only [eqV', wp_ite', den_op, dens_cons, dens_nil, den_var, op_bin, op_len, intV_neq, D.asInt_int, D.asBool_bool, cell_zero, cell_succ]
  refine ⟨fun h => ?_, fun h => ?_⟩
  · simp at h ⊢
    exact eqR_len fun e => h (by rw [e])
  · have hlen : a.asList.length = b.asList.length := by simp at h; omega
    refine wp_loop' (fun v => ∃ i : Nat, v = [.int i] ∧ i ≤ a.asList.length ∧ eqR p (a.asList.take i) (b.asList.take i) = true) (fun v => a.asList.length - (cell v 0).asInt.toNat) ⟨0, by simp, by omega, by simp [eqR]⟩ ?_
    simp only [allN_succ, allN_zero, kinds_cons, kinds_nil, List.cons_append, List.nil_append]
    rintro d _ ⟨i, hd, hi, he⟩
    simp only [List.cons.injEq, and_true] at hd
    subst hd
    simp only [wp_ite', den_op, dens_cons, dens_nil, den_var, op_bin, op_len, intV_lss, D.asInt_int, D.asBool_bool, cell_zero, cell_succ, tt_ok, tt_no]
    refine ⟨fun hlt => ?_, fun hge => ?_⟩
    · have hlt' : i < a.asList.length := by omega
      obtain ⟨t1, t2⟩ := ht i hlt' (by omega)
      simp only [wp_req', conj_cons, den_op, dens_cons, dens_nil, den_var, den_int, op_le, op_lt, op_len, D.asInt_int, D.asBool_bool, cell_zero, cell_succ, tt_ok]
      refine ⟨⟨by omega, by omega, by omega, t1⟩, ?_⟩
      simp only [wp_ite', t2]
      refine ⟨fun hp => ?_, fun hp => ?_⟩
      · have : p (rowN a.asList i) (rowN b.asList i) = false := by simpa using hp
        simp [eqR_false hlt' (by omega) this]
      · have hp' : p (rowN a.asList i) (rowN b.asList i) = true := by simpa using hp
        simp only [wp_back', List.map_cons, List.map_nil, den_op, dens_cons, dens_nil, den_var, den_int, op_bin, intV_add, D.asInt_int, cell_zero, cell_succ, setB_eq]
        rw [w64 (by omega) (by omega)]
        refine ⟨⟨i + 1, by simp, by omega, ?_⟩, ?_⟩
        · rw [eqR_take hlt' (by omega), he, hp']; rfl
        · simp; omega
    · have hi' : i = a.asList.length := by omega
      subst hi'
      rw [List.take_length, hlen, List.take_length] at he
      simp [he]

theorem eqV_wp {Φ : Fns} {tests : List E} {t : E} {p : List D → List D → Bool} {a b : D} (ha : a.asList.length ≤ lenMax)
    (ht : ∀ i : Nat, i < a.asList.length → i < b.asList.length → conj Φ [a, b, .int i] tests ∧ (t.den Φ [a, b, .int i]).asBool = p (rowN a.asList i) (rowN b.asList i)) (B : Nat → List D → Prop) :
    (eqV tests t).wp Φ (fun l => l = [.bool (eqR p a.asList b.asList)]) [a, b] B :=
  eqV'_wp ha (fun i h1 h2 => ⟨(ht i h1 h2).1, by simp [(ht i h1 h2).2]⟩) B

/-! Copying. -/
/-! Slices of plain values. -/
end Go.Vx

/-
  Vx, part 40: what an argument reads as; from a law's contract to its row.
-/
namespace Go.Vx
open Go.RowKit Go.ChangeShapes Go.WideShapes

def fldsChk (P : Program) (chk : TypeId → List K → Bool) : Nat → List Field → List K → Bool
  | _, [], [] => true
  | _, [], _ :: _ => false
  | j, x :: fs, ks => x.offset == j && (chk x.type (ks.take (P.cellsOf x.type)) && fldsChk P chk (j + P.cellsOf x.type) fs (ks.drop (P.cellsOf x.type)))
/-- The cells of a type. -/
def ksChk (P : Program) : Nat → TypeId → List K → Bool
  | 0, _, _ => false
  | f + 1, t, ks => P.cellsOf t == ks.length && match P.underlying t, ks with
    | some .bool, [.bool] => true
    | some (.int k), [.int k'] => decide (k = k')
    | some .string, [.str] => true
    | some (.slice e), [.sl e' ks'] => e == e' && (Nat.blt 0 (P.bytesOf e) && (!(ks'.length == 0) && ksChk P f e ks'))
    | some (.struct fs), ks => fldsChk P (ksChk P f) 0 fs.toList ks
    | _, _ => false

theorem exists_list {α : Type} {P : Nat → α → Prop} : ∀ (n : Nat), (∀ i, i < n → ∃ x, P i x) → ∃ l : List α, l.length = n ∧ ∀ i x, l[i]? = some x → P i x
  | 0, _ => ⟨[], rfl, fun i x h => by simp at h⟩
  | n + 1, h => by
    obtain ⟨l, h1, h2⟩ := exists_list n fun i hi => h i (by omega)
    obtain ⟨x, hx⟩ := h n (by omega)
    refine ⟨l ++ [x], by simp [h1], fun i y hy => ?_⟩
    rcases Nat.lt_or_ge i n with hi | hi
    · rw [List.getElem?_append_left (by omega)] at hy
      exact h2 i y hy
    · rw [List.getElem?_append_right (by omega)] at hy
      have : i - l.length = 0 := by
        have := (List.getElem?_eq_some_iff.1 hy).1
        simp at this; omega
      rw [this] at hy
      simp at hy
      subst hy
      have : i = n := by omega
      subst this
      exact hx

section
variable {H : Type} {enc : TypeId × Value → H} {P : Program} {w : World}

theorem ksChk_len {f : Nat} {t : TypeId} {ks : List K} (h : ksChk P f t ks = true) : P.cellsOf t = ks.length := by
  cases f with
  | zero => simp [ksChk] at h
  | succ f => simp only [ksChk, Bool.and_eq_true, beq_iff_eq] at h; exact h.1

theorem flds_rep {chk : TypeId → List K → Bool} {n : Nat} {cs : List Value}
    (hchk : ∀ t ks, chk t ks = true → P.cellsOf t = ks.length ∧ ∀ cs d ps, DataW.trod enc P w 0 (fun _ => true) true n t cs = some (d, ps) → (∀ m ∈ d.weights P t, m ≤ reachBytes) → ∃ ds, ds.length = ks.length ∧ RepCs w (fun _ _ => False) ks cs ds) :
    ∀ (fs : List Field) (j : Nat) (ks : List K) (xs : List (DataW H × List MemPlace)), fldsChk P chk j fs ks = true → xs.length = fs.length → (∀ (i : Nat) (x : Field), fs[i]? = some x → DataW.trod enc P w 0 (fun _ => true) true n x.type ((cs.drop x.offset).take (P.cellsOf x.type)) = xs[i]?) →
      (∀ m ∈ DataW.weightsEach P (fs.map (·.type)) (xs.map (·.1)), m ≤ reachBytes) → j + ks.length = cs.length → ∃ ds, ds.length = ks.length ∧ RepCs w (fun _ _ => False) ks (cs.drop j) ds
  | [], j, [], xs, _, _, _, _, hl => ⟨[], rfl, by simp at hl; simp [RepCs, hl]⟩
  | [], j, _ :: _, xs, h, _, _, _, _ => by simp [fldsChk] at h
  | x :: fs, j, ks, [], _, hx, _, _, _ => by simp at hx
  | x :: fs, j, ks, y :: xs, h, hx, ht, hw, hl => by
    simp only [fldsChk, Bool.and_eq_true, beq_iff_eq] at h
    obtain ⟨h1, h2, h3⟩ := h
    obtain ⟨c1, c2⟩ := hchk _ _ h2
    have hn : P.cellsOf x.type ≤ ks.length := by rw [List.length_take] at c1; omega
    have t0 := ht 0 x rfl
    rw [h1] at t0
    simp only [List.map_cons, DataW.weightsEach, List.mem_append] at hw
    obtain ⟨ds1, l1, r1⟩ := c2 _ y.1 y.2 t0 fun m hm => hw m (.inl hm)
    obtain ⟨ds2, l2, r2⟩ := flds_rep hchk fs (j + P.cellsOf x.type) (ks.drop (P.cellsOf x.type)) xs h3 (by simpa using hx) (fun i z hz => by simpa using ht (i + 1) z (by simpa using hz)) (fun m hm => hw m (.inr hm)) (by rw [List.length_drop]; omega)
    refine ⟨ds1 ++ ds2, by rw [List.length_append, l1, l2, List.length_take, List.length_drop]; omega, ?_⟩
    have := RepCs.append l1 r1 r2
    rwa [List.take_append_drop, ← List.drop_drop, List.take_append_drop] at this

theorem trod_rep : ∀ (f : Nat) (t : TypeId) (ks : List K), ksChk P f t ks = true → ∀ (n : Nat) (cs : List Value) (d : DataW H) (ps : List MemPlace), DataW.trod enc P w 0 (fun _ => true) true n t cs = some (d, ps) →
    (∀ m ∈ d.weights P t, m ≤ reachBytes) → ∃ ds, ds.length = ks.length ∧ RepCs w (fun _ _ => False) ks cs ds
  | 0, _, _, h, _, _, _, _, _, _ => by simp [ksChk] at h
  | f + 1, t, ks, h, n, cs, d, ps, hd, hwt => by
    have hlen := ksChk_len h
    simp only [ksChk, Bool.and_eq_true] at h
    replace h := h.2
    split at h
    · rename_i hu
      obtain ⟨b, rfl, hx⟩ := DataW.trod_bool hu hd
      exact ⟨[.bool b], rfl, .bool b, [], rfl, rfl, rfl⟩
    · rename_i k k' hu
      have := of_decide_eq_true h
      subst this
      obtain ⟨m, rfl, hx, hwf⟩ := DataW.trod_int hu hd
      refine ⟨[.int m], rfl, .int k m, [], rfl, ⟨rfl, ?_⟩, rfl⟩
      simp only [Lit.wf, Bool.and_eq_true, decide_eq_true_eq] at hwf
      exact hwf
    · rename_i hu
      obtain ⟨s, rfl, hx, _⟩ := DataW.trod_string hu hd
      simp only [Prod.mk.injEq] at hx
      obtain ⟨rfl, rfl⟩ := hx
      refine ⟨[.str s], rfl, .string s, [], rfl, ⟨rfl, ?_⟩, rfl⟩
      have := hwt s.data.toList.length (by simp [DataW.weights])
      have h2 := reachBytes_lt
      have e : s.size = s.data.toList.length := rfl
      show s.size ≤ 2 ^ 47
      omega
    · rename_i e e' ks' hu
      simp only [Bool.and_eq_true, beq_iff_eq, Bool.not_eq_true', beq_eq_false_iff_ne, ne_eq] at h
      obtain ⟨rfl, hb, hk0, hc⟩ := h
      have hb : 0 < P.bytesOf e := Nat.le_of_ble_eq_true hb
      have hce := ksChk_len hc
      rcases DataW.trod_slice hu hd with ⟨rfl, hx⟩ | ⟨a, len, cap, elems, rest, n', _, rfl, hx, _, hl, _, hlen', hel, _, _⟩
      · exact ⟨[.sl []], rfl, .slice none 0 0, [], rfl, ⟨none, 0, rfl, Nat.le_refl _, by simp [lenMax], .inl rfl⟩, rfl⟩
      · simp only [Prod.mk.injEq] at hx
        obtain ⟨rfl, _⟩ := hx
        simp only [DataW.weights, hu, List.mem_cons, List.mem_append] at hwt
        have hlm : len ≤ lenMax := by
          have := hwt _ (.inl rfl)
          have h2 := reachBytes_lt
          simp only [List.length_map] at this
          have h3 : elems.length * 1 ≤ (elems.length + rest.length) * P.bytesOf e := Nat.mul_le_mul (by omega) hb
          simp only [lenMax]
          omega
        have hall : ∀ i, i < len → ∃ row, ∃ vs, w.cells? 0 (a.add (i * P.cellsOf e)) (P.cellsOf e) = some vs ∧ RepCs w (fun _ _ => False) ks' vs row := fun i hi => by
          have h1 := hel i hi
          have hget : elems[i]? = some elems[i] := List.getElem?_eq_getElem (by omega)
          rw [hget, Option.bind_eq_some_iff] at h1
          obtain ⟨vs, q1, q2⟩ := h1
          have hmem : ∀ (l : List (DataW H)) (x : DataW H), x ∈ l → ∀ m ∈ x.weights P e, m ∈ DataW.weightsAll P e l := by
            intro l
            induction l with
            | nil => intro x hx; simp at hx
            | cons y l ih =>
              intro x hx m hm
              simp only [DataW.weightsAll, List.mem_append]
              rcases List.mem_cons.1 hx with rfl | hx
              · exact .inl hm
              · exact .inr (ih x hx m hm)
          obtain ⟨row, _, hr⟩ := trod_rep f e ks' hc n' vs elems[i].1 elems[i].2 q2 fun m hm => hwt m (.inr (.inl (hmem _ _ (List.mem_map.2 ⟨_, List.getElem_mem _, rfl⟩) m hm)))
          exact ⟨row, vs, q1, hr⟩
        obtain ⟨rows, r1, r2⟩ := exists_list len hall
        refine ⟨[.sl rows], rfl, .slice (some a) len cap, [], rfl, ⟨some a, cap, by simp [r1], by simp [r1, hl], by simp [r1, hlm], ?_⟩, rfl⟩
        simp only [List.headD_cons, D.asList_sl]
        by_cases h0 : rows = []
        · exact .inl h0
        · right
          have hpos : 0 < len := by rw [← r1]; exact List.length_pos_iff.2 h0
          have hkpos : 0 < P.cellsOf e := by rw [hce]; omega
          have spot : a.spot = none := by
            obtain ⟨row, vs, q1, _⟩ := hall 0 hpos
            obtain ⟨_, s2, s3⟩ := World.cells?_some q1
            have := s3 0 hkpos
            rw [Nat.zero_mul, show a.add 0 = a by simp [Addr.add]] at this
            have hne : (a.add 0) = a := by simp [Addr.add]
            rw [hne] at this
            unfold World.cell? at this
            have hv : vs[0]? = some vs[0] := List.getElem?_eq_getElem (by omega)
            rw [hv] at this
            split at this
            · split at this
              · cases this
              · rename_i hs; simpa using hs
            · cases this
          obtain ⟨b, off, sp⟩ := a
          simp only at spot
          subst spot
          have hadd : ∀ m, (⟨b, off, none⟩ : Addr).add m = ⟨b, off + m, none⟩ := fun m => by unfold Addr.add; split <;> simp_all
          refine ⟨b, off, rfl, fun i row hi => ?_⟩
          obtain ⟨vs, q1, q2⟩ := r2 i row hi
          refine ⟨vs, Row.of_get fun j v hv => ?_, fun _ _ h => h, q2⟩
          obtain ⟨_, s2, s3⟩ := World.cells?_some q1
          have hjl := (List.getElem?_eq_some_iff.1 hv).1
          have := s3 j (by omega)
          rw [hadd, hv, hce] at this
          have hadd2 : (⟨b, off + i * ks'.length, none⟩ : Addr).add j = ⟨b, off + i * ks'.length + j, none⟩ := by unfold Addr.add; split <;> simp_all
          rw [hadd2] at this
          exact this
    · rename_i fs hu
      obtain ⟨xs, n', rfl, hx, hcl, hxl, hfl⟩ := DataW.trod_struct hu hd
      simp only [Prod.mk.injEq] at hx
      obtain ⟨rfl, _⟩ := hx
      simp only [DataW.weights, hu] at hwt
      have := flds_rep (H := H) (enc := enc) (P := P) (w := w) (chk := ksChk P f) (n := n') (cs := cs) (fun t ks hc => ⟨ksChk_len hc, fun cs d ps hd hw => trod_rep f t ks hc n' cs d ps hd hw⟩) fs.toList 0 _ xs h (by simpa using hxl)
        (fun i x hi => hfl i x (by simpa using hi)) hwt (by omega)
      simpa using this
    · cases h

/-- The shape of a parameter. -/
def argChk (P : Program) (t : TypeId) : ASh → Bool
  | .one k => (match P.underlying t with | some (.struct _) => false | _ => true) && ksChk P 30 t [k]
  | .agg ks => (match P.underlying t with | some (.struct _) => true | _ => false) && ksChk P 30 t ks
  | .pim _ => false
def argsChk (P : Program) : List TypeId → List ASh → Bool
  | [], [] => true
  | t :: ts, s :: ss => argChk P t s && argsChk P ts ss
  | _, _ => false

theorem arg_rep {r : Reach} {b0 : Nat} {t : TypeId} {sh : ASh} (h : argChk P t sh = true) {v : Value} {d : DataW H} {ps : List MemPlace} (hv : Value.okWide P w r b0 t v) (hd : DataW.Trod enc P w 0 (fun _ => true) true t v d ps)
    (hw : ∀ m ∈ d.weights P t, m ≤ reachBytes) : ∃ x : D, ArgRep w (fun _ _ => False) sh v x := by
  obtain ⟨n, hn⟩ := hd
  cases sh with
  | one k =>
    simp only [argChk, Bool.and_eq_true] at h
    obtain ⟨ds, hl, hr⟩ := trod_rep 30 t [k] h.2 n _ d ps hn hw
    obtain ⟨u, us, hu, hc, rfl⟩ := hr
    have hcell : v.cells = #[v] := by
      have h2 := h.2
      simp only [ksChk, Bool.and_eq_true] at h2
      replace h2 := h2.2
      split at h2
      · rename_i hu _; obtain ⟨b, rfl⟩ := okWide_bool hu hv; rfl
      · rename_i hu _; obtain ⟨b, rfl⟩ := okWide_int hu hv; rfl
      · rename_i hu _; obtain ⟨b, rfl⟩ := okWide_string hu hv; rfl
      · rename_i hu _; obtain ⟨_, _, _, rfl⟩ := okWide_slice hu hv; rfl
      · rename_i hu; have := h.1; rw [hu] at this; cases this
      · cases h2
    rw [hcell] at hu
    simp only [List.cons.injEq, and_true] at hu
    subst hu
    exact ⟨_, hc⟩
  | agg ks =>
    simp only [argChk, Bool.and_eq_true] at h
    obtain ⟨ds, hl, hr⟩ := trod_rep 30 t ks h.2 n _ d ps hn hw
    have h1 := h.1
    split at h1
    · rename_i fs hu
      obtain ⟨cs, rfl, _⟩ := okWide_struct hu hv
      exact ⟨.sl [ds], cs.toList, by simp, hr⟩
    · cases h1
  | pim ks => simp [argChk] at h

theorem args_rep : ∀ {ts : List TypeId} {shs : List ASh}, argsChk P ts shs = true → ∀ {vs : List Value} {ds : List (DataW H)} {ps : List MemPlace}, DataW.TrodAll enc P w 0 (fun _ => true) true ts vs ds ps →
    (∀ (j : Nat) t v, ts[j]? = some t → vs[j]? = some v → ∃ r b0, Value.okWide P w r b0 t v) → (∀ m ∈ DataW.weightsEach P ts ds, m ≤ reachBytes) → ∃ xs, ArgReps w (fun _ _ => False) shs vs xs
  | [], [], _, vs, ds, ps, h, _, _ => by
    obtain ⟨rfl, rfl, rfl⟩ := trodAll_nil h
    exact ⟨[], rfl, rfl⟩
  | [], _ :: _, h, _, _, _, _, _, _ => by simp [argsChk] at h
  | _ :: _, [], h, _, _, _, _, _, _ => by simp [argsChk] at h
  | t :: ts, s :: ss, h, vs, ds, ps, ht, hv, hw => by
    simp only [argsChk, Bool.and_eq_true] at h
    obtain ⟨v, vs', d, ds', p, q, rfl, rfl, rfl, h1, h2⟩ := trodAll_cons ht
    simp only [DataW.weightsEach, List.mem_append] at hw
    obtain ⟨r, b0, hv0⟩ := hv 0 t v rfl rfl
    obtain ⟨x, hx⟩ := arg_rep h.1 hv0 h1 fun m hm => hw m (.inl hm)
    obtain ⟨xs, hxs⟩ := args_rep h.2 h2 (fun j t v q1 q2 => hv (j + 1) t v (by simpa using q1) (by simpa using q2)) fun m hm => hw m (.inr hm)
    exact ⟨x :: xs, v, vs', x, xs, rfl, rfl, hx, hxs⟩

/-- The arguments read on as they did. -/
theorem args_stay (hl : laidOutB P = true) : ∀ {ts : List TypeId}, (∀ t ∈ ts, P.readableRec t = true ∧ t < P.types.size) → ∀ {vs : List Value} {ds : List (DataW H)} {ps : List MemPlace} {W' : World} {sp : Nat → Bool},
    DataW.TrodAll enc P w 0 (fun _ => true) true ts vs ds ps → Below w.heap.size w W' → (∀ x ∈ ps, x.block < w.heap.size) → (∀ x ∈ ps, sp x.block = true) → DataW.TrodAll enc P W' 0 sp true ts vs ds ps
  | [], _, vs, ds, ps, W', sp, h, _, _, _ => by
    obtain ⟨rfl, rfl, rfl⟩ := trodAll_nil h
    exact rfl
  | t :: ts, ht, vs, ds, ps, W', sp, h, hb, hlt, hsp => by
    obtain ⟨v, vs', d, ds', p, q, rfl, rfl, rfl, h1, h2⟩ := trodAll_cons h
    obtain ⟨r1, r2⟩ := ht t (by simp)
    exact ⟨p, q, WideElems.Trod_stays hl r1 r2 h1 (fun x hx => hb.same (hlt x (by simp [hx]))) (fun x hx => hsp x (by simp [hx])),
      args_stay hl (fun t ht' => ht t (by simp [ht'])) h2 hb (fun x hx => hlt x (by simp [hx])) (fun x hx => hsp x (by simp [hx])), rfl⟩

theorem law_post {f : FuncId} {fn : Func} {s : ChangeSpec} {shs : List ASh} {φ : Nat → List D → D} (hF : FunR P f shs [.one (.im .bool)] φ) (hφ : ∀ xs, xs.length = shs.length → (φ 1000 xs).asBool = true ∧ (φ 0 xs).asBool = true)
    (hl : laidOutB P = true) (hr : ∀ t ∈ fn.params.toList, P.readableRec t = true ∧ t < P.types.size) (hc : argsChk P fn.params.toList shs = true) {tb : TypeId} (hres : fn.resultTypes = #[tb]) (htb : P.underlying tb = some .bool)
    (hs : ∀ ds : List (DataW H), ds.length = fn.params.toList.length → s.fn H ds = { results := [.lit (.bool true)], args := ds }) (hv : s.vars = []) {W : World} {base : Nat} {args : Array Value} {ds gs : List (DataW H)} {before : List MemPlace}
    (hval : ∀ (j : Nat) t v, fn.params[j]? = some t → args[j]? = some v → Value.okWide P W .any base t v) (hW : DataW.Whole enc P fn.params.toList s.vars false W args.toList ds gs before)
    (hw : (DataW.weightsEach P (fn.params.toList ++ s.plain.varTypes P) (ds ++ gs)).all (· ≤ reachBytes) = true) (hG : glob P W) :
    Calls P f args W fun e W' => ∃ v, e = .returned v ∧ s.post enc P fn false true false false W args v W' := by
  have hW' := hW
  have hlt := hW.lt
  obtain ⟨p, q, hA, hV, hpq, hfz, hnd⟩ := hW
  rw [hv] at hV
  obtain ⟨rfl, rfl⟩ := trodVars_none hV
  simp only [List.append_nil] at hpq
  subst hpq
  have hdl : ∀ {ts : List TypeId} {vs : List Value} {ds : List (DataW H)} {ps : List MemPlace}, DataW.TrodAll enc P W 0 (fun _ => true) true ts vs ds ps → ds.length = ts.length := by
    intro ts
    induction ts with
    | nil => intro vs ds ps h; obtain ⟨rfl, rfl, rfl⟩ := trodAll_nil h; rfl
    | cons t ts ih => intro vs ds ps h; obtain ⟨v, vs', d, ds', p, q, rfl, rfl, rfl, _, h2⟩ := trodAll_cons h; simp [ih h2]
  have hwt : ∀ m ∈ DataW.weightsEach P fn.params.toList ds, m ≤ reachBytes := fun m hm => by
    have h1 : s.plain.varTypes P = [] := by simp [DataSpec.varTypes, ChangeSpec.plain, hv]
    rw [h1, List.append_nil, List.append_nil] at hw
    simpa using List.all_eq_true.1 hw m hm
  obtain ⟨xs, hxs⟩ := args_rep hc hA (fun j t v h1 h2 => ⟨_, _, hval j t v (by simpa using h1) (by simpa using h2)⟩) hwt
  obtain ⟨_, hxl, _⟩ := hxs.wf
  obtain ⟨q1, q2⟩ := hφ xs hxl
  have := hF W (fun _ _ => False) args.toList xs (fun _ _ h => h.elim) hG hxs q1
  rw [show args.toList.toArray = args by simp] at this
  refine this.mono fun e W' ⟨us, Fs, he, hb, hret, _, _⟩ => ?_
  obtain ⟨u, us', rfl, hu, hret⟩ := hret
  obtain ⟨rfl, rfl⟩ := hret
  have hu : u = .bool true := by
    have : u = .bool (φ 0 xs).asBool := hu
    rw [this, q2]
  subst hu
  refine ⟨.bool true, he, ?_⟩
  have hfn : s.fn H (ds ++ []) = { results := [.lit (.bool true)], args := ds } := by rw [List.append_nil]; exact hs ds (hdl hA)
  have hold : ∀ x ∈ before, (fun b => decide (b < W.heap.size)) x.block = true := fun x hx => by simpa using hlt x hx
  have hres' : ∀ (b : Nat) (sp : Nat → Bool) (hd : Bool), DataW.TrodAll enc P W' b sp hd fn.resultTypes.toList ((Value.bool true).resultList fn.resultTypes.size) (s.fn H (ds ++ [])).results [] := fun b sp hd => by
    rw [hres, hfn]
    exact trodAll_cons_mk (shut_bool htb true) trodAll_mk0
  have hargs : ∀ sp : Nat → Bool, (∀ x ∈ before, sp x.block = true) → DataW.TrodAll enc P W' 0 sp true fn.params.toList args.toList (s.fn H (ds ++ [])).args before := fun sp hsp => by
    rw [hfn]
    exact args_stay hl hr hA hb hlt hsp
  have hvars : ∀ sp : Nat → Bool, DataW.TrodVars enc P W' sp s.vars (s.fn H (ds ++ [])).vars [] := fun sp => by
    rw [hv, hfn]
    rfl
  refine ⟨ds, [], before, [], before, [], hW', hres' _ _ _, hargs _ hold, hvars _, World.keptBut_mono (fun x hx => ⟨hx, .inr (by simpa using hx)⟩) (hb.frame (· ∈ before)), fun _ => ?_⟩
  refine ⟨ok_one hres rfl (okWide_bool_mk htb _), _, _, ([] ++ before) ++ [], ⟨[] ++ before, [], trodAll_append (hargs _ (fun _ _ => rfl)) (hres' _ _ _), hvars _, rfl, ?_, ?_⟩, ?_⟩
  · intro b off hp
    have hp : MemPlace.cell b off ∈ before := by simpa using hp
    rw [hb.frozen (hlt _ hp)]
    exact hfz b off hp
  · intro ha; cases ha
  · intro x hx _
    simpa using hx

end

end Go.Vx

/-
  Vx, part 41: loops over the rows of a slice.
-/
namespace Go.Vx
open Go.RowKit (Below)

theorem kinds_intro {env : List D} : ∀ {l : List (K × Nat)} {p : Prop}, ((∀ q ∈ l, WFD q.1 (cell env q.2)) → p) → kinds env l p
  | [], p, h => h fun q hq => by simp at hq
  | (k, i) :: l, p, h => fun hw => kinds_intro fun hq => h fun q hm => by
      rcases List.mem_cons.1 hm with rfl | hm
      · exact hw
      · exact hq q hm

theorem VC.wp_mono2 {Φ : Fns} {post post' : List D → Prop} (h : ∀ l, post l → post' l) : ∀ (t : VC) (env : List D) (B B' : Nat → List D → Prop), (∀ l v, B l v → B' l v) → t.wp Φ post env B → t.wp Φ post' env B' := by
  have hN : ∀ (n : Nat) {p q : List D → Prop}, (∀ l, p l → q l) → allN n p → allN n q := by
    intro n
    induction n with
    | zero => intro p q hpq hp; exact hpq _ hp
    | succ n ih => intro p q hpq hp d; exact ih (fun l => hpq (d :: l)) (hp d)
  have hK : ∀ (l : List (K × Nat)) (env : List D) {p q : Prop}, (p → q) → kinds env l p → kinds env l q := by
    intro l env
    induction l with
    | nil => intro p q hpq hp; exact hpq hp
    | cons x l ih => intro p q hpq hp hw; exact ih hpq (hp hw)
  intro t
  induction t with
  | req cs t ih => intro env B B' hB ht; exact ⟨ht.1, ih env B B' hB ht.2⟩
  | ite c x y ihx ihy => intro env B B' hB ht; exact ⟨fun hc => ihx env B B' hB (ht.1 hc), fun hc => ihy env B B' hB (ht.2 hc)⟩
  | loop id l m fs init body ih =>
    intro env B B' hB ⟨I, μ, h0, hI⟩
    refine ⟨I, μ, h0, hN m (fun vs hk => hK fs _ (fun hb hi => ih _ _ _ (fun j v hv => ?_) (hb hi)) hk) hI⟩
    by_cases e : j = l
    · subst e; simpa only [setB_eq] using hv
    · rw [setB_ne e] at hv ⊢; exact hB j v hv
  | back l es => intro env B B' hB ht; exact hB _ _ ht
  | ret es => intro env B B' hB ht; exact h _ ht
  | join id l m fs x y ihx ihy =>
    intro env B B' hB ⟨I, h1, h2⟩
    refine ⟨I, ihx _ _ _ (fun j v hv => ?_) h1, hN m (fun vs hk => hK fs _ (fun hb hi => ihy _ _ _ hB (hb hi)) hk) h2⟩
    by_cases e : j = l
    · subst e; simpa only [setB_eq] using hv
    · rw [setB_ne e] at hv ⊢; exact hB j v hv

section
variable {Φ : Fns} {post : List D → Prop} {env : List D} {B : Nat → List D → Prop}

/-- A loop that counts. -/
theorem loop1_wp {id l n : Nat} {fs : List (K × Nat)} {L : E} {body rest : VC} {N : Nat} (hn : env.length = n) (hL : ∀ d, (L.den Φ (env ++ [d])).asInt = N) (hN : (N : Int) ≤ 140737488355328) (I : Nat → Prop) (h0 : I 0)
    (hb : ∀ i : Nat, i < N → I i → body.wp Φ post (env ++ [.int i]) (setB B l fun v => v = [.int (IntKind.i64.wrap (i + 1))] ∧ I (i + 1)))
    (hr : I N → ∀ p, rest.wp Φ post (env ++ [.int N]) (setB B l p)) :
    (VC.loop id l 1 fs [.int 0] (.ite (.op (.bin .lss .i64) [.var n, L]) body rest)).wp Φ post env B := by
  refine wp_loop' (fun v => ∃ i : Nat, v = [.int i] ∧ i ≤ N ∧ I i) (fun v => N - (cell v 0).asInt.toNat) ⟨0, rfl, by omega, h0⟩ ?_
  simp only [allN_succ, allN_zero]
  intro d
  refine kinds_intro fun _ => ?_
  rintro ⟨i, hd, hi, hI⟩
  simp only [List.cons.injEq, and_true] at hd
  subst hd
  have hv : cell (env ++ [.int i]) n = .int i := by subst hn; simp [cell]
  simp only [wp_ite', den_op, dens_cons, dens_nil, den_var, op_bin, intV_lss, hL, hv, D.asInt_int, D.asBool_bool, cell_zero, cell_succ, tt_ok, tt_no]
  refine ⟨fun hlt => ?_, fun hge => ?_⟩
  · refine VC.wp_mono2 (fun _ h => h) _ _ _ _ (fun j v h => ?_) (hb i (by omega) hI)
    by_cases e : j = l
    · subst e
      simp only [setB_eq] at h ⊢
      obtain ⟨rfl, h⟩ := h
      rw [w64 (by omega) (by omega)]
      exact ⟨⟨i + 1, by simp, by omega, h⟩, by simp; omega⟩
    · rw [setB_ne e] at h ⊢; exact h
  · have : i = N := by omega
    subst this
    exact hr hI _

/-- The same, the count behind. -/
theorem loop2'_wp {id l n : Nat} {fs : List (K × Nat)} {L e0 : E} {body rest : VC} {N : Nat} (hn : env.length + 1 = n) (hL : ∀ d d', (L.den Φ (env ++ [d', d])).asInt = N) (hN : (N : Int) ≤ 140737488355328) (I : Nat → D → Prop) (h0 : I 0 (e0.den Φ env))
    (hb : ∀ (i : Nat) (x : D), i < N → (∀ q ∈ fs, WFD q.1 (cell (env ++ [x, .int i]) q.2)) → I i x → body.wp Φ post (env ++ [x, .int i]) (setB B l fun v => ∃ y, v = [y, .int (IntKind.i64.wrap (i + 1))] ∧ I (i + 1) y))
    (hr : ∀ x, (∀ q ∈ fs, WFD q.1 (cell (env ++ [x, .int N]) q.2)) → I N x → ∀ p, rest.wp Φ post (env ++ [x, .int N]) (setB B l p)) :
    (VC.loop id l 2 fs [e0, .int 0] (.ite (.op (.bin .lss .i64) [.var n, L]) body rest)).wp Φ post env B := by
  refine wp_loop' (fun v => ∃ (i : Nat) (x : D), v = [x, .int i] ∧ i ≤ N ∧ I i x) (fun v => N - (cell v 1).asInt.toNat) ⟨0, _, rfl, by omega, h0⟩ ?_
  simp only [allN_succ, allN_zero]
  intro d d'
  refine kinds_intro fun hk => ?_
  rintro ⟨i, x, hd, hi, hI⟩
  simp only [List.cons.injEq, and_true] at hd
  obtain ⟨rfl, rfl⟩ := hd
  have hv : cell (env ++ [d, .int i]) n = .int i := by subst hn; simp [cell]
  simp only [wp_ite', den_op, dens_cons, dens_nil, den_var, op_bin, intV_lss, hL, hv, D.asInt_int, D.asBool_bool, cell_zero, cell_succ, tt_ok, tt_no]
  refine ⟨fun hlt => ?_, fun hge => ?_⟩
  · refine VC.wp_mono2 (fun _ h => h) _ _ _ _ (fun j v h => ?_) (hb i d (by omega) hk hI)
    by_cases e : j = l
    · subst e
      simp only [setB_eq] at h ⊢
      obtain ⟨y, rfl, h⟩ := h
      rw [w64 (by omega) (by omega)]
      exact ⟨⟨i + 1, y, by simp, by omega, h⟩, by simp; omega⟩
    · rw [setB_ne e] at h ⊢; exact h
  · have : i = N := by omega
    subst this
    exact hr _ hk hI _
end

/-! The first row of some sort. -/
open Classical in
@[simp] theorem op_rows (Φ : Fns) (m : Nat) (ds : List D) : opD Φ (.rows m) ds = .sl (chunk m (ds.length / m) ds) := rfl

theorem sumR_map {p : List D → Nat} {f : List D → List D} (h : ∀ r, p (f r) = p r) : ∀ xs, sumR p (xs.map f) = sumR p xs
  | [] => rfl
  | x :: xs => by simp [sumR, h, sumR_map h xs]
mutual
theorem szD_cnD : ∀ (k : K) (d : D), szD k (cnD k d) = szD k d
  | .int _, d => rfl
  | .bool, d => rfl
  | .str, d => rfl
  | .sl _ ks, d => by simp only [cnD, szD, D.asList_sl, List.length_map, sumR_map (szDs_cnDs ks)]
theorem szDs_cnDs : ∀ (ks : List K) (r : List D), szDs ks (cnDs ks r) = szDs ks r
  | [], r => rfl
  | k :: ks, r => by simp only [cnDs, szDs, List.headD_cons, List.tail_cons, szD_cnD k, szDs_cnDs ks]
end


/-! A struct as its cells. -/
end Go.Vx

/-
  Vx, part 42: arrays that are marked, and held against their marks.
-/
namespace Go.Vx
open Go.RowKit (Below)

/-! The text of a mark. -/
def dgt : Nat → Nat → ByteArray → ByteArray
  | 0, _, s => s
  | f + 1, n, s => if n = 0 then s else dgt f (n / 10) (bytesOf [[.int ((48 + n % 10 : Nat) : Int)]] ++ s)
noncomputable def mtext (k : Int) : ByteArray := if k ≤ 0 then ⟨#[109, 48]⟩ else ⟨#[109]⟩ ++ dgt k.toNat k.toNat ⟨#[]⟩
theorem dgt_zero : ∀ (f : Nat) (s : ByteArray), dgt f 0 s = s
  | 0, _ => rfl
  | f + 1, s => by simp [dgt]
theorem bytesOf_one (n : Int) : (bytesOf [[.int n]]).size = 1 := by simp [bytesOf, strOfNums, ByteArray.size]
theorem wrap8 {n : Nat} (h : n < 256) : IntKind.u8.wrap (n : Int) = n := by
  simp [IntKind.wrap, IntKind.bits, IntKind.signed]
  omega
theorem ba_size_append (a b : ByteArray) : (a ++ b).size = a.size + b.size := by simp

/-! Rows that are marked one after the other. -/
def scanR (f : List D → Int → List D) (c : List D → Nat) : List (List D) → Int → List (List D)
  | [], _ => []
  | r :: rs, n => f r n :: scanR f c rs (n + c r)
def allR (p : List D → Int → Prop) (c : List D → Nat) : List (List D) → Int → Prop
  | [], _ => True
  | r :: rs, n => p r n ∧ allR p c rs (n + c r)
mutual
/-- How many marks. -/
def cntD : K → D → Nat
  | .sl _ ks, d => sumR (cntDs ks) d.asList
  | _, _ => 1
def cntDs : List K → List D → Nat
  | [], _ => 0
  | k :: ks, ds => cntD k (ds.headD default) + cntDs ks ds.tail
end
mutual
noncomputable def mrkD : K → D → Int → D
  | .int _, _, n => .int n
  | .bool, _, n => .bool (tt (n.tmod 3 = 0))
  | .str, _, n => .str (mtext n)
  | .sl _ ks, d, n => .sl (scanR (mrkDs ks) (cntDs ks) d.asList n)
noncomputable def mrkDs : List K → List D → Int → List D
  | [], _, _ => []
  | k :: ks, ds, n => mrkD k (ds.headD default) n :: mrkDs ks ds.tail (n + cntD k (ds.headD default))
end
mutual
/-- It bears the marks from n on. -/
def mkdD : K → D → Int → Prop
  | .int _, d, n => d.asInt = n
  | .bool, d, n => d.asBool = tt (n.tmod 3 = 0)
  | .str, d, n => d.asStr = mtext n
  | .sl _ ks, d, n => allR (mkdDs ks) (cntDs ks) d.asList n
def mkdDs : List K → List D → Int → Prop
  | [], _, _ => True
  | k :: ks, ds, n => mkdD k (ds.headD default) n ∧ mkdDs ks ds.tail (n + cntD k (ds.headD default))
end
mutual
/-- All rows are as long as their kind has them. -/
def lenD : K → D → Prop
  | .sl _ ks, d => d.asList.length ≤ 140737488355328 ∧ ∀ r ∈ d.asList, r.length = ks.length ∧ lenDs ks r
  | _, _ => True
def lenDs : List K → List D → Prop
  | [], _ => True
  | k :: ks, ds => lenD k (ds.headD default) ∧ lenDs ks ds.tail
end

theorem cntDs_cons (k : K) (ks : List K) (r : List D) : cntDs (k :: ks) r = cntD k (cell r 0) + cntDs ks r.tail := by rw [cntDs, headD_cell]
theorem mrkDs_cons (k : K) (ks : List K) (r : List D) (n : Int) : mrkDs (k :: ks) r n = mrkD k (cell r 0) n :: mrkDs ks r.tail (n + cntD k (cell r 0)) := by rw [mrkDs, headD_cell]
theorem mkdDs_cons (k : K) (ks : List K) (r : List D) (n : Int) : mkdDs (k :: ks) r n = (mkdD k (cell r 0) n ∧ mkdDs ks r.tail (n + cntD k (cell r 0))) := by rw [mkdDs, headD_cell]
theorem lenDs_cons (k : K) (ks : List K) (r : List D) : lenDs (k :: ks) r = (lenD k (cell r 0) ∧ lenDs ks r.tail) := by rw [lenDs, headD_cell]
theorem cntD_sl (e : TypeId) (ks : List K) (d : D) : cntD (.sl e ks) d = sumR (cntDs ks) d.asList := rfl
theorem mrkD_sl (e : TypeId) (ks : List K) (d : D) (n : Int) : mrkD (.sl e ks) d n = .sl (scanR (mrkDs ks) (cntDs ks) d.asList n) := rfl
theorem scanR_sum {f : List D → Int → List D} {c p : List D → Nat} (h : ∀ r n, p (f r n) = p r) : ∀ (xs : List (List D)) (n : Int), sumR p (scanR f c xs n) = sumR p xs
  | [], _ => rfl
  | x :: xs, n => by simp [scanR, sumR, h, scanR_sum h xs]
theorem scanR_all {f : List D → Int → List D} {c : List D → Nat} {p : List D → Int → Prop} (h : ∀ r n, p (f r n) n) (hc : ∀ r n, c (f r n) = c r) : ∀ (xs : List (List D)) (n : Int), allR p c (scanR f c xs n) n
  | [], _ => trivial
  | x :: xs, n => ⟨h x n, by rw [hc]; exact scanR_all h hc xs _⟩
mutual
theorem cntD_mrk : ∀ (k : K) (d : D) (n : Int), cntD k (mrkD k d n) = cntD k d
  | .int _, _, _ => rfl
  | .bool, _, _ => rfl
  | .str, _, _ => rfl
  | .sl _ ks, d, n => by rw [mrkD_sl, cntD_sl, cntD_sl, D.asList_sl, scanR_sum (cntDs_mrk ks)]
theorem cntDs_mrk : ∀ (ks : List K) (r : List D) (n : Int), cntDs ks (mrkDs ks r n) = cntDs ks r
  | [], _, _ => rfl
  | k :: ks, r, n => by rw [mrkDs_cons, cntDs_cons, cntDs_cons, cell_zero, List.tail_cons, cntD_mrk k, cntDs_mrk ks]
end
mutual
theorem mkdD_mrk : ∀ (k : K) (d : D) (n : Int), mkdD k (mrkD k d n) n
  | .int _, _, _ => rfl
  | .bool, _, _ => rfl
  | .str, _, _ => rfl
  | .sl _ ks, d, n => scanR_all (mkdDs_mrk ks) (cntDs_mrk ks) d.asList n
theorem mkdDs_mrk : ∀ (ks : List K) (r : List D) (n : Int), mkdDs ks (mrkDs ks r n) n
  | [], _, _ => trivial
  | k :: ks, r, n => by
    rw [mrkDs_cons, mkdDs_cons, cell_zero, List.tail_cons, cntD_mrk k]
    exact ⟨mkdD_mrk k _ n, mkdDs_mrk ks _ _⟩
end
mutual
theorem cntD_cn : ∀ (k : K) (d : D), cntD k (cnD k d) = cntD k d
  | .int _, _ => rfl
  | .bool, _ => rfl
  | .str, _ => rfl
  | .sl _ ks, d => by simp only [cnD, cntD_sl, D.asList_sl, sumR_map (cntDs_cn ks)]
theorem cntDs_cn : ∀ (ks : List K) (r : List D), cntDs ks (cnDs ks r) = cntDs ks r
  | [], _ => rfl
  | k :: ks, r => by rw [cnDs_cons, cntDs_cons, cntDs_cons, cell_zero, List.tail_cons, cntD_cn k, cntDs_cn ks]
end
theorem sumR_mem {p : List D → Nat} : ∀ {xs : List (List D)} {x : List D}, x ∈ xs → p x ≤ sumR p xs
  | [], _, h => by simp at h
  | y :: xs, x, h => by
    rcases List.mem_cons.1 h with rfl | h
    · simp [sumR]
    · have := sumR_mem (p := p) h
      simp only [sumR]; omega
mutual
theorem lenD_cn : ∀ (k : K) (d : D), szD k d ≤ 140737488355328 → lenD k (cnD k d)
  | .int _, _, _ => trivial
  | .bool, _, _ => trivial
  | .str, _, _ => trivial
  | .sl _ ks, d, h => by
    simp only [szD] at h
    refine ⟨by simp only [cnD, D.asList_sl, List.length_map]; omega, fun r hr => ?_⟩
    simp only [cnD, D.asList_sl, List.mem_map] at hr
    obtain ⟨x, hx, rfl⟩ := hr
    have := sumR_mem (p := szDs ks) hx
    exact ⟨cnDs_length ks x, lenDs_cn ks x (by omega)⟩
theorem lenDs_cn : ∀ (ks : List K) (r : List D), szDs ks r ≤ 140737488355328 → lenDs ks (cnDs ks r)
  | [], _, _ => trivial
  | k :: ks, r, h => by
    rw [szDs_cons] at h
    rw [cnDs_cons, lenDs_cons, cell_zero, List.tail_cons]
    exact ⟨lenD_cn k _ (by omega), lenDs_cn ks _ (by omega)⟩
end

/-- No row has more than so many cells. -/
def thin (C : Nat) : K → Bool
  | .sl _ ks => Nat.ble ks.length C && thins C ks
  | _ => true
where thins (C : Nat) : List K → Bool
  | [] => true
  | k :: ks => thin C k && thins C ks
theorem sumR_bound {p q : List D → Nat} {C : Nat} (h : ∀ r, p r ≤ C + C * q r) : ∀ xs, sumR p xs ≤ C * (xs.length + sumR q xs)
  | [] => by simp [sumR]
  | x :: xs => by
    have h1 := h x
    have h2 := sumR_bound h xs
    simp only [sumR, List.length_cons]
    have : C * (xs.length + 1 + (q x + sumR q xs)) = C + C * q x + C * (xs.length + sumR q xs) := by
      rw [show xs.length + 1 + (q x + sumR q xs) = 1 + q x + (xs.length + sumR q xs) by omega, Nat.mul_add, Nat.mul_add, Nat.mul_one]
    omega
mutual
theorem cntD_le {C : Nat} : ∀ (k : K) (d : D), thin C k = true → cntD k d ≤ 1 + C * szD k d
  | .int _, _, _ => by simp [cntD]
  | .bool, _, _ => by simp [cntD]
  | .str, _, _ => by simp [cntD]
  | .sl _ ks, d, h => by
    simp only [thin, Bool.and_eq_true] at h
    have hl := Nat.le_of_ble_eq_true h.1
    have := sumR_bound (p := cntDs ks) (q := szDs ks) (C := C) (fun r => Nat.le_trans (cntDs_le ks r h.2) (by omega)) d.asList
    rw [cntD_sl]
    simp only [szD]
    omega
theorem cntDs_le {C : Nat} : ∀ (ks : List K) (r : List D), thin.thins C ks = true → cntDs ks r ≤ ks.length + C * szDs ks r
  | [], _, _ => by simp [cntDs]
  | k :: ks, r, h => by
    simp only [thin.thins, Bool.and_eq_true] at h
    have h1 := cntD_le k (cell r 0) h.1
    have h2 := cntDs_le ks r.tail h.2
    rw [cntDs_cons, szDs_cons, Nat.mul_add, List.length_cons]
    omega
end
/-! The models. -/
@[simp] theorem con_2000 (pre : List D → Prop) (f : Nat → List D → D) (ds : List D) : con pre f 2000 ds = f 2000 ds := rfl

section
variable {Φ : Fns} {post : List D → Prop} {B : Nat → List D → Prop}

end

end Go.Vx

/-
  Vx, part 43: loops that collect.
-/
namespace Go.Vx
open Go.RowKit (Below)

section
variable {g : List D → List (List D)}
theorem fm_take {xs : List (List D)} {i : Nat} (h : i < xs.length) : (xs.take (i + 1)).flatMap g = (xs.take i).flatMap g ++ g (rowN xs i) := by
  rw [List.take_add_one, List.getElem?_eq_getElem h, List.flatMap_append, rowN_lt h]
  simp
end

section
variable {Φ : Fns} {post : List D → Prop} {env : List D} {B : Nat → List D → Prop} {g : List D → List (List D)}

/-- The same, the count behind. -/
theorem fm_wp' {id l n : Nat} {fs : List (K × Nat)} {L e0 : E} {body rest : VC} {xs : List (List D)} (hn : env.length + 1 = n) (hL : ∀ d d', (L.den Φ (env ++ [d', d])).asInt = xs.length) (hN : (xs.length : Int) ≤ 140737488355328) (h0 : (e0.den Φ env).asList = [])
    (hb : ∀ (i : Nat) (x : D), i < xs.length → x.asList = (xs.take i).flatMap g → body.wp Φ post (env ++ [x, .int i]) (setB B l fun v => ∃ y, v = [y, .int (IntKind.i64.wrap (i + 1))] ∧ y.asList = x.asList ++ g (rowN xs i)))
    (hr : ∀ x, x.asList = xs.flatMap g → ∀ p, rest.wp Φ post (env ++ [x, .int xs.length]) (setB B l p)) :
    (VC.loop id l 2 fs [e0, .int 0] (.ite (.op (.bin .lss .i64) [.var n, L]) body rest)).wp Φ post env B := by
  refine loop2'_wp hn hL hN (fun i x => x.asList = (xs.take i).flatMap g) (by simp [h0]) (fun i x hi _ hx => ?_) fun x _ hx p => hr x (by rw [hx, List.take_of_length_le (Nat.le_refl _)]) p
  refine VC.wp_mono2 (fun _ h => h) _ _ _ _ (fun j v h => ?_) (hb i x hi hx)
  by_cases e : j = l
  · subst e
    simp only [setB_eq] at h ⊢
    obtain ⟨y, rfl, h1⟩ := h
    exact ⟨y, rfl, by rw [fm_take hi, ← hx]; exact h1⟩
  · rw [setB_ne e] at h ⊢; exact h

end

end Go.Vx


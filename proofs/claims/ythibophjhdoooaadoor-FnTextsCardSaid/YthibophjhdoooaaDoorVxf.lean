/-
  A program logic of our own, parts 44 to 47.
-/
import Derived.Test.YthibophjhdoooaaDoorVxd
import Derived.Lib.Join
import Derived.Lib.ItoaNum
import Derived.Lib.ItoaLen
import Derived.Lib.LaidTab
import Derived.Sort.Grow
import Derived.Shelf.Vars
import Derived.MakeChecks
import Derived.LaidMore
import Derived.OpenShut
import Derived.Stop.Joined
import Derived.Shelf.Strings.Split
import Derived.Lib.IndexMore
set_option linter.unusedVariables false
set_option linter.unusedSimpArgs false
/-
  Vx, part 44: the library's texts: numbers in words, and texts joined.
-/
namespace Go.Vx
open Go.RowKit (Below)

theorem ba_ext {x y : ByteArray} (h : x.data.toList = y.data.toList) : x = y := by
  obtain ⟨⟨x⟩⟩ := x
  obtain ⟨⟨y⟩⟩ := y
  simp only at h
  rw [h]
theorem ba_app (x y : ByteArray) : (x ++ y).data.toList = x.data.toList ++ y.data.toList := by simp

/-! A number in words. -/
noncomputable def itoaB (n : Int) : ByteArray := ⟨(Lib.itoa n).toArray⟩
theorem itoaB_size {n : Int} (h : inR .i64 n) : (itoaB n).size ≤ 21 := by
  have := Lib.itoa_length_le n h.1 h.2
  simpa [itoaB, ByteArray.size] using this
noncomputable def mItoa : Nat → List D → D := con (fun _ => True) fun _ ds => .str (itoaB (cell ds 0).asInt)

theorem itoa_good {P : Program} {Φ : Fns} {f : Nat} {fn : Func} (hf : P.funcs[f]? = some fn) (hb : fn.body ≠ none) (hn : fn.name ≠ "runtime.NumGoroutine") (hΦ : Φ f = mItoa) {g : Nat} (hg : P.globalNamed "internal/strconv.uint64pow10" = some g)
    (h : ∀ (n : Int) (w : World), -9223372036854775808 ≤ n → n ≤ 9223372036854775807 → Lib.TabIs P w "internal/strconv.uint64pow10" .u64 Lib.pow10Tab →
      Calls P f #[.int .i64 n] w fun e w' => e = .returned (.string ⟨(Lib.itoa n).toArray⟩) ∧ ∃ k os, w' = Go.Sort.grow (w.drewN k) os) :
    Good1 P Φ (told f [.one (.int .i64)] [.one (.im (.str))]) := by
  refine ⟨fun _ => ?_, fun l e => (by cases e), fn, hf, hb, hn⟩
  intro w M vs ds hM hG hA hp
  obtain ⟨v, vs', d, ds', rfl, rfl, ⟨rfl, hr⟩, rfl, rfl⟩ := hA
  have htab : Lib.TabIs P w "internal/strconv.uint64pow10" .u64 Lib.pow10Tab := by
    obtain ⟨t, r, e⟩ := hG.1 g hg
    unfold Lib.TabIs World.var?
    rw [hg]
    simp only [Option.bind_some, e]
    rfl
  refine (h d.asInt w hr.1 hr.2 htab).mono fun e w' ⟨he, k, os, hw⟩ => ?_
  subst hw
  have hs := itoaB_size (n := d.asInt) hr
  refine ⟨[.string (itoaB d.asInt)], [], he, ⟨rfl, rfl, rfl, by simp [Go.Sort.grow, World.drewN], fun k hk => by simp [Go.Sort.grow, World.drewN, Array.getElem?_append, hk]⟩, ⟨_, _, rfl, ⟨?_, ?_⟩, rfl, rfl⟩, by simp, by simp⟩
  · rw [show (told f [.one (.int .i64)] [.one (.im (.str))]).f = f from rfl, hΦ]; rfl
  · rw [show (told f [.one (.int .i64)] [.one (.im (.str))]).f = f from rfl, hΦ]
    show (itoaB d.asInt).size ≤ lenMax
    simp [lenMax]
    omega

/-! Texts joined. -/
def lby (s : ByteArray) : List UInt8 := s.data.toList
noncomputable def joinB (xs : List ByteArray) (sep : ByteArray) : ByteArray := ⟨(Lib.join (xs.map lby) (lby sep)).toArray⟩
def strs (xs : List (List D)) : List ByteArray := xs.map fun r => (cell r 0).asStr
noncomputable def mJoin : Nat → List D → D := con (fun ds => (joinB (strs (cell ds 0).asList) (cell ds 1).asStr).size ≤ lenMax) fun _ ds => .str (joinB (strs (cell ds 0).asList) (cell ds 1).asStr)

theorem joinB_nil (sep : ByteArray) : joinB [] sep = ⟨#[]⟩ := rfl
theorem joinB_one (x sep : ByteArray) : joinB [x] sep = x := by
  refine ba_ext ?_
  simp [joinB, Lib.join_one, lby]
theorem joinB_more {x : ByteArray} {xs : List ByteArray} (y sep : ByteArray) : joinB (x :: xs ++ [y]) sep = joinB (x :: xs) sep ++ sep ++ y := by
  refine ba_ext ?_
  simp [joinB, Lib.join_cons, lby, Lib.joinTail]

theorem join_good {P : Program} {Φ : Fns} {f : Nat} {fn : Func} (hf : P.funcs[f]? = some fn) (hb : fn.body ≠ none) (hn : fn.name ≠ "runtime.NumGoroutine") (hΦ : Φ f = mJoin) {t : TypeId}
    (h0 : ∀ (a : Option Addr) (c : Nat) (sep : ByteArray) (w : World), Calls P f #[.slice a 0 c, .string sep] w fun e w' => e = .returned (.string ⟨#[]⟩) ∧ w' = w)
    (h : ∀ (bk o c : Nat) (xs : List ByteArray) (sep : ByteArray) (w : World), (∀ (j : Nat) x, xs[j]? = some x → w.cell? ⟨bk, o + j, none⟩ = some (.string x)) → bk < w.heap.size → xs.length ≤ 140737488355328 → xs.length ≤ c →
      (Lib.join (xs.map (·.data.toList)) sep.data.toList).length ≤ 140737488355328 →
      Calls P f #[.slice (some ⟨bk, o, none⟩) xs.length c, .string sep] w fun e w' => e = .returned (.string ⟨(Lib.join (xs.map (·.data.toList)) sep.data.toList).toArray⟩) ∧ Below w.heap.size w w') :
    Good1 P Φ (told f [.one (.sl t [.str]), .one (.str)] [.one (.im (.str))]) := by
  refine ⟨fun _ => ?_, fun l e => (by cases e), fn, hf, hb, hn⟩
  intro w M vs ds hM hG hA hp
  obtain ⟨v, vs1, d, ds1, rfl, rfl, ⟨a, cap, rfl, hcap, hmax, hd⟩, v', vs2, d', ds2, rfl, rfl, ⟨rfl, hs'⟩, rfl, rfl⟩ := hA
  have hp' : (joinB (strs d.asList) d'.asStr).size ≤ lenMax := by
    rw [show (told f [.one (.sl t [.str]), .one (.str)] [.one (.im (.str))]).f = f from rfl, hΦ] at hp
    simpa [mJoin] using hp
  have key : Calls P f #[.slice a d.asList.length cap, .string d'.asStr] w fun e w' => e = .returned (.string (joinB (strs d.asList) d'.asStr)) ∧ Below w.heap.size w w' := by
    rcases hd with hd | ⟨b, off, rfl, hd⟩
    · rw [hd]
      exact (h0 a cap d'.asStr w).mono fun e w' ⟨he, hw⟩ => ⟨he, hw ▸ Below.refl _ _⟩
    · by_cases he : d.asList = []
      · rw [he]
        exact (h0 _ cap d'.asStr w).mono fun e w' ⟨he, hw⟩ => ⟨he, hw ▸ Below.refl _ _⟩
      have hc : ∀ (j : Nat) x, (strs d.asList)[j]? = some x → w.cell? ⟨b, off + j, none⟩ = some (.string x) := by
        intro j x hx
        simp only [strs, List.getElem?_map, Option.map_eq_some_iff] at hx
        obtain ⟨row, hrow, rfl⟩ := hx
        obtain ⟨vs, h1, -, v, vs', rfl, ⟨rfl, -⟩, rfl⟩ := hd j row hrow
        have := h1.1
        rw [headD_cell] at this
        simpa using this
      have hbk : b < w.heap.size := by
        obtain ⟨r, l, hl⟩ := List.exists_cons_of_ne_nil he
        have := hc 0 (cell r 0).asStr (by simp [strs, hl])
        exact cell_lt this
      have hl : (strs d.asList).length = d.asList.length := by simp [strs]
      have := h b off cap (strs d.asList) d'.asStr w hc hbk (by rw [hl]; exact hmax) (by rw [hl]; exact hcap) (by have e := hp'; simp [joinB, ByteArray.size, lenMax] at e; exact e)
      rw [hl] at this
      exact this.mono fun e w' hh => hh
  refine key.mono fun e w' ⟨he, hw⟩ => ?_
  refine ⟨[.string (joinB (strs d.asList) d'.asStr)], [], he, hw, ⟨_, _, rfl, ⟨?_, ?_⟩, rfl, rfl⟩, by simp, by simp⟩
  · rw [show (told f [.one (.sl t [.str]), .one (.str)] [.one (.im (.str))]).f = f from rfl, hΦ]; rfl
  · rw [show (told f [.one (.sl t [.str]), .one (.str)] [.one (.im (.str))]).f = f from rfl, hΦ]
    exact hp'
end Go.Vx

/-
  Vx, part 45: the lifting, where tables of the library are listed.
-/
namespace Go.Vx
open Go.RowKit (Below)
open Go.Proofs Go.ChangeShapes Go.WideShapes Go.ChangeAt

theorem laidVars_mem {P : Program} {w : World} {n : String} {d : DataW Unit} : ∀ {l : List (String × DataW Unit)} {ps : List MemPlace}, DataW.LaidVars P w l ps → (n, d) ∈ l →
    ∃ g t cs fuel p, P.globalNamed n = some g ∧ (P.globals[g]?).map (·.type) = some t ∧ w.var? P n = some cs ∧ DataW.trod (fun _ => ()) P w 0 (fun _ => true) false fuel t cs.toList = some (d, p)
  | [], _, _, h => by cases h
  | (m, e) :: l, ps, ⟨g, t, cs, fuel, p, q, h1, h2, h3, h4, h5, _⟩, h => by
    rcases List.mem_cons.1 h with h | h
    · cases h
      exact ⟨g, t, cs, fuel, p, h1, h2, h3, h4⟩
    · exact laidVars_mem h5 h

theorem glob_laid {P : Program} {W : World} {laid : List (String × DataW Unit)} (hL : laidMetH P laid W) (hp : (laid.all fun x => x.2.handleName?.isNone) = true)
    (hmem : ("internal/strconv.uint64pow10", (Lib.tabData .u64 pow10s : DataW Unit)) ∈ laid) {g0 : Nat} {t0 e0 : TypeId} {n0 : Nat} (hg : P.globalNamed "internal/strconv.uint64pow10" = some g0) (hty : (P.globals[g0]?).map (·.type) = some t0)
    (ht : P.underlying t0 = some (.array n0 e0)) (he : P.underlying e0 = some (.int .u64)) (hce : P.cellsOf e0 = 1) (hct : P.cellsOf t0 = n0)
    (hM : ∀ g, P.globalNamed "internal/bytealg.MaxLen" = some g → ∃ m, W.cell? ⟨g, 0, none⟩ = some (.int .i64 m)) : glob P W := by
  rw [MakeChecks.laidMetH_plain _ _ _ hp] at hL
  obtain ⟨ps, hv, _⟩ := hL
  obtain ⟨g, t, cs, fuel, p, h1, h2, h3, h4⟩ := laidVars_mem hv hmem
  obtain rfl := Option.some.inj (hg.symm.trans h1)
  obtain rfl := Option.some.inj (hty.symm.trans h2)
  have hc := Lib.cells_of_tab ht he hce hct h4
  refine ⟨fun g hg' => ?_, fun g hg' => ?_⟩
  · obtain rfl := Option.some.inj (hg.symm.trans hg')
    unfold World.var? at h3
    rw [hg, Option.bind_some] at h3
    split at h3
    · rename_i cs' ty r hh
      simp only [Option.some.injEq] at h3
      subst h3
      refine ⟨ty, r, ?_⟩
      rw [hh]
      have : cs' = (pow10s.map fun z => Value.int .u64 z).toArray := by rw [← hc]
      rw [this]
    · cases h3
  · obtain ⟨m, hm⟩ := hM g hg'
    unfold World.cell? at hm
    cases hh : W.heap[g]? with
    | none => rw [hh] at hm; simp at hm
    | some o =>
      rw [hh] at hm
      cases o with
      | cells cs ty r =>
        obtain ⟨l⟩ := cs
        cases l with
        | nil => simp at hm
        | cons v l =>
          simp at hm
          subst hm
          exact ⟨m, l, ty, r, rfl⟩
      | _ => simp at hm

theorem returns_laid {H : Type} {enc : TypeId × Value → H} {a : Assume} {C : Checked} {os : Os} {f : FuncId} {fn : Func} {s : ChangeSpec} {conds : List PathCond} {apart fresh handsOn again : Bool} {laid : List (String × DataW Unit)}
    (own : ownKnob C.prog.godebug = none) (started : os.Started) (noInit : C.prog.inits.idxOf? f = none) (hfn : C.prog.funcs[f]? = some fn)
    (witness : ∃ (w : World) (tape : Tape) (i : Input), w.os = os ∧ (w.forCall tape i).Shaped C.prog ∧ i.vars = [] ∧ Input.okWide C.prog (w.forCall tape i) .any w.heap.size f i ∧
      ((s.pre enc C.prog fn conds apart (w.forCall tape i).memory i.args ∧ laidMetH C.prog laid (w.forCall tape i).memory) ∧ sizedMet enc C.prog fn (OpenSpec.ofChange s) apart (w.forCall tape i).memory i.args) ∧ a.holds C.prog (lone (Frame.enter C.prog f i.args .normal) [] (w.forCall tape i)))
    (contract : ∀ (W : World) (base : Nat) (args : Array Value) (ds gs : List (DataW H)) (before : List MemPlace),
      (∀ (j : Nat) t v, fn.params[j]? = some t → args[j]? = some v → Value.okWide C.prog W .any base t v) →
      DataW.Whole enc C.prog fn.params.toList s.vars apart W args.toList ds gs before →
      (DataW.weightsEach C.prog (fn.params.toList ++ s.plain.varTypes C.prog) (ds ++ gs)).all (· ≤ reachBytes) = true → laidMetH C.prog laid W → W.ShapedOpen C.prog →
      Calls C.prog f args W fun e W' => ∃ v, e = .returned v ∧ s.post enc C.prog fn apart fresh handsOn again W args v W') :
    ReturnsInHanded a C os f .any (fun w args => (s.pre enc C.prog fn conds apart w args ∧ laidMetH C.prog laid w) ∧ sizedMet enc C.prog fn (OpenSpec.ofChange s) apart w args) (s.post enc C.prog fn apart fresh handsOn again) := by
  refine returnsInHanded_of_calls own started noInit witness ?_
  intro w tape i _ hsh _ hok hpre hholds
  obtain ⟨_, _, _, fn', hfn', _, _, _, _, hval⟩ := hok
  have e : fn' = fn := Option.some.inj (hfn'.symm.trans hfn)
  subst e
  obtain ⟨⟨⟨ds, gs, before, hw, hc⟩, hx⟩, hz⟩ := hpre
  have hw' := DataW.Whole.of_heap (w' := w.forCall tape i) (by rfl) hw
  refine (contract (w.forCall tape i) w.heap.size i.args ds gs before hval hw' (hz.weights hw) (laidMetH.of_heap (by rfl) hx) hsh).mono fun e W' ⟨v, he, hp⟩ => ?_
  subst he
  exact ChangeSpec.post_blind hp
end Go.Vx

/-
  Vx, part 46: texts cut by the library.
-/
namespace Go.Vx
open Go.RowKit (Below)
open Go.Proofs

theorem glob.maxLen {P : Program} {w : World} (h : glob P w) {g : Nat} (hg : P.globalNamed "internal/bytealg.MaxLen" = some g) : ∃ m, w.cell? ⟨g, 0, none⟩ = some (.int .i64 m) := by
  obtain ⟨m, cs, t, r, e⟩ := h.2 g hg
  exact ⟨m, by simp [World.cell?, e]⟩

end Go.Vx

/-
  Vx, part 47: texts trimmed and cut in two by the library.
-/
namespace Go.Vx
open Go.RowKit (Below)
open Go.Proofs

def trimP (s p : ByteArray) : ByteArray := ⟨(Lib.trimPrefix (lby s) (lby p)).toArray⟩
def trimS (s p : ByteArray) : ByteArray := ⟨(Lib.trimSuffix (lby s) (lby p)).toArray⟩
def cutA (s p : ByteArray) : ByteArray := ⟨(Lib.cut (lby s) (lby p)).1.toArray⟩
def cutB (s p : ByteArray) : ByteArray := ⟨(Lib.cut (lby s) (lby p)).2.1.toArray⟩
def cutO (s p : ByteArray) : Bool := (Lib.cut (lby s) (lby p)).2.2
theorem lby_size (s : ByteArray) : (lby s).length = s.size := rfl
theorem trimP_size (s p : ByteArray) : (trimP s p).size ≤ s.size := by
  show (Lib.trimPrefix (lby s) (lby p)).length ≤ _
  unfold Lib.trimPrefix
  split
  · rw [List.length_drop, lby_size]; omega
  · rw [lby_size]; omega
theorem trimS_size (s p : ByteArray) : (trimS s p).size ≤ s.size := by
  show (Lib.trimSuffix (lby s) (lby p)).length ≤ _
  unfold Lib.trimSuffix
  split
  · rw [List.length_take, lby_size]; omega
  · rw [lby_size]; omega
theorem cutA_size (s p : ByteArray) : (cutA s p).size ≤ s.size := by
  show (Lib.cut (lby s) (lby p)).1.length ≤ _
  unfold Lib.cut
  split
  · rw [List.length_take, lby_size]; omega
  · rw [lby_size]; omega
theorem cutB_size (s p : ByteArray) : (cutB s p).size ≤ s.size := by
  show (Lib.cut (lby s) (lby p)).2.1.length ≤ _
  unfold Lib.cut
  split
  · rw [List.length_drop, lby_size]; omega
  · simp

noncomputable def mTrimP : Nat → List D → D := con (fun _ => True) fun _ ds => .str (trimP (cell ds 0).asStr (cell ds 1).asStr)
noncomputable def mTrimS : Nat → List D → D := con (fun _ => True) fun _ ds => .str (trimS (cell ds 0).asStr (cell ds 1).asStr)
noncomputable def mCutP : Nat → List D → D := con (fun _ => True) fun c ds => if c = 0 then .str (trimP (cell ds 0).asStr (cell ds 1).asStr) else .bool (Lib.hasPrefix (lby (cell ds 0).asStr) (lby (cell ds 1).asStr))
noncomputable def mCut : Nat → List D → D := con (fun ds => (cell ds 0).asStr.size < 4294967281) fun c ds => if c = 0 then .str (cutA (cell ds 0).asStr (cell ds 1).asStr) else if c = 1 then .str (cutB (cell ds 0).asStr (cell ds 1).asStr) else .bool (cutO (cell ds 0).asStr (cell ds 1).asStr)

theorem trimP_good {P : Program} {Φ : Fns} {f : Nat} {fn : Func} (hf : P.funcs[f]? = some fn) (hb : fn.body ≠ none) (hn : fn.name ≠ "runtime.NumGoroutine") (hΦ : Φ f = mTrimP)
    (h : ∀ (s p : ByteArray) (w : World), Calls P f #[.string s, .string p] w fun e w' => e = .returned (.string ⟨(Lib.trimPrefix s.data.toList p.data.toList).toArray⟩) ∧ w' = w) :
    Good1 P Φ (told f [.one (.str), .one (.str)] [.one (.im (.str))]) := by
  refine ⟨fun _ => ?_, fun l e => (by cases e), fn, hf, hb, hn⟩
  intro w M vs ds hM hG hA hp
  obtain ⟨v, vs1, d, ds1, rfl, rfl, ⟨rfl, hs⟩, v', vs2, d', ds2, rfl, rfl, ⟨rfl, hs'⟩, rfl, rfl⟩ := hA
  rw [show (told f [.one (.str), .one (.str)] [.one (.im (.str))]).f = f from rfl, hΦ]
  refine (h d.asStr d'.asStr w).mono fun e w' ⟨he, hw⟩ => ?_
  subst hw
  exact ⟨[.string (trimP d.asStr d'.asStr)], [], he, Below.refl _ _, ⟨_, _, rfl, ⟨rfl, Nat.le_trans (trimP_size _ _) hs⟩, rfl, rfl⟩, by simp, by simp⟩
theorem trimS_good {P : Program} {Φ : Fns} {f : Nat} {fn : Func} (hf : P.funcs[f]? = some fn) (hb : fn.body ≠ none) (hn : fn.name ≠ "runtime.NumGoroutine") (hΦ : Φ f = mTrimS)
    (h : ∀ (s p : ByteArray) (w : World), s.size ≤ 9223372036854775807 → Calls P f #[.string s, .string p] w fun e w' => e = .returned (.string ⟨(Lib.trimSuffix s.data.toList p.data.toList).toArray⟩) ∧ w' = w) :
    Good1 P Φ (told f [.one (.str), .one (.str)] [.one (.im (.str))]) := by
  refine ⟨fun _ => ?_, fun l e => (by cases e), fn, hf, hb, hn⟩
  intro w M vs ds hM hG hA hp
  obtain ⟨v, vs1, d, ds1, rfl, rfl, ⟨rfl, hs⟩, v', vs2, d', ds2, rfl, rfl, ⟨rfl, hs'⟩, rfl, rfl⟩ := hA
  rw [show (told f [.one (.str), .one (.str)] [.one (.im (.str))]).f = f from rfl, hΦ]
  refine (h d.asStr d'.asStr w (by simp [lenMax] at hs; omega)).mono fun e w' ⟨he, hw⟩ => ?_
  subst hw
  exact ⟨[.string (trimS d.asStr d'.asStr)], [], he, Below.refl _ _, ⟨_, _, rfl, ⟨rfl, Nat.le_trans (trimS_size _ _) hs⟩, rfl, rfl⟩, by simp, by simp⟩
theorem cutP_good {P : Program} {Φ : Fns} {f : Nat} {fn : Func} (hf : P.funcs[f]? = some fn) (hb : fn.body ≠ none) (hn : fn.name ≠ "runtime.NumGoroutine") (hΦ : Φ f = mCutP)
    (h : ∀ (s p : ByteArray) (w : World), Calls P f #[.string s, .string p] w fun e w' => e = .returned (.tuple #[.string ⟨(Lib.trimPrefix s.data.toList p.data.toList).toArray⟩, .bool (Lib.hasPrefix s.data.toList p.data.toList)]) ∧ w' = w) :
    Good1 P Φ (told f [.one (.str), .one (.str)] [.one (.im (.str)), .one (.im (.bool))]) := by
  refine ⟨fun _ => ?_, fun l e => (by cases e), fn, hf, hb, hn⟩
  intro w M vs ds hM hG hA hp
  obtain ⟨v, vs1, d, ds1, rfl, rfl, ⟨rfl, hs⟩, v', vs2, d', ds2, rfl, rfl, ⟨rfl, hs'⟩, rfl, rfl⟩ := hA
  rw [show (told f [.one (.str), .one (.str)] [.one (.im (.str)), .one (.im (.bool))]).f = f from rfl, hΦ]
  refine (h d.asStr d'.asStr w).mono fun e w' ⟨he, hw⟩ => ?_
  subst hw
  exact ⟨[.string (trimP d.asStr d'.asStr), .bool (Lib.hasPrefix (lby d.asStr) (lby d'.asStr))], [], he, Below.refl _ _, ⟨_, _, rfl, ⟨rfl, Nat.le_trans (trimP_size _ _) hs⟩, _, _, rfl, rfl, rfl, rfl⟩, by simp, by simp⟩
theorem cut_good {P : Program} {Φ : Fns} {f : Nat} {fn : Func} (hf : P.funcs[f]? = some fn) (hb : fn.body ≠ none) (hn : fn.name ≠ "runtime.NumGoroutine") (hΦ : Φ f = mCut) {g : Nat} (hg : P.globalNamed "internal/bytealg.MaxLen" = some g)
    (h : ∀ (s p : ByteArray) (m : Int) (w : World), s.size < 4294967281 → w.cell? ⟨g, 0, none⟩ = some (.int .i64 m) → Calls P f #[.string s, .string p] w fun e w' =>
      e = .returned (.tuple #[.string ⟨(Lib.cut s.data.toList p.data.toList).1.toArray⟩, .string ⟨(Lib.cut s.data.toList p.data.toList).2.1.toArray⟩, .bool (Lib.cut s.data.toList p.data.toList).2.2]) ∧ ∃ n, w' = w.drewN n) :
    Good1 P Φ (told f [.one (.str), .one (.str)] [.one (.im (.str)), .one (.im (.str)), .one (.im (.bool))]) := by
  refine ⟨fun _ => ?_, fun l e => (by cases e), fn, hf, hb, hn⟩
  intro w M vs ds hM hG hA hp
  obtain ⟨v, vs1, d, ds1, rfl, rfl, ⟨rfl, hs⟩, v', vs2, d', ds2, rfl, rfl, ⟨rfl, hs'⟩, rfl, rfl⟩ := hA
  rw [show (told f [.one (.str), .one (.str)] [.one (.im (.str)), .one (.im (.str)), .one (.im (.bool))]).f = f from rfl, hΦ] at hp ⊢
  simp only [mCut, con_ok, cell_zero] at hp
  obtain ⟨m, hm⟩ := hG.maxLen hg
  refine (h d.asStr d'.asStr m w hp hm).mono fun e w' ⟨he, n, hw⟩ => ?_
  subst hw
  exact ⟨[.string (cutA d.asStr d'.asStr), .string (cutB d.asStr d'.asStr), .bool (cutO d.asStr d'.asStr)], [], he, ⟨rfl, rfl, rfl, Nat.le_refl _, fun _ _ => rfl⟩,
    ⟨_, _, rfl, ⟨rfl, Nat.le_trans (cutA_size _ _) hs⟩, _, _, rfl, ⟨rfl, Nat.le_trans (cutB_size _ _) hs⟩, _, _, rfl, rfl, rfl, rfl⟩, by simp, by simp⟩
end Go.Vx


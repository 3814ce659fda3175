/-
  A program logic of our own, parts 44 to 47.
-/
import Derived.Test.YthibophjhdoooaaGreatDoorVxd
import Derived.Lib.Join
import Derived.Lib.ItoaNum
import Derived.Lib.ItoaLen
import Derived.Lib.LaidTab
import Derived.Sort.Grow
import Derived.Shelf.Vars
import Derived.MakeChecks
import Derived.LaidMore
import Derived.OpenShut
import Derived.Stop.Joined
import Derived.Shelf.Strings.Split
import Derived.Lib.IndexMore
set_option linter.unusedVariables false
set_option linter.unusedSimpArgs false
/-
  Vx, part 44: the library's texts: numbers in words, and texts joined.
-/
namespace Go.Vx
open Go.RowKit (Below)

theorem ba_ext {x y : ByteArray} (h : x.data.toList = y.data.toList) : x = y := by
  obtain ⟨⟨x⟩⟩ := x
  obtain ⟨⟨y⟩⟩ := y
  simp only at h
  rw [h]
theorem ba_app (x y : ByteArray) : (x ++ y).data.toList = x.data.toList ++ y.data.toList := by simp

/-! A number in words. -/
noncomputable def itoaB (n : Int) : ByteArray := ⟨(Lib.itoa n).toArray⟩
theorem itoaB_size {n : Int} (h : inR .i64 n) : (itoaB n).size ≤ 21 := by
  have := Lib.itoa_length_le n h.1 h.2
  simpa [itoaB, ByteArray.size] using this
noncomputable def mItoa : Nat → List D → D := con (fun _ => True) fun _ ds => .str (itoaB (cell ds 0).asInt)

theorem itoa_good {P : Program} {Φ : Fns} {f : Nat} {fn : Func} (hf : P.funcs[f]? = some fn) (hb : fn.body ≠ none) (hn : fn.name ≠ "runtime.NumGoroutine") (hΦ : Φ f = mItoa) {g : Nat} (hg : P.globalNamed "internal/strconv.uint64pow10" = some g)
    (h : ∀ (n : Int) (w : World), -9223372036854775808 ≤ n → n ≤ 9223372036854775807 → Lib.TabIs P w "internal/strconv.uint64pow10" .u64 Lib.pow10Tab →
      Calls P f #[.int .i64 n] w fun e w' => e = .returned (.string ⟨(Lib.itoa n).toArray⟩) ∧ ∃ k os, w' = Go.Sort.grow (w.drewN k) os) :
    Good1 P Φ (told f [.one (.int .i64)] [.one (.im (.str))]) := by
  refine ⟨fun _ => ?_, fun l e => (by cases e), fn, hf, hb, hn⟩
  intro w M vs ds hM hG hA hp
  obtain ⟨v, vs', d, ds', rfl, rfl, ⟨rfl, hr⟩, rfl, rfl⟩ := hA
  have htab : Lib.TabIs P w "internal/strconv.uint64pow10" .u64 Lib.pow10Tab := by
    obtain ⟨t, r, e⟩ := hG.1 g hg
    unfold Lib.TabIs World.var?
    rw [hg]
    simp only [Option.bind_some, e]
    rfl
  refine (h d.asInt w hr.1 hr.2 htab).mono fun e w' ⟨he, k, os, hw⟩ => ?_
  subst hw
  have hs := itoaB_size (n := d.asInt) hr
  refine ⟨[.string (itoaB d.asInt)], [], he, ⟨rfl, rfl, rfl, by simp [Go.Sort.grow, World.drewN], fun k hk => by simp [Go.Sort.grow, World.drewN, Array.getElem?_append, hk]⟩, ⟨_, _, rfl, ⟨?_, ?_⟩, rfl, rfl⟩, by simp, by simp⟩
  · rw [show (told f [.one (.int .i64)] [.one (.im (.str))]).f = f from rfl, hΦ]; rfl
  · rw [show (told f [.one (.int .i64)] [.one (.im (.str))]).f = f from rfl, hΦ]
    show (itoaB d.asInt).size ≤ lenMax
    simp [lenMax]
    omega

/-! Texts joined. -/
def lby (s : ByteArray) : List UInt8 := s.data.toList
noncomputable def joinB (xs : List ByteArray) (sep : ByteArray) : ByteArray := ⟨(Lib.join (xs.map lby) (lby sep)).toArray⟩
def strs (xs : List (List D)) : List ByteArray := xs.map fun r => (cell r 0).asStr
noncomputable def mJoin : Nat → List D → D := con (fun ds => (joinB (strs (cell ds 0).asList) (cell ds 1).asStr).size ≤ lenMax) fun _ ds => .str (joinB (strs (cell ds 0).asList) (cell ds 1).asStr)

theorem joinB_nil (sep : ByteArray) : joinB [] sep = ⟨#[]⟩ := rfl
theorem joinB_one (x sep : ByteArray) : joinB [x] sep = x := by
  refine ba_ext ?_
  simp [joinB, Lib.join_one, lby]
theorem joinB_more {x : ByteArray} {xs : List ByteArray} (y sep : ByteArray) : joinB (x :: xs ++ [y]) sep = joinB (x :: xs) sep ++ sep ++ y := by
  refine ba_ext ?_
  simp [joinB, Lib.join_cons, lby, Lib.joinTail]

theorem join_good {P : Program} {Φ : Fns} {f : Nat} {fn : Func} (hf : P.funcs[f]? = some fn) (hb : fn.body ≠ none) (hn : fn.name ≠ "runtime.NumGoroutine") (hΦ : Φ f = mJoin) {t : TypeId}
    (h0 : ∀ (a : Option Addr) (c : Nat) (sep : ByteArray) (w : World), Calls P f #[.slice a 0 c, .string sep] w fun e w' => e = .returned (.string ⟨#[]⟩) ∧ w' = w)
    (h : ∀ (bk o c : Nat) (xs : List ByteArray) (sep : ByteArray) (w : World), (∀ (j : Nat) x, xs[j]? = some x → w.cell? ⟨bk, o + j, none⟩ = some (.string x)) → bk < w.heap.size → xs.length ≤ 140737488355328 → xs.length ≤ c →
      (Lib.join (xs.map (·.data.toList)) sep.data.toList).length ≤ 140737488355328 →
      Calls P f #[.slice (some ⟨bk, o, none⟩) xs.length c, .string sep] w fun e w' => e = .returned (.string ⟨(Lib.join (xs.map (·.data.toList)) sep.data.toList).toArray⟩) ∧ Below w.heap.size w w') :
    Good1 P Φ (told f [.one (.sl t [.str]), .one (.str)] [.one (.im (.str))]) := by
  refine ⟨fun _ => ?_, fun l e => (by cases e), fn, hf, hb, hn⟩
  intro w M vs ds hM hG hA hp
  obtain ⟨v, vs1, d, ds1, rfl, rfl, ⟨a, cap, rfl, hcap, hmax, hd⟩, v', vs2, d', ds2, rfl, rfl, ⟨rfl, hs'⟩, rfl, rfl⟩ := hA
  have hp' : (joinB (strs d.asList) d'.asStr).size ≤ lenMax := by
    rw [show (told f [.one (.sl t [.str]), .one (.str)] [.one (.im (.str))]).f = f from rfl, hΦ] at hp
    simpa [mJoin] using hp
  have key : Calls P f #[.slice a d.asList.length cap, .string d'.asStr] w fun e w' => e = .returned (.string (joinB (strs d.asList) d'.asStr)) ∧ Below w.heap.size w w' := by
    rcases hd with hd | ⟨b, off, rfl, hd⟩
    · rw [hd]
      exact (h0 a cap d'.asStr w).mono fun e w' ⟨he, hw⟩ => ⟨he, hw ▸ Below.refl _ _⟩
    · by_cases he : d.asList = []
      · rw [he]
        exact (h0 _ cap d'.asStr w).mono fun e w' ⟨he, hw⟩ => ⟨he, hw ▸ Below.refl _ _⟩
      have hc : ∀ (j : Nat) x, (strs d.asList)[j]? = some x → w.cell? ⟨b, off + j, none⟩ = some (.string x) := by
        intro j x hx
        simp only [strs, List.getElem?_map, Option.map_eq_some_iff] at hx
        obtain ⟨row, hrow, rfl⟩ := hx
        obtain ⟨vs, h1, -, v, vs', rfl, ⟨rfl, -⟩, rfl⟩ := hd j row hrow
        have := h1.1
        rw [headD_cell] at this
        simpa using this
      have hbk : b < w.heap.size := by
        obtain ⟨r, l, hl⟩ := List.exists_cons_of_ne_nil he
        have := hc 0 (cell r 0).asStr (by simp [strs, hl])
        exact cell_lt this
      have hl : (strs d.asList).length = d.asList.length := by simp [strs]
      have := h b off cap (strs d.asList) d'.asStr w hc hbk (by rw [hl]; exact hmax) (by rw [hl]; exact hcap) (by have e := hp'; simp [joinB, ByteArray.size, lenMax] at e; exact e)
      rw [hl] at this
      exact this.mono fun e w' hh => hh
  refine key.mono fun e w' ⟨he, hw⟩ => ?_
  refine ⟨[.string (joinB (strs d.asList) d'.asStr)], [], he, hw, ⟨_, _, rfl, ⟨?_, ?_⟩, rfl, rfl⟩, by simp, by simp⟩
  · rw [show (told f [.one (.sl t [.str]), .one (.str)] [.one (.im (.str))]).f = f from rfl, hΦ]; rfl
  · rw [show (told f [.one (.sl t [.str]), .one (.str)] [.one (.im (.str))]).f = f from rfl, hΦ]
    exact hp'
end Go.Vx

/-
  Vx, part 45: the lifting, where tables of the library are listed.
-/
namespace Go.Vx
open Go.RowKit (Below)
open Go.Proofs Go.ChangeShapes Go.WideShapes Go.ChangeAt

theorem laidVars_mem {P : Program} {w : World} {n : String} {d : DataW Unit} : ∀ {l : List (String × DataW Unit)} {ps : List MemPlace}, DataW.LaidVars P w l ps → (n, d) ∈ l →
    ∃ g t cs fuel p, P.globalNamed n = some g ∧ (P.globals[g]?).map (·.type) = some t ∧ w.var? P n = some cs ∧ DataW.trod (fun _ => ()) P w 0 (fun _ => true) false fuel t cs.toList = some (d, p)
  | [], _, _, h => by cases h
  | (m, e) :: l, ps, ⟨g, t, cs, fuel, p, q, h1, h2, h3, h4, h5, _⟩, h => by
    rcases List.mem_cons.1 h with h | h
    · cases h
      exact ⟨g, t, cs, fuel, p, h1, h2, h3, h4⟩
    · exact laidVars_mem h5 h

theorem glob_laid {P : Program} {W : World} {laid : List (String × DataW Unit)} (hL : laidMetH P laid W) (hp : (laid.all fun x => x.2.handleName?.isNone) = true)
    (hmem : ("internal/strconv.uint64pow10", (Lib.tabData .u64 pow10s : DataW Unit)) ∈ laid) {g0 : Nat} {t0 e0 : TypeId} {n0 : Nat} (hg : P.globalNamed "internal/strconv.uint64pow10" = some g0) (hty : (P.globals[g0]?).map (·.type) = some t0)
    (ht : P.underlying t0 = some (.array n0 e0)) (he : P.underlying e0 = some (.int .u64)) (hce : P.cellsOf e0 = 1) (hct : P.cellsOf t0 = n0)
    (hM : ∀ g, P.globalNamed "internal/bytealg.MaxLen" = some g → ∃ m, W.cell? ⟨g, 0, none⟩ = some (.int .i64 m)) : glob P W := by
  rw [MakeChecks.laidMetH_plain _ _ _ hp] at hL
  obtain ⟨ps, hv, _⟩ := hL
  obtain ⟨g, t, cs, fuel, p, h1, h2, h3, h4⟩ := laidVars_mem hv hmem
  obtain rfl := Option.some.inj (hg.symm.trans h1)
  obtain rfl := Option.some.inj (hty.symm.trans h2)
  have hc := Lib.cells_of_tab ht he hce hct h4
  refine ⟨fun g hg' => ?_, fun g hg' => ?_⟩
  · obtain rfl := Option.some.inj (hg.symm.trans hg')
    unfold World.var? at h3
    rw [hg, Option.bind_some] at h3
    split at h3
    · rename_i cs' ty r hh
      simp only [Option.some.injEq] at h3
      subst h3
      refine ⟨ty, r, ?_⟩
      rw [hh]
      have : cs' = (pow10s.map fun z => Value.int .u64 z).toArray := by rw [← hc]
      rw [this]
    · cases h3
  · obtain ⟨m, hm⟩ := hM g hg'
    unfold World.cell? at hm
    cases hh : W.heap[g]? with
    | none => rw [hh] at hm; simp at hm
    | some o =>
      rw [hh] at hm
      cases o with
      | cells cs ty r =>
        obtain ⟨l⟩ := cs
        cases l with
        | nil => simp at hm
        | cons v l =>
          simp at hm
          subst hm
          exact ⟨m, l, ty, r, rfl⟩
      | _ => simp at hm

theorem returns_laid {H : Type} {enc : TypeId × Value → H} {a : Assume} {C : Checked} {os : Os} {f : FuncId} {fn : Func} {s : ChangeSpec} {conds : List PathCond} {apart fresh handsOn again : Bool} {laid : List (String × DataW Unit)}
    (own : ownKnob C.prog.godebug = none) (started : os.Started) (noInit : C.prog.inits.idxOf? f = none) (hfn : C.prog.funcs[f]? = some fn)
    (witness : ∃ (w : World) (tape : Tape) (i : Input), w.os = os ∧ (w.forCall tape i).Shaped C.prog ∧ i.vars = [] ∧ Input.okWide C.prog (w.forCall tape i) .any w.heap.size f i ∧
      ((s.pre enc C.prog fn conds apart (w.forCall tape i).memory i.args ∧ laidMetH C.prog laid (w.forCall tape i).memory) ∧ sizedMet enc C.prog fn (OpenSpec.ofChange s) apart (w.forCall tape i).memory i.args) ∧ a.holds C.prog (lone (Frame.enter C.prog f i.args .normal) [] (w.forCall tape i)))
    (contract : ∀ (W : World) (base : Nat) (args : Array Value) (ds gs : List (DataW H)) (before : List MemPlace),
      (∀ (j : Nat) t v, fn.params[j]? = some t → args[j]? = some v → Value.okWide C.prog W .any base t v) →
      DataW.Whole enc C.prog fn.params.toList s.vars apart W args.toList ds gs before →
      (DataW.weightsEach C.prog (fn.params.toList ++ s.plain.varTypes C.prog) (ds ++ gs)).all (· ≤ reachBytes) = true → laidMetH C.prog laid W → W.ShapedOpen C.prog →
      Calls C.prog f args W fun e W' => ∃ v, e = .returned v ∧ s.post enc C.prog fn apart fresh handsOn again W args v W') :
    ReturnsInHanded a C os f .any (fun w args => (s.pre enc C.prog fn conds apart w args ∧ laidMetH C.prog laid w) ∧ sizedMet enc C.prog fn (OpenSpec.ofChange s) apart w args) (s.post enc C.prog fn apart fresh handsOn again) := by
  refine returnsInHanded_of_calls own started noInit witness ?_
  intro w tape i _ hsh _ hok hpre hholds
  obtain ⟨_, _, _, fn', hfn', _, _, _, _, hval⟩ := hok
  have e : fn' = fn := Option.some.inj (hfn'.symm.trans hfn)
  subst e
  obtain ⟨⟨⟨ds, gs, before, hw, hc⟩, hx⟩, hz⟩ := hpre
  have hw' := DataW.Whole.of_heap (w' := w.forCall tape i) (by rfl) hw
  refine (contract (w.forCall tape i) w.heap.size i.args ds gs before hval hw' (hz.weights hw) (laidMetH.of_heap (by rfl) hx) hsh).mono fun e W' ⟨v, he, hp⟩ => ?_
  subst he
  exact ChangeSpec.post_blind hp
end Go.Vx

/-
  Vx, part 46: texts cut by the library.
-/
namespace Go.Vx
open Go.RowKit (Below)
open Go.Proofs

theorem glob.maxLen {P : Program} {w : World} (h : glob P w) {g : Nat} (hg : P.globalNamed "internal/bytealg.MaxLen" = some g) : ∃ m, w.cell? ⟨g, 0, none⟩ = some (.int .i64 m) := by
  obtain ⟨m, cs, t, r, e⟩ := h.2 g hg
  exact ⟨m, by simp [World.cell?, e]⟩

def splitR (s sep : ByteArray) : List (List D) := (Lib.splitB sep 0 (Lib.countB s sep) s).map fun x => [.str x]
noncomputable def mSplit : Nat → List D → D := con (fun ds => (cell ds 0).asStr.size < 4294967281 ∧ 1 ≤ (cell ds 1).asStr.size ∧ ∀ x ∈ Lib.splitB (cell ds 1).asStr 0 (Lib.countB (cell ds 0).asStr (cell ds 1).asStr) (cell ds 0).asStr, x.size ≤ lenMax)
  fun _ ds => .sl (splitR (cell ds 0).asStr (cell ds 1).asStr)

theorem flat_one (l : List ByteArray) : (l.map fun x => [Value.string x]).flatten = l.map Value.string := by
  induction l with
  | nil => rfl
  | cons x l ih => simp [ih]
theorem flat_nil {α : Type} (l : List ByteArray) : (l.map fun _ => ([] : List α)).flatten = [] := by
  induction l with
  | nil => rfl
  | cons x l ih => simp

theorem split_good {P : Program} {Φ : Fns} {f : Nat} {fn : Func} (hf : P.funcs[f]? = some fn) (hb : fn.body ≠ none) (hn : fn.name ≠ "runtime.NumGoroutine") (hΦ : Φ f = mSplit) {g : Nat} (hg : P.globalNamed "internal/bytealg.MaxLen" = some g) {t : TypeId}
    (h : ∀ (s sep : ByteArray) (m : Int) (w : World), s.size < 4294967281 → w.cell? ⟨g, 0, none⟩ = some (.int .i64 m) → 1 ≤ sep.size →
      Calls P f #[.string s, .string sep] w fun e w' => e = .returned (.slice (some ⟨w.heap.size, 0, none⟩) (Lib.countB s sep + 1) (Lib.countB s sep + 1)) ∧ w' = w.alloc (.cells ((Lib.splitB sep 0 (Lib.countB s sep) s).map Value.string).toArray t (0, 0))) :
    Good1 P Φ (told f [.one (.str), .one (.str)] [.one (.own t [.str] true)]) := by
  refine ⟨fun _ => ?_, fun l e => (by cases e), fn, hf, hb, hn⟩
  intro w M vs ds hM hG hA hp
  obtain ⟨v, vs1, d, ds1, rfl, rfl, ⟨rfl, hs⟩, v', vs2, d', ds2, rfl, rfl, ⟨rfl, hs'⟩, rfl, rfl⟩ := hA
  obtain ⟨m, hm⟩ := hG.maxLen hg
  rw [show (told f [.one (.str), .one (.str)] [.one (.own t [.str] true)]).f = f from rfl, hΦ] at hp ⊢
  simp only [mSplit, con_ok, cell_zero, cell_succ] at hp
  obtain ⟨h1, h2, h3⟩ := hp
  refine (h d.asStr d'.asStr m w h1 hm h2).mono fun e w' ⟨he, hw⟩ => ?_
  have hle := Lib.countB_le d'.asStr h2 d.asStr.size d.asStr (Nat.le_refl _)
  have hlen := Lib.splitB_all d'.asStr h2 0 _ d.asStr rfl
  have hL : splitR d.asStr d'.asStr = (Lib.splitB d'.asStr 0 (Lib.countB d.asStr d'.asStr) d.asStr).map fun x => [D.str x] := rfl
  generalize Lib.splitB d'.asStr 0 (Lib.countB d.asStr d'.asStr) d.asStr = L at *
  have hz : (w.alloc (.cells (L.map Value.string).toArray t (0, 0))).heap[w.heap.size]? = some (.cells (L.map Value.string).toArray t (0, 0)) := heap_alloc_new w _
  subst hw
  refine ⟨[.slice (some ⟨w.heap.size, 0, none⟩) (Lib.countB d.asStr d'.asStr + 1) (Lib.countB d.asStr d'.asStr + 1)], [[w.heap.size]], he, (Below.refl _ _).alloc (Nat.le_refl _) _, ⟨_, _, [w.heap.size], [], rfl, rfl, ?_, rfl, rfl⟩, by simp, by simp⟩
  show OwnRep _ _ t [.str] true _ (splitR d.asStr d'.asStr) _
  rw [hL]
  refine ⟨L.map fun x => [Value.string x], L.map fun _ => [], ⟨by simp [flat_one], .inr ⟨w.heap.size, _, _, ?_, Nat.zero_le _, hz, Nat.le_refl _, ?_, ?_, ?_⟩⟩, ?_, by simp, by simp, by simp [Value.ownBlock, flat_nil], fun i row vs f' e1 e2 e3 => ?_⟩
  · rw [List.length_map, hlen]
  · simp [maxLen]; omega
  · simp [hlen]
  · rw [flat_one]; simp [List.take_of_length_le]
  · simp [lenMax, hlen]; omega
  · simp only [List.getElem?_map, Option.map_eq_some_iff] at e1 e2 e3
    obtain ⟨x, hx, rfl⟩ := e1
    obtain ⟨y, hy, rfl⟩ := e2
    obtain ⟨z, hz', rfl⟩ := e3
    rw [hx] at hy
    obtain rfl := Option.some.inj hy
    exact ⟨_, _, [], [], rfl, rfl, ⟨rfl, h3 x (List.mem_of_getElem? hx), rfl⟩, rfl, rfl⟩
end Go.Vx

/-
  Vx, part 47: texts trimmed and cut in two by the library.
-/
namespace Go.Vx
open Go.RowKit (Below)
open Go.Proofs

end Go.Vx


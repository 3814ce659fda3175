/-
  A text is bent: its contract.
-/
import Derived.Test.YthibophjhdoooaaDoorB2
set_option linter.unusedVariables false
set_option linter.unusedSimpArgs false
namespace Go.Proofs.YthibophjhdoooaaDoor
open Go.Vx Go.RowKit

/-- Nothing is turned but one block. -/
structure Same (blk : Nat) (w w' : World) : Prop where
  os : w'.os = w.os
  tape : w'.tape = w.tape
  output : w'.output = w.output
  size : w'.heap.size = w.heap.size
  block : ∀ k, k ≠ blk → w'.heap[k]? = w.heap[k]?
theorem Same.refl (blk : Nat) (w : World) : Same blk w w := ⟨rfl, rfl, rfl, rfl, fun _ _ => rfl⟩
theorem Same.trans {blk : Nat} {w w' w'' : World} (h : Same blk w w') (h' : Same blk w' w'') : Same blk w w'' := ⟨h'.os.trans h.os, h'.tape.trans h.tape, h'.output.trans h.output, h'.size.trans h.size, fun k hk => (h'.block k hk).trans (h.block k hk)⟩
theorem Same.set (w : World) (blk i : Nat) (v : Value) : Same blk w (w.setCell ⟨blk, i, none⟩ v) := ⟨rfl, rfl, rfl, by simp [World.setCell], fun k hk => Below.heap_setCell _ _ _ _ hk⟩
theorem Same.drew (blk : Nat) (w : World) : Same blk w w.drew := ⟨rfl, rfl, rfl, rfl, fun _ _ => rfl⟩
theorem Same.sets (blk : Nat) : ∀ (vs : List Value) (i : Nat) (w : World), Same blk w (w.setCells blk i vs)
  | [], _, w => .refl _ w
  | v :: vs, i, w => (Same.set w blk i v).trans (Same.sets blk vs (i + 1) _)
theorem Same.fr {w0 w w' : World} {blk : Nat} {X : List Nat} (h : Fr w0 X w) (hs : Same blk w w') (hb : w0.heap.size ≤ blk) : Fr w0 X w' :=
  ⟨hs.os.trans h.os, hs.tape.trans h.tape, hs.output.trans h.output, by rw [hs.size]; exact h.size, fun k hk hx => (hs.block k (by omega)).trans (h.block k hk hx)⟩
theorem Same.cur {w w' : World} {blk g : Nat} {M : Nat → Nat → Prop} {c : D} (h : CurAt w (fun b o => M b o ∨ b = blk) g c) (hs : Same blk w w') (hg : g ≠ blk) : CurAt w' M g c :=
  h.keeps (hs.block g hg) fun b o v hc hn => ⟨by rw [World.cell?_of_block (w := w) (hs.block b fun e => hn (.inl (.inr e)))]; exact hc, fun h' => hn (by rcases h' with h' | h'; exact .inl (.inl h'); exact .inr h')⟩

def bytesI (s : ByteArray) : List Int := s.data.toList.map fun b => (b.toNat : Int)
theorem bytesI_len (s : ByteArray) : (bytesI s).length = s.size := by
  unfold bytesI
  rw [List.length_map, Array.length_toList]
  rfl
abbrev L8 : D := .sl [[.int 34], [.int 61], [.int 44], [.int 32], [.int 97], [.int 123], [.int 125], [.int 200]]

section
variable (Ψ : Fns)
noncomputable def bI (c : D) (n : Nat) : Nat := (Ψ 34 0 [c, .int n]).asInt.toNat
noncomputable def bC1 (c : D) (n : Nat) : D := Ψ 34 2000 [c, .int n]
noncomputable def bendS (c : D) (s : ByteArray) : ByteArray :=
  bif tt (s.size = 0) then s else
  bif tt (bI Ψ (bC1 Ψ c s.size) 5 = 0) then strOfNums ((bytesI s).set (bI Ψ c s.size) ((Ψ 36 0 [bC1 Ψ (bC1 Ψ c s.size) 5, L8]).asInt % 256)) else
  bif tt (bI Ψ (bC1 Ψ c s.size) 5 = 1) then strOfNums ((bytesI s).take (bI Ψ c s.size) ++ (bytesI s).drop (bI Ψ c s.size + 1)) else strOfNums (bytesI s)
noncomputable def bendC (c : D) (s : ByteArray) : D :=
  bif tt (s.size = 0) then c else
  bif tt (bI Ψ (bC1 Ψ c s.size) 5 = 0) then Ψ 36 2000 [bC1 Ψ (bC1 Ψ c s.size) 5, L8] else bC1 Ψ (bC1 Ψ c s.size) 5
noncomputable def mBend (n : Nat) (ds : List D) : D :=
  if n = 1000 then .bool (tt (curOk (cell ds 0) ∧ (cell ds 1).asStr.size ≤ 1000)) else
  if n = 2000 then bendC Ψ (cell ds 0) (cell ds 1).asStr else .str (bendS Ψ (cell ds 0) (cell ds 1).asStr)
theorem mBend_0 (c d : D) : mBend Ψ 0 [c, d] = .str (bendS Ψ c d.asStr) := rfl
theorem mBend_1 (c d : D) : (mBend Ψ 1000 [c, d]).asBool = true ↔ curOk c ∧ d.asStr.size ≤ 1000 := by
  show tt (curOk c ∧ d.asStr.size ≤ 1000) = true ↔ _
  simp
theorem mBend_2 (c d : D) : mBend Ψ 2000 [c, d] = bendC Ψ c d.asStr := rfl
end

theorem nums_size (L : List Int) : (strOfNums L).size = L.length := by simp [strOfNums, ByteArray.size]

theorem bend_fin {φ : Nat → List D → D} {w w' : World} {M : Nat → Nat → Prop} {g : Nat} {u01 u02 u03 : Value} {c d : D} {v : Value} {r : ByteArray} (hg : w.heap[g]? = some (.cells (List.toArray [u01, u02, u03]) 60 (0, 0))) (hF : Fr w [g] w') (hc : CurAt w' M g (φ 2000 [c, d])) (hr : φ 0 [c, d] = .str r) (hz : r.size ≤ lenMax) :
    ∃ us Rs Bs Gs, Ending.returned (.string r) = .returned (mkRet [.one (.im .str)] us) ∧ Fr w [[g]].flatten w' ∧
      RetCs w' (MeH M (retHeads ([RSh.one (.im .str)].flatMap RSh.cells) us ++ bHD [.box 60 csC, .im (.one .str)] [.pointer (some ⟨g, 0, none⟩), v] Bs Gs)) ([RSh.one (.im .str)].flatMap RSh.cells) us (retDs (fun n => φ n [c, d]) 0 [.one (.im .str)]) Rs ∧
      BOuts w w' (MeH M (retHeads ([RSh.one (.im .str)].flatMap RSh.cells) us ++ bHD [.box 60 csC, .im (.one .str)] [.pointer (some ⟨g, 0, none⟩), v] Bs Gs)) 0 [.box 60 csC, .im (.one .str)] [.pointer (some ⟨g, 0, none⟩), v] (fun n => φ (2000 + n) [c, d]) Bs Gs ∧
      (Rs.flatten ++ bFp [.box 60 csC, .im (.one .str)] [.pointer (some ⟨g, 0, none⟩), v] Gs).Nodup ∧ ∀ b, b ∈ Rs.flatten ++ bFp [.box 60 csC, .im (.one .str)] [.pointer (some ⟨g, 0, none⟩), v] Gs → (w.heap.size ≤ b ∨ b ∈ [[g]].flatten) ∧ b < w'.heap.size := by
  obtain ⟨us2, k1, u1, _, rfl, q1, u2, _, rfl, q2, u3, _, rfl, q3, rfl⟩ := hc
  have hlt : g < w'.heap.size := (Array.getElem?_eq_some_iff.1 k1).1
  have hk := fun (w : World) => keepsM (w := w) (M := fun b' o => M b' o ∨ b' = g) (M' := MeH M (retHeads ([RSh.one (RC.im .str)].flatMap RSh.cells) [.string r] ++ bHD [.box 60 csC, .im (.one .str)] [.pointer (some ⟨g, 0, none⟩), v] [[u1, u2, u3]] [[]])) fun b o h => by
    rcases h with h | h
    · exact .inl h
    · have h : b ∈ ([] ++ [g] : List Nat) := h
      exact .inr (by simpa using h)
  refine ⟨[.string r], [], [[u1, u2, u3]], [[]], rfl, by simpa using hF, ⟨.string r, [], rfl, ?_, rfl, rfl⟩, ⟨g, [u01, u02, u03], [v], [u1, u2, u3], [], [], [], rfl, hg, rfl, rfl, k1, ?_, rfl, rfl⟩, by simp [bFp, blkOf], ?_⟩
  · have : (retDs (fun n => φ n [c, d]) 0 [RSh.one (.im .str)]).headD default = .str r := hr
    rw [this]
    exact ⟨rfl, hz⟩
  · exact ⟨u01, _, u1, _, rfl, rfl, q1.keeps (hk _), u02, _, u2, _, rfl, rfl, q2.keeps (hk _), u03, _, u3, _, rfl, rfl, q3.keeps (hk _), rfl, rfl⟩
  · intro b hb
    have : b = g := by simpa [bFp, blkOf] using hb
    subst this
    exact ⟨.inr (by simp), hlt⟩
end Go.Proofs.YthibophjhdoooaaDoor


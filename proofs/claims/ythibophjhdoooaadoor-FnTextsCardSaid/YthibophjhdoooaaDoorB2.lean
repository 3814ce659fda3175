/-
  A text is bent: what it hands back.
-/
import Derived.Test.YthibophjhdoooaaDoorB1
set_option linter.unusedVariables false
set_option linter.unusedSimpArgs false
namespace Go.Proofs.YthibophjhdoooaaDoor
open Go.Vx Go.RowKit

abbrev ksC : List K := [.sl 5 [.int .u8], .int .i64, .int .i64]
abbrev csC : List BC := [.im (.sl 5 [.int .u8]), .im (.int .i64), .im (.int .i64)]
/-- A cursor at g. -/
def CurAt (w : World) (M : Nat → Nat → Prop) (g : Nat) (c : D) : Prop := ∃ us, w.heap[g]? = some (.cells (List.toArray us) 60 (0, 0)) ∧ RepCs w (fun b o => M b o ∨ b = g) ksC us c.row
theorem CurAt.keeps {w w' : World} {M M' : Nat → Nat → Prop} {g : Nat} {c : D} (h : CurAt w M g c) (hg : w'.heap[g]? = w.heap[g]?) (hk : Keeps w (fun b o => M b o ∨ b = g) w' (fun b o => M' b o ∨ b = g)) : CurAt w' M' g c := by
  obtain ⟨us, h1, h2⟩ := h
  exact ⟨us, hg.trans h1, h2.keeps hk⟩
theorem ret_rep {w : World} {M : Nat → Nat → Prop} : ∀ {ks : List K} {us : List Value} {ds : List D} {F : List (List Nat)}, RetCs w M (ks.map RC.im) us ds F → RepCs w M ks us ds ∧ F = []
  | [], us, ds, F, h => ⟨h.1, h.2⟩
  | k :: ks, us, ds, F, ⟨v, vs', e, h1, h2⟩ => ⟨⟨v, vs', e, h1, (ret_rep h2).1⟩, (ret_rep h2).2⟩
theorem rep_ret {w : World} {M : Nat → Nat → Prop} : ∀ {ks : List K} {us : List Value} {ds : List D}, RepCs w M ks us ds → RetCs w M (ks.map RC.im) us ds []
  | [], us, ds, h => ⟨h, rfl⟩
  | k :: ks, us, ds, ⟨v, vs', e, h1, h2⟩ => ⟨v, vs', e, h1, rep_ret h2⟩
theorem keepsM {w : World} {M M' : Nat → Nat → Prop} (h : ∀ b o, M' b o → M b o) : Keeps w M w M' := fun b o _ hc hn => ⟨hc, fun h' => hn (h b o h')⟩

/-- A draw is called. -/
theorem cur_call {f : Nat} {k : K} {φ : Nat → List D → D} (H : FunB Tryd.prog f [.box 60 csC, .im (.one k)] [.one (.im (.int .i64))] φ) {w : World} {M : Nat → Nat → Prop} {g : Nat} {c d : D} {v : Value} (hM : ∀ b o, M b o → b < w.heap.size ∧ b ≠ g) (hG : ∀ w', Fr w [g] w' → glob Tryd.prog w')
    (hc : CurAt w M g c) (hv : RepC w (fun b o => M b o ∨ b = g) k v d) (hok : (φ 1000 [c, d]).asBool = true) :
    Calls Tryd.prog f #[.pointer (some ⟨g, 0, none⟩), v] w fun e w' => e = .returned (.int .i64 (φ 0 [c, d]).asInt) ∧ inR .i64 (φ 0 [c, d]).asInt ∧ Fr w [g] w' ∧ CurAt w' M g (φ 2000 [c, d]) := by
  obtain ⟨us, h1, h2⟩ := hc
  have hlt : g < w.heap.size := (Array.getElem?_eq_some_iff.1 h1).1
  have hk : Keeps w (fun b o => M b o ∨ b = g) w (fun b o => M b o ∨ b ∈ [[g]].flatten) := keepsM fun b o h => by simpa using h
  refine (H w M [.pointer (some ⟨g, 0, none⟩), v] [c, d] [[g]] (fun b o h => ⟨(hM b o h).1, by simpa using (hM b o h).2⟩) (by simpa using hG) ?_ (by simp) (by simpa using hlt) hok).mono ?_
  · exact ⟨g, us, [v], c, [d], [], [], rfl, rfl, rfl, h1, rep_ret (ks := ksC) (h2.keeps hk), ⟨v, [], d, [], rfl, rfl, hv.keeps hk, rfl, rfl, rfl⟩⟩
  · rintro e w' ⟨us', Rs, Bs, Gs, rfl, hF, hR, hB, -, -⟩
    obtain ⟨r, rs, rfl, hr, rfl, rfl⟩ := hR
    obtain ⟨hr1, hr2⟩ := hr
    obtain ⟨b, us0, vs', us2, Bs', G, Gs', e1, e2, rfl, rfl, e5, e6, e7⟩ := hB
    have hb : b = g := by
      have := (List.cons.inj e1).1
      simpa using this.symm
    subst hb
    subst hr1
    refine ⟨rfl, hr2, by simpa using hF, us2, e5, ?_⟩
    obtain ⟨v1, vs1, u1, us1, -, rfl, q1, v2, vs2, u2, us3, -, rfl, q2, v3, vs3, u3, us4, -, rfl, q3, rfl, rfl⟩ := e6
    have hk' := fun (w : World) => keepsM (w := w) (M := MeH M (retHeads ([RSh.one (RC.im (K.int .i64))].flatMap RSh.cells) [.int .i64 (φ 0 [c, d]).asInt] ++ bHD [.box 60 csC, .im (.one k)] [.pointer (some ⟨b, 0, none⟩), v] ([u1, u2, u3] :: Bs') ([] :: Gs'))) (M' := fun b' o => M b' o ∨ b' = b) fun b' o h => by
      rcases h with h | h
      · exact .inl h
      · exact .inr (by simp [retHeads, bHD, cHD, blkOf, h])
    exact ⟨u1, _, rfl, q1.keeps (hk' _), u2, _, rfl, q2.keeps (hk' _), u3, _, rfl, q3.keeps (hk' _), rfl⟩
end Go.Proofs.YthibophjhdoooaaDoor


/-
  An array of the call's own, sorted.
-/
import Derived.Test.YtllhihloidkghaaW8
import Derived.Test.YtllhihloidkghaaVxe
set_option linter.unusedVariables false
set_option linter.unusedSimpArgs false
namespace Go.Proofs.Ytllhihloidkghaa
open Go Go.Proofs Go.Shelf Go.RowKit Go.Lib Go.Sort Go.Vx

theorem rowsIn_mono {w0 : World} {b cap n k : Nat} {e : TypeId} {Q Q' : El → Prop} (hQ : ∀ x, Q x → Q' x) {w : World} {d : Array El} (h : Go.Vx.RowsIn w0 b cap n k e Q w d) : Go.Vx.RowsIn w0 b cap n k e Q' w d :=
  ⟨h.fr, h.size, fun i hi => hQ _ (h.all i hi), h.mem⟩
theorem oneCell_of_rep : ∀ {w : World} {M : Nat → Nat → Prop} {ks : List K} {vs : List Value} {r : List D}, RepCs w M ks vs r → ∀ v, v ∈ vs → v.oneCell' = true
  | _, _, [], _, _, h, v, hv => by rw [show _ = _ from h] at hv; cases hv
  | _, _, k :: ks, _, _, ⟨u, us, rfl, hc, hr⟩, v, hv => by
    rcases List.mem_cons.1 hv with rfl | hv
    · exact hc.oneCell
    · exact oneCell_of_rep hr v hv

set_option maxHeartbeats 1000000 in
theorem sort_w (T e : TypeId) (i ie : TypeInfo) (hi : Try.prog.info? T = some i) (hd : i.desc = .slice e) (hpk : Try.prog.packed T = false) (hie : Try.prog.info? e = some ie) (ke : Nat) (hke : ∀ w, (Extern.Rtype.kind e).run Try.prog w = .ok ke w)
    (K9 : Nat) (hK9 : ∀ n, swapperK n ie ke = if n = 0 then 1 else if n = 1 then 2 else K9) (h3 : 3 ≤ K9) (sf : Nat) (hsf : Try.prog.funcs.findIdx? (·.name == "internal/reflectlite" ++ ".Swapper$" ++ toString K9) = some sf)
    {w : World} {M : Nat → Nat → Prop} {dp : Bool} {ks : List K} {v : Value} {xs : List (List D)} {F : List Nat} (hO : OwnRep w M e ks dp v xs F) (hF : F.Nodup) (hlt : ∀ b, b ∈ F → b < w.heap.size) (hM : ∀ b, v.ownBlock = some b → ∀ o, M b o)
    (b0 : Nat) (hb0 : b0 < w.heap.size) {Qr : List D → Prop} (hQ : ∀ r, r ∈ xs → Qr r) {lt : List D → List D → Bool} (hL : SWO lt) {g : Nat} {lb : Array Value} (eg : ∀ args w, (callFunc g args).run Try.prog w = .ok (.enter g args) w)
    (hless : ∀ (w' : World) (rows : List (List D)), Fr w v.ownBlock.toList w' → RepC w' (fun _ _ => False) (.sl e ks) v (.sl rows) → rows.length ≤ lenMax → (∀ r, r ∈ rows → Qr r) → ∀ i j : Nat, i < rows.length → j < rows.length →
      Calls Try.prog g (#[.int .i64 i, .int .i64 j] ++ lb) w' fun e w'' => e = .returned (.bool (lt (rowN rows i) (rowN rows j))) ∧ Below w'.heap.size w' w'')
    (hswap : ∀ (b n c : Nat) (W : World) (X Y : List Value) (i j : Nat), i < n → j < n → X.length = ks.length → Y.length = ks.length → (∀ v, v ∈ X → v.oneCell' = true) → (∀ v, v ∈ Y → v.oneCell' = true) →
      (∀ u v, X[u]? = some v → W.cell? ⟨b, i * ks.length + u, none⟩ = some v) → (∀ u v, Y[u]? = some v → W.cell? ⟨b, j * ks.length + u, none⟩ = some v) → (∀ p, W.frozen? ⟨b, p, none⟩ = false) →
      (callFunc sf #[.int .i64 i, .int .i64 j, .slice (some ⟨b, 0, none⟩) n c, typeHandle Try.prog e]).run Try.prog W = .ok (.value (.tuple #[])) ((W.setCells b (i * ks.length) Y).setCells b (j * ks.length) X)) :
    Calls Try.prog 113 #[.iface T v, .func (.func g) #[] lb] w fun e' w' => e' = .returned (.tuple #[]) ∧ Fr w v.ownBlock.toList w' ∧ ∃ F', OwnRep w' M e ks dp v (stS lt xs) F' ∧ F'.Perm F := by
  have hO0 := hO
  obtain ⟨vss, fps, hown, hmax, hv1, hv2, hFe, hrow⟩ := hO0
  have hB : SWO fun x y : List Value × List D × List Nat => lt x.2.1 y.2.1 := swo_of (fun x : List Value × List D × List Nat => x.2.1) hL
  rcases hown.2 with ⟨e1, e2⟩ | ⟨b, cap, cur, e1, _, hh, hnc, hcm, hcs, htk⟩
  · subst e1
    have hx : xs = [] := List.length_eq_zero_iff.1 e2
    subst hx
    have S : Srt Try.prog (fun (w' : World) (d : Array El) => d.size = 0 ∧ Fr w [] w') b0 0 (fun x y => lt x.1.2.1 y.1.2.1) g lb 131 #[] :=
      { eg := eg
        small := by omega
        inw := fun h => Nat.lt_of_lt_of_le hb0 h.2.size
        size := fun h => h.1
        alloc := fun o h => ⟨h.1, fr_trans h.2 (fr_alloc' _ _ _)⟩
        drew := fun q h => ⟨h.1, fr_trans h.2 (fr_drew _ _ _)⟩
        less := fun h i j hi hj => absurd hi (by omega)
        swap := fun h i j hi hj hij => absurd hi (by omega) }
    have hs := sliceStable_w T e i ie hi hd hpk hie ke hke none 0 0 (by omega) 131 (by rw [hK9]; kernel_rfl) (by rw [hK9]; exact S) #[] w (show (#[] : Array El).size = 0 ∧ Fr w [] w from ⟨rfl, fr_refl _ _⟩)
    refine hs.mono fun e' w' ⟨he, _, hf⟩ => ⟨he, hf, F, ?_, List.Perm.refl _⟩
    have hf0 : fps = [] := List.length_eq_zero_iff.1 (by simpa using hv2)
    subst hf0
    rw [show stS lt ([] : List (List D)) = [] from rfl]
    exact ⟨[], [], ⟨by simp, .inl ⟨rfl, rfl⟩⟩, Nat.zero_le _, rfl, rfl, hFe, fun i row vs f h => by cases h⟩
  · subst e1
    obtain ⟨-, -, -, d, hR, hxs, hF2, hord⟩ := own_rows hO hF
    have hMb : ∀ o, M b o := hM b rfl
    have hR1 : Go.Vx.RowsIn w b cap xs.length ks.length e (fun x => ElOk w M ks dp b x ∧ Qr x.1.2.1) w d := ⟨hR.fr, hR.size, fun i hi => ⟨hR.all i hi, hQ _ (by
      rw [← hxs]
      have hi' : i < d.size := by rw [hR.size]; exact hi
      refine List.mem_map.2 ⟨d[i]!, ?_, rfl⟩
      rw [getElem!_pos d i hi']; simp)⟩, hR.mem⟩
    obtain ⟨sf1, hsf1, hsf2⟩ : ∃ sf1, Try.prog.funcs.findIdx? (·.name == "internal/reflectlite" ++ ".Swapper$" ++ toString (swapperK xs.length ie ke)) = some sf1 ∧ (2 ≤ xs.length → sf1 = sf) := by
      rw [hK9]
      split
      · exact ⟨131, by kernel_rfl, fun h => by omega⟩
      · split
        · exact ⟨132, by kernel_rfl, fun h => by omega⟩
        · exact ⟨sf, hsf, fun _ => rfl⟩
    have S := srt_rows (P := Try.prog) (w0 := w) (b := b) (cap := cap) (n := xs.length) (k := ks.length) (e := e) (Q := fun x => ElOk w M ks dp b x ∧ Qr x.1.2.1) hnc
      (by simp [lenMax] at hmax; omega) (lt := fun x y => lt x.1.2.1 y.1.2.1) (g := g) (lb := lb) (sf := sf1) (sb := if swapperK xs.length ie ke ≤ 2 then #[] else #[.slice (some ⟨b, 0, none⟩) xs.length cap, typeHandle Try.prog e]) eg
      (fun x hx v hv => by
        rw [encE_eq hx.1.1] at hv
        have := hx.1.2
        split at this
        · exact oneCell_of_rep (this.1.toC (M := fun _ _ => False) fun _ _ _ h => h) v hv
        · exact oneCell_of_rep this.1 v hv)
      (fun {w' d'} h i j hi hj => by
        have hd := (rowsIn_mono (fun _ h => h.1) h).dat hnc hmax hMb
        have hsz : d'.size = xs.length := h.size
        have hrn : ∀ k, k < xs.length → rowN (d'.toList.map fun x => x.1.2.1) k = d'[k]!.1.2.1 := fun k hk => by
          rw [rowN_lt (by simp [hsz]; exact hk)]
          simp only [List.getElem_map]
          rw [getElem!_pos d' k (by rw [hsz]; exact hk)]; simp
        have := hless w' _ h.fr hd (by simp [hsz]; exact hmax) (fun r hr => by
          obtain ⟨x, hx, rfl⟩ := List.mem_map.1 hr
          obtain ⟨k, hk, rfl⟩ := List.getElem_of_mem hx
          have hk' : k < d'.size := by simpa using hk
          have := (h.all k (by rw [← hsz]; exact hk')).2
          rw [getElem!_pos d' k hk'] at this
          simpa using this) i j (by simp [hsz]; exact hi) (by simp [hsz]; exact hj)
        rw [hrn i hi, hrn j hj] at this
        exact this)
      (fun W X Y i j hi hj hij hX hY oX oY cX cY fz => by
        have h2 : 2 ≤ xs.length := by omega
        rw [hsf2 h2, if_neg (by rw [hK9, if_neg (show ¬ xs.length = 0 by omega), if_neg (show ¬ xs.length = 1 by omega)]; omega)]
        rw [show (#[Value.int .i64 (i : Int), Value.int .i64 (j : Int)] ++ #[Value.slice (some ⟨b, 0, none⟩) xs.length cap, typeHandle Try.prog e]) = #[.int .i64 i, .int .i64 j, .slice (some ⟨b, 0, none⟩) xs.length cap, typeHandle Try.prog e] from rfl]
        exact hswap b xs.length cap W X Y i j hi hj hX hY oX oY cX cY fz)
    have hs := sliceStable_w T e i ie hi hd hpk hie ke hke (some ⟨b, 0, none⟩) xs.length cap (by simp [lenMax] at hmax; omega) sf1 hsf1 S d w hR1
    refine hs.mono fun e' w' ⟨he, hf⟩ => ⟨he, hf.fr, ?_⟩
    have hds : xs.length = d.size := hR.size.symm
    have hp : (stableF (fun x y : El => lt x.1.2.1 y.1.2.1) xs.length d).toList.Perm d.toList := by rw [hds]; exact stable_perm hB hord
    have he : (stableF (fun x y : El => lt x.1.2.1 y.1.2.1) xs.length d).toList.map (fun x => x.1.2.1) = stS lt xs := by
      have h1 := stable_stS hB hord
      have h2 := congrArg (List.map fun x => x.2.1) h1
      rw [stS_map (fun x : List Value × List D × List Nat => x.2.1) lt, List.map_map, List.map_map] at h2
      rw [hds]
      exact h2.trans (congrArg (stS lt) hxs)
    rw [← he]
    exact rows_own hR hF2 hF hlt hnc hmax hcm (rowsIn_mono (fun _ h => h.1) hf) hp hMb M fun _ _ h => h
end Go.Proofs.Ytllhihloidkghaa

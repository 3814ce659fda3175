import Derived.Test.YtlkidecpmfhheaaGreatW8
import Derived.Test.YtlkidecpmfhheaaGreatS4
set_option linter.all false
namespace Go.Proofs.YtlkidecpmfhheaaGreat
open Go Go.Proofs Go.Shelf Go.RowKit Go.Lib Go.Sort Go.Vx
noncomputable def iSl : TypeInfo := (Tryz.prog.info? 40).get (by kernel_rfl)
noncomputable def iAl : TypeInfo := (Tryz.prog.info? 135).get (by kernel_rfl)
theorem swK (n : Nat) : swapperK n iAl 25 = if n = 0 then 1 else if n = 1 then 2 else 9 := by
 have a : iAl.hasPointers = true := by kernel_rfl
 have b : iAl.bytes = 56 := by kernel_rfl
 simp [Lib.swapperK, a, b]
theorem byl_walk (p : Option Addr) (n c : Nat) (w : World) (R : World → Prop)
   (h : Calls Tryz.prog 142 #[.iface 40 (.slice p n c), .func (.func 291) #[] #[.pointer (some ⟨w.heap.size, 0, none⟩)]] (w.alloc (.cells #[.slice p n c] 40))
     fun e w' => e = .returned (.tuple #[]) ∧ w'.cell? ⟨w.heap.size, 0, none⟩ = some (.slice p n c) ∧ R w') :
   Calls Tryz.prog 219 #[.slice p n c] w fun e w' => e = .returned (.slice p n c) ∧ R w' := by
 go_enter Tryz.func219, Tryz.ntmps219
 go_wp2_with (go_at_call 142; refine h.mono ?_; rintro e w' ⟨rfl, hc, hR⟩)
 go_wp2
 go_ret
 exact ⟨rfl, hR⟩
def ltE (x y : El) : Bool := ltA x.1.2.1 y.1.2.1
theorem byl_less {w : World} (hG : glob Tryz.prog w) {v : Value} {rows : List (List D)} {Bs : Nat} (hb : w.cell? ⟨Bs, 0, none⟩ = some v) (hv : RepC w (fun _ _ => False) (.sl 135 kAlarm) v (.sl rows)) (hl : rows.length ≤ lenMax) (i j : Nat) (hi : i < rows.length) (hj : j < rows.length) :
   Calls Tryz.prog 291 #[.int .i64 i, .int .i64 j, .pointer (some ⟨Bs, 0, none⟩)] w fun e w' => e = .returned (.bool (ltA (rowN rows i) (rowN rows j))) ∧ Below w.heap.size w w' := by
 have hn : ∀ k : Nat, k < rows.length → inR .i64 k := fun k hk => by
   simp [lenMax] at hl
   rw [inR_i64]; omega
 have hc := (ok291.r rfl) w (fun _ _ => False) [.int .i64 i, .int .i64 j, .pointer (some ⟨Bs, 0, none⟩)] [.int i, .int j, .sl [[.sl rows]]] (fun _ _ h => h.elim) hG
   ⟨_, _, _, _, rfl, rfl, ⟨rfl, hn i hi⟩, _, _, _, _, rfl, rfl, ⟨rfl, hn j hj⟩, _, _, _, _, rfl, rfl, ⟨Bs, 0, [v], rfl, ⟨hb, trivial⟩, fun _ _ h => h, v, [], rfl, hv, rfl⟩, rfl, rfl⟩
   (by
     show (Φ 291 1000 _).asBool = true
     simp [Φ291, mByL1]
     omega)
 refine hc.mono ?_
 rintro e w' ⟨us, Fs, rfl, hB, hR, -, -⟩
 obtain ⟨u, us', rfl, hu, rfl, rfl⟩ := hR
 refine ⟨?_, hB⟩
 have hu : u = .bool _ := hu
 rw [hu]
 simp [mkRet, mkRets, RSh.mk, g291, Φ291, mByL1]
theorem one_of_rep : ∀ {w : World} {M : Nat → Nat → Prop} {ks : List K} {vs : List Value} {r : List D}, RepCs w M ks vs r → ∀ v, v ∈ vs → v.oneCell' = true
 | _, _, [], _, _, h, v, hv => by rw [show _ = _ from h] at hv; cases hv
 | _, _, k :: ks, _, _, ⟨u, us, rfl, hc, hr⟩, v, hv => by
   rcases List.mem_cons.1 hv with rfl | hv
   · exact hc.oneCell
   · exact one_of_rep hr v hv
theorem ltA_swo : SWO ltA := swo_of (fun r => (cell r 0).asList) setLt_swo
theorem ltB_swo : SWO fun x y : List Value × List D × List Nat => ltA x.2.1 y.2.1 := swo_of (fun x : List Value × List D × List Nat => x.2.1) ltA_swo
set_option maxHeartbeats 1000000 in
theorem byl_funS : FunS Tryz.prog 219 135 kAlarm mByL := by
 intro w M dp v xs F hM hG hO hF hlt _
 have hO0 := hO
 obtain ⟨vss, fps, hown, hmax, hv1, hv2, hFe, hrow⟩ := hO0
 have h0 : (mByL 0 [.sl xs]).asList = stS ltA xs := by simp [mByL]
 rw [h0]
 rcases hown.2 with ⟨e1, e2⟩ | ⟨b, cap, cur, e1, _, hh, hnc, hcm, hcs, htk⟩
 · -- nothing
   subst e1
   have hx : xs = [] := List.length_eq_zero_iff.1 e2
   subst hx
   have S : Srt Tryz.prog (fun (w' : World) (d : Array El) => d.size = 0 ∧ Fr (w.alloc (.cells #[.slice none 0 0] 40)) [] w') w.heap.size 0 ltE 291 #[.pointer (some ⟨w.heap.size, 0, none⟩)] 280 #[] :=
     { eg := enters_of Tryz.func291 (by kernel_rfl) rfl
       small := by omega
       inw := fun h => Nat.lt_of_lt_of_le (by simp) h.2.size
       size := fun h => h.1
       alloc := fun o h => ⟨h.1, fr_trans h.2 (fr_alloc' _ _ _)⟩
       drew := fun q h => ⟨h.1, fr_trans h.2 (fr_drew _ _ _)⟩
       less := fun h i j hi hj => absurd hi (by omega)
       swap := fun h i j hi hj hij => absurd hi (by omega) }
   have hs := sliceStable_w 40 135 iSl iAl (by kernel_rfl) (by kernel_rfl) (by kernel_rfl) (by kernel_rfl) 25 (fun _ => by kernel_rfl) none 0 0 (by omega) 280 (by rw [swK]; kernel_rfl) S #[] _ ⟨rfl, fr_refl _ _⟩
   refine (byl_walk none 0 0 w (fun w' => Fr (w.alloc (.cells #[.slice none 0 0] 40)) [] w') (hs.mono fun e w' ⟨he, _, hf⟩ => ⟨he, fr_cell hf (by simp) (by simp), hf⟩)).mono fun e w' ⟨he, hf⟩ => ⟨he, ?_, stS_length _ _, F, ?_, List.Perm.refl _⟩
   · exact fr_trans (fr_alloc' _ _ _) hf
   · have hf0 : fps = [] := List.length_eq_zero_iff.1 (by simpa using hv2)
     subst hf0
     exact ⟨[], [], ⟨rfl, .inl ⟨rfl, rfl⟩⟩, Nat.zero_le _, rfl, rfl, hFe, fun i row vs f h => by cases h⟩
 · subst e1
   obtain ⟨-, -, -, d, hR, hxs, hF2, hord⟩ := own_rows hO hF
   have hMb : ∀ o, M b o := hM b rfl
   have hblt : b < w.heap.size := (Array.getElem?_eq_some_iff.1 hh).1
   have hR0 : Go.Vx.RowsIn (w.alloc (.cells #[.slice (some ⟨b, 0, none⟩) xs.length cap] 40)) b cap xs.length kAlarm.length 135 (ElOk w M kAlarm dp b) (w.alloc (.cells #[.slice (some ⟨b, 0, none⟩) xs.length cap] 40)) d :=
     ⟨fr_refl _ _, hR.size, hR.all, (hR.below ((Below.refl _ _).alloc (Nat.le_refl _) _)).mem⟩
   have hbase : ∀ {w' : World} {d' : Array El}, Go.Vx.RowsIn (w.alloc (.cells #[.slice (some ⟨b, 0, none⟩) xs.length cap] 40)) b cap xs.length kAlarm.length 135 (ElOk w M kAlarm dp b) w' d' → Go.Vx.RowsIn w b cap xs.length kAlarm.length 135 (ElOk w M kAlarm dp b) w' d' :=
     fun h => ⟨fr_trans (fr_alloc' _ _ _) h.fr, h.size, h.all, h.mem⟩
   have hbox : ∀ {w' : World} {d' : Array El}, Go.Vx.RowsIn (w.alloc (.cells #[.slice (some ⟨b, 0, none⟩) xs.length cap] 40)) b cap xs.length kAlarm.length 135 (ElOk w M kAlarm dp b) w' d' → w'.cell? ⟨w.heap.size, 0, none⟩ = some (.slice (some ⟨b, 0, none⟩) xs.length cap) :=
     fun h => fr_cell h.fr (by simp; omega) (by simp)
   obtain ⟨sf, hsf, hsf2⟩ : ∃ sf, Tryz.prog.funcs.findIdx? (·.name == "internal/reflectlite" ++ ".Swapper$" ++ toString (swapperK xs.length iAl 25)) = some sf ∧ (2 ≤ xs.length → sf = 288) := by
     rw [swK]
     split
     · exact ⟨280, by kernel_rfl, fun h => by omega⟩
     · split
       · exact ⟨281, by kernel_rfl, fun h => by omega⟩
       · exact ⟨288, by kernel_rfl, fun _ => rfl⟩
   have S := srt_rows (P := Tryz.prog) (w0 := w.alloc (.cells #[.slice (some ⟨b, 0, none⟩) xs.length cap] 40)) (b := b) (cap := cap) (n := xs.length) (k := kAlarm.length) (e := 135) (Q := ElOk w M kAlarm dp b) hnc
     (by simp [lenMax] at hmax; omega) (lt := ltE) (g := 291) (lb := #[.pointer (some ⟨w.heap.size, 0, none⟩)]) (sf := sf) (sb := if swapperK xs.length iAl 25 ≤ 2 then #[] else #[.slice (some ⟨b, 0, none⟩) xs.length cap, typeHandle Tryz.prog 135])
     (enters_of Tryz.func291 (by kernel_rfl) rfl)
     (fun x hx v hv => by
       rw [encE_eq hx.1] at hv
       have := hx.2
       split at this
       · exact one_of_rep (this.1.toC (M := fun _ _ => False) fun _ _ _ h => h) v hv
       · exact one_of_rep this.1 v hv)
     (fun {w' d'} h i j hi hj => by
       have hd := (hbase h).dat hnc hmax hMb
       have hsz : d'.size = xs.length := h.size
       have hrn : ∀ k, k < xs.length → rowN (d'.toList.map fun x => x.1.2.1) k = d'[k]!.1.2.1 := fun k hk => by
         rw [rowN_lt (by simp [hsz]; exact hk)]
         simp only [List.getElem_map]
         rw [getElem!_pos d' k (by rw [hsz]; exact hk)]; simp
       have := byl_less (hG _ (hbase h).fr) (hbox h) hd (by simp [hsz]; exact hmax) i j (by simp [hsz]; exact hi) (by simp [hsz]; exact hj)
       rw [hrn i hi, hrn j hj] at this
       exact this)
     (fun W X Y i j hi hj hij hX hY oX oY cX cY fz => by
       have h2 : 2 ≤ xs.length := by omega
       rw [hsf2 h2, if_neg (by rw [swK, if_neg (show ¬ xs.length = 0 by omega), if_neg (show ¬ xs.length = 1 by omega)]; decide)]
       have hz : iAl.size = 4 := by kernel_rfl
       rw [run_callFunc_extern Tryz.func288 (by kernel_rfl) (by kernel_rfl) (by kernel_rfl) (e := Extern.ReflectliteSwapper.swap false) (by kernel_rfl)]
       have := run_swap_cells (P := Tryz.prog) false 135 iAl (by kernel_rfl) (fun _ => by kernel_rfl) b 0 xs.length cap i j hi hj X Y (by rw [hX, hz]; rfl) (by rw [hY, hz]; rfl) oX oY W
         (by rw [hz, Nat.zero_add]; exact cX) (by rw [hz, Nat.zero_add]; exact cY) (fun _ _ => fz _) (fun _ _ => fz _)
       rw [hz, Nat.zero_add, Nat.zero_add] at this
       rw [show (#[Value.int .i64 (i : Int), Value.int .i64 (j : Int)] ++ #[Value.slice (some ⟨b, 0, none⟩) xs.length cap, typeHandle Tryz.prog 135]) = #[.int .i64 i, .int .i64 j, .slice (some ⟨b, 0, none⟩) xs.length cap, typeHandle Tryz.prog 135] from rfl, this]
       rfl)
   have hs := sliceStable_w 40 135 iSl iAl (by kernel_rfl) (by kernel_rfl) (by kernel_rfl) (by kernel_rfl) 25 (fun _ => by kernel_rfl) (some ⟨b, 0, none⟩) xs.length cap (by simp [lenMax] at hmax; omega) sf hsf S d _ hR0
   refine (byl_walk (some ⟨b, 0, none⟩) xs.length cap w _ (hs.mono fun e w' ⟨he, hf⟩ => ⟨he, hbox hf, hf⟩)).mono fun e w' ⟨he, hf⟩ => ⟨he, fr_trans (fr_alloc' _ _ _) hf.fr, stS_length _ _, ?_⟩
   have hds : xs.length = d.size := hR.size.symm
   have hp : (stableF ltE xs.length d).toList.Perm d.toList := by rw [hds]; exact stable_perm ltB_swo hord
   have he : (stableF ltE xs.length d).toList.map (fun x => x.1.2.1) = stS ltA xs := by
     have h1 := stable_stS ltB_swo hord
     have h2 := congrArg (List.map fun x => x.2.1) h1
     rw [stS_map (fun x : List Value × List D × List Nat => x.2.1) ltA, List.map_map, List.map_map] at h2
     rw [hds]
     exact h2.trans (congrArg (stS ltA) hxs)
   rw [← he]
   exact rows_own hR hF2 hF hlt hnc hmax hcm (hbase hf) hp hMb M fun _ _ h => h
theorem ok219 : Good1 Tryz.prog Φ g219 := ⟨fun _ => byl_funS, fun l e => (by cases e), _, Tryz.func219, by decide, by decide⟩
end Go.Proofs.YtlkidecpmfhheaaGreat

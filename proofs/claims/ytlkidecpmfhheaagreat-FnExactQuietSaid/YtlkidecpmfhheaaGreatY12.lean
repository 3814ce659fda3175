import Derived.Test.YtlkidecpmfhheaaGreatY11
set_option linter.all false
namespace Go.Proofs.YtlkidecpmfhheaaGreat
open Go.Vx
def DeedAt (w : List D) (i : Nat) : Prop := DeedP (rowN (cell w 18).asList i) ∧ (cell (rowN (cell w 18).asList i) 12).asInt < (cell w 6).asInt ∧ (cell (rowN (cell w 18).asList i) 13).asInt < (cell w 6).asInt ∧ (cell (rowN (cell w 18).asList i) 14).asInt < (cell w 6).asInt
theorem ok108 : Good1 Tryz.prog Φ g108 := good1 tok mixed (l := [g179, g180, g181]) (by simp [ok179, ok180, ok181]) Tryz.func108 (by decide) (by decide) v108_eq (args1 fun a hw hp => by
 simp [g108, Φ108, mBw] at hp
 obtain ⟨hsz, hparts⟩ := hp
 show v108.wp Φ (fun l => l = [.bool (tt (deedsW a.row ∧ tasksW a.row))]) [a] _
 have hl := wfs_at hw.1 18 rfl
 have hl' := wfs_at hw.1 17 rfl
 refine scan_all2 (s := 0) (N := (cell a.row 18).asList.length) (DeedAt a.row) rfl (fun d => by simp) hl (by omega) (fun h i h1 h2 => h.1 i h2) (fun i h1 hi _ => ?_) fun hD i q => ?_
 · simp [Φ108, Φ179, Φ180, Φ181, mBw, mB, rowAt_nat, hi, DeedAt]
   grind
 have hDeeds : deedsW a.row := fun i hi => hD i (by omega) hi
 refine loop1_wp (Φ := Φ) (N := (cell a.row 17).asList.length) rfl (fun _ => by simp) hl' (fun i => ∀ j, j < i → taskW a.row j) (by omega) (fun n hn hI => ?_) (fun hI p => ?_)
 · obtain ⟨t, ht⟩ : ∃ t, rowN (cell a.row 17).asList n = t := ⟨_, rfl⟩
   have hno : ¬ taskW a.row n → tt (deedsW a.row ∧ tasksW a.row) = false := fun h => (tt_no _).mpr fun h' => h (h'.2 n hn)
   have hyes : taskW a.row n → ∀ j, j < n + 1 → taskW a.row j := fun h => all_next hI h
   by_cases hT : TaskP t n
   · by_cases h0 : (cell t 0).asInt = 0
     · have := hyes (taskW_idle (w := a.row) (k := n) (ht ▸ hT) (ht ▸ h0))
       simp [Φ108, Φ179, Φ180, Φ181, mBw, mB, hn, rowAt_nat, ht, hT, h0]
       exact this
     · obtain ⟨h, hH⟩ := Int.eq_ofNat_of_zero_le hT.1
       obtain ⟨d, hd⟩ : ∃ d, rowN (cell a.row 18).asList h = d := ⟨_, rfl⟩
       have e := taskW_eq ht hT h0 hH hd
       by_cases hl : h < (cell a.row 18).asList.length
       · have hx : szDs kWorld a.row ≤ 1048576 ∧ partsP a.row ∧ ¬ (cell t 0).asInt = 0 ∧ ∃ k, TaskP t k := ⟨hsz, hparts, h0, n, hT⟩
         by_cases hok : taskW a.row n
         · have hy := hyes hok
           rw [e] at hok
           simp [Φ108, Φ179, Φ180, Φ181, mBw, mB, hn, rowAt_nat, ht, hT, h0, hH, hd, hl, hx]
           grind
         · have hz := hno hok
           rw [e] at hok
           simp [Φ108, Φ179, Φ180, Φ181, mBw, mB, hn, rowAt_nat, ht, hT, h0, hH, hd, hl, hx, hz]
           grind
       · have hz := hno (by rw [e]; exact fun h' => hl h'.1)
         simp [Φ108, Φ179, Φ180, Φ181, mBw, mB, hn, rowAt_nat, ht, hT, h0, hH, hl, hz]
   · have hz := hno (taskW_no (w := a.row) (k := n) (ht ▸ hT))
     simp [Φ108, Φ179, Φ180, Φ181, mBw, mB, hn, rowAt_nat, ht, hT, hz]
 · have hTasks : tasksW a.row := fun k hk => hI k hk
   simp [tt_ok _ |>.mpr (show deedsW a.row ∧ tasksW a.row from ⟨hDeeds, hTasks⟩)])
end Go.Proofs.YtlkidecpmfhheaaGreat

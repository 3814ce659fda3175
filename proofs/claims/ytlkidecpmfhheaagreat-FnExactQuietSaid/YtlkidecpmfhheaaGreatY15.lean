import Derived.Test.YtlkidecpmfhheaaGreatY14
set_option linter.all false
namespace Go.Proofs.YtlkidecpmfhheaaGreat
open Go.Vx
theorem cnt_le {l : List (List D)} : sumR (fun c => (cell c 1).asList.length) l ≤ sumR (szDs kChain) l := sumR_le (fun c => by have := szCh c; omega) l
theorem cntP_le {l : List (List D)} : cntS l ≤ sumR (szDs kPart) l := sumR_le (fun p => by have := szPt p; have := @cnt_le (cell p 2).asList; omega) l
theorem ok175 : Good1 Tryz.prog Φ g175 := good1 tok mixed (l := []) (by simp) Tryz.func175 (by decide) (by decide) v175_eq (args1 fun a hw hp => by
 simp [g175, Φ175, mCnt, lenMax] at hw hp
 show v175.wp Φ (fun l => l = [.int (cntS a.asList)]) [a] _
 refine loop2'_wp (N := a.asList.length) rfl (fun d d' => by simp) (by omega) (fun i x => x = .int (cntS (a.asList.take i))) (by simp [cntS, sumR]) (fun i x hi _ hx => ?_) fun x _ hx p => ?_
 · subst hx
   have hs : cntS (a.asList.take (i + 1)) = cntS (a.asList.take i) + sumR (fun c => (cell c 1).asList.length) (cell (rowN a.asList i) 2).asList := sumR_take _ hi
   have hb : cntS (a.asList.take (i + 1)) ≤ sumR (szDs kPart) a.asList := Nat.le_trans cntP_le (sumR_take_le _)
   have hpt := szPt (rowN a.asList i)
   have hri : szDs kPart (rowN a.asList i) ≤ sumR (szDs kPart) a.asList := sumR_rowN hi
   rw [wp_req']
   refine ⟨by simp [hi], ?_⟩
   refine loop2'_wp (N := (cell (rowN a.asList i) 2).asList.length) rfl (fun d d' => by simp [rowAt_nat]) (by omega) (fun k x => x = .int ((cntS (a.asList.take i) : Int) + (sumR (fun c => (cell c 1).asList.length) ((cell (rowN a.asList i) 2).asList.take k) : Nat))) (by simp [sumR]) (fun k x hk _ hx => ?_) fun x _ hx p => ?_
   · subst hx
     have hs2 : sumR (fun c => (cell c 1).asList.length) ((cell (rowN a.asList i) 2).asList.take (k + 1)) = sumR (fun c => (cell c 1).asList.length) ((cell (rowN a.asList i) 2).asList.take k) + (cell (rowN (cell (rowN a.asList i) 2).asList k) 1).asList.length := sumR_take _ hk
     have hb2 : sumR (fun c => (cell c 1).asList.length) ((cell (rowN a.asList i) 2).asList.take (k + 1)) ≤ sumR (fun c => (cell c 1).asList.length) (cell (rowN a.asList i) 2).asList := sumR_take_le _
     simp [rowAt_nat, hk]
     rw [hs2, w64 (by omega) (by omega)]
     simp; omega
   · subst hx
     rw [wp_back', setB_ne (by decide)]
     have e : (cell (rowN a.asList i) 2).asList.take (cell (rowN a.asList i) 2).asList.length = (cell (rowN a.asList i) 2).asList := List.take_of_length_le (Nat.le_refl _)
     simp [hs, e]
 · subst hx
   simp)
end Go.Proofs.YtlkidecpmfhheaaGreat

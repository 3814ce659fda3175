/-
  Models.
-/
import Derived.Test.YtpgpkomolheinaaS1
import Derived.Test.YtpgpkomolheinaaVxb
namespace Go.Proofs.Ytpgpkomolheinaa
open Go.Vx

abbrev kL : List K := [.str, .str]
abbrev kA : List K := [.sl 80 kL, .int .i64, .int .i64, .str]
abbrev kA' : List K := [.sl 78 kL, .int .i64, .int .i64, .str]

/-- Some of the second are the first, in order. -/
def within (p : List D → List D → Bool) : List (List D) → List (List D) → Bool
  | [], _ => true
  | _ :: _, [] => false
  | x :: xs, y :: ys => if p x y = true then within p xs ys else within p (x :: xs) ys
noncomputable def mWithin : Nat → List D → D := con (fun _ => True) fun _ ds => .bool (within (eqDs kA) (cell ds 0).asList (cell ds 1).asList)
noncomputable def mLaw : Nat → List D → D := con (fun _ => True) fun _ _ => .bool true
noncomputable def Φ : Fns := fun f => match f with
  | 62 => mSzA kL
  | 18 => mSzL kL
  | 59 => mSzA kA'
  | 13 => mSzL kA'
  | 65 => mToA kL
  | 20 => mToL kL
  | 61 => mToA kA'
  | 15 => mToL kA'
  | 68 => mEqA kL
  | 22 => mEqL kL
  | 39 => mEqA kA
  | 17 => mEqL kA
  | 63 => mEqL kL
  | 60 => mEqA kA
  | 66 => mEqL kL
  | 53 => mEqA kA
  | 14 => mWithin
  | 16 => mWithin
  | 3 => mLaw
  | _ => fun _ _ => default

theorem ok62 : Good1 Try.prog Φ g62 := good1 tok mixed (l := []) (by simp) Try.func62 (by decide) (by decide) v62_eq (args2 fun a b hw hp => by
  simp [g62, Φ, mSzA, szPre] at hw hp
  have := szSV_wp (Φ := Φ) (env := [a, b]) (B := fun _ _ => False) [.s (.op (.fld 0) [.var 0]), .s (.op (.fld 1) [.var 0])] [(cell a.row 0).asStr.size, (cell a.row 1).asStr.size] (.var 1) b.asInt (by simp [stOk, hw]) rfl (by simp) hp.1 hp.2
  have e : szDs kL a.row = sumN [(cell a.row 0).asStr.size, (cell a.row 1).asStr.size] := by simp [szDs_cons, szDs_nil, szD, sumN]
  show v62.wp Φ (fun l => l = [.int (szM (szDs kL a.row) b.asInt)]) [a, b] _
  rw [e]
  exact this)
theorem ok18 : Good1 Try.prog Φ g18 := good1 tok mixed (l := [g62]) (by simpa using ok62) Try.func18 (by decide) (by decide) v18_eq (args2 fun a b hw hp => by
  simp [g18, Φ, mSzL, szPre] at hw hp
  exact szV_wp (c := 62) (n := 2) (ks := kL) rfl rfl hw.1.1 hp _)
theorem ok59 : Good1 Try.prog Φ g59 := good1 tok mixed (l := [g18]) (by simpa using ok18) Try.func59 (by decide) (by decide) v59_eq (args2 fun a b hw hp => by
  simp [g59, Φ, mSzA, szPre] at hw hp
  have := szSV_wp (Φ := Φ) (env := [a, b]) (B := fun _ _ => False) [.c 18 (.op (.fld 0) [.var 0]), .s (.op (.fld 3) [.var 0])] [szD (.sl 78 kL) (cell a.row 0), (cell a.row 3).asStr.size] (.var 1) _ (by simp +contextual [stOk, hw, Φ, mSzL, szPre, szD]) rfl (by simp) hp.1 hp.2
  have e : szDs kA' a.row = sumN [szD (.sl 78 kL) (cell a.row 0), (cell a.row 3).asStr.size] := by simp [szDs_cons, szDs_nil, szD, sumN]
  show v59.wp Φ (fun l => l = [.int (szM (szDs kA' a.row) b.asInt)]) [a, b] _
  rw [e]
  exact this)
theorem ok13 : Good1 Try.prog Φ g13 := good1 tok mixed (l := [g59]) (by simpa using ok59) Try.func13 (by decide) (by decide) v13_eq (args2 fun a b hw hp => by
  simp [g13, Φ, mSzL, szPre] at hw hp
  exact szV_wp (c := 59) (n := 4) (ks := kA') rfl rfl hw.1.1 hp _)
theorem ok65 : Good1 Try.prog Φ g65 := good1 tok mixed (l := []) (by simp) Try.func65 (by decide) (by decide) v65_eq (args1 fun a hw hp => by
  simp [v65, Φ, mToA, g65, cnDs_cons, cnDs_nil, cnD])
theorem ok20 : Good1 Try.prog Φ g20 := good1 tok mixed (l := [g65]) (by simpa using ok65) Try.func20 (by decide) (by decide) v20_eq (args1 fun a hw hp => by
  simp [g20, Φ, mToL, toPreL] at hw hp
  exact toV_wp (c := 65) (bytes := 32) (tid := 80) (ks := kL) (ks' := kL) (by omega) rfl (fun _ => rfl) rfl hp _)
theorem ok61 : Good1 Try.prog Φ g61 := good1 tok mixed (l := [g20]) (by simpa using ok20) Try.func61 (by decide) (by decide) v61_eq (args1 fun a hw hp => by
  simp [g61, Φ, mToA, toPre, szDs_cons, szDs_nil, szD] at hp
  simp [v61, Φ, mToA, mToL, toPreL, g61, cnDs_cons, cnDs_nil, cnD]
  omega)
theorem ok15 : Good1 Try.prog Φ g15 := good1 tok mixed (l := [g61]) (by simpa using ok61) Try.func15 (by decide) (by decide) v15_eq (args1 fun a hw hp => by
  simp [g15, Φ, mToL, toPreL] at hw hp
  exact toV_wp (c := 61) (bytes := 56) (tid := 53) (ks := kA') (ks' := kA) (by omega) rfl (fun _ => rfl) rfl hp _)
theorem ok68 : Good1 Try.prog Φ g68 := good1 tok mixed (l := []) (by simp) Try.func68 (by decide) (by decide) v68_eq (args2 fun a b hw hp => by
  simp [v68, Φ, mEqA, g68, eqDs_cons, eqDs_nil, eqD_str]
  simp +contextual)
theorem ok22 : Good1 Try.prog Φ g22 := good1 tok mixed (l := [g68]) (by simpa using ok68) Try.func22 (by decide) (by decide) v22_eq (args2 fun a b hw hp => by
  simp [g22] at hw
  exact eqV_wp (p := eqDs kL) (tests := [.op (.fn 68 1000) [mkE 2 (.var 0) (.var 2), mkE 2 (.var 1) (.var 2)]]) (t := .op (.fn 68 0) [mkE 2 (.var 0) (.var 2), mkE 2 (.var 1) (.var 2)]) hw.1.1
    (fun i h1 h2 => by simp only [conj_cons, conj_nil, den_op, dens_cons, dens_nil, op_fn, mkE_den, den_var, Φ, mEqA, con_ok, con_zero]; simp [rowAt_nat, eqDs_cons, eqDs_nil]) _)
theorem ok39 : Good1 Try.prog Φ g39 := good1 tok mixed (l := [g22]) (by simpa using ok22) Try.func39 (by decide) (by decide) v39_eq (args2 fun a b hw hp => by
  simp [v39, Φ, mEqA, mEqL, g39, eqDs_cons, eqDs_nil, eqD_str, eqD_int, eqD_sl]
  simp +contextual)
theorem ok63 : Good1 Try.prog Φ g63 := good1 tok mixed (l := []) (by simp) Try.func63 (by decide) (by decide) v63_eq (args2 fun a b hw hp => by
  simp [g63] at hw
  exact eqV_wp (p := eqDs kL) (tests := []) (t := .op .and [.op (.sbin .eql) [.op (.fld 0) [.op .row [.var 0, .var 2]], .op (.fld 0) [.op .row [.var 1, .var 2]]], .op (.sbin .eql) [.op (.fld 1) [.op .row [.var 0, .var 2]], .op (.fld 1) [.op .row [.var 1, .var 2]]]]) hw.1.1
    (fun i h1 h2 => by simp [rowAt_nat, eqDs_cons, eqDs_nil, eqD_str]) _)
theorem ok60 : Good1 Try.prog Φ g60 := good1 tok mixed (l := [g63]) (by simpa using ok63) Try.func60 (by decide) (by decide) v60_eq (args2 fun a b hw hp => by
  simp [v60, Φ, mEqA, mEqL, g60, eqDs_cons, eqDs_nil, eqD_str, eqD_int, eqD_sl]
  rw [Bool.eq_iff_iff]
  simp [and_assoc])
theorem ok66 : Good1 Try.prog Φ g66 := good1 tok mixed (l := []) (by simp) Try.func66 (by decide) (by decide) v66_eq (args2 fun a b hw hp => by
  simp [g66] at hw
  exact eqV_wp (p := eqDs kL) (tests := []) (t := .op .and [.op (.sbin .eql) [.op (.fld 0) [.op .row [.var 0, .var 2]], .op (.fld 0) [.op .row [.var 1, .var 2]]], .op (.sbin .eql) [.op (.fld 1) [.op .row [.var 0, .var 2]], .op (.fld 1) [.op .row [.var 1, .var 2]]]]) hw.1.1
    (fun i h1 h2 => by simp [rowAt_nat, eqDs_cons, eqDs_nil, eqD_str]) _)
theorem ok53 : Good1 Try.prog Φ g53 := good1 tok mixed (l := [g66]) (by simpa using ok66) Try.func53 (by decide) (by decide) v53_eq (args2 fun a b hw hp => by
  simp [v53, Φ, mEqA, mEqL, g53, eqDs_cons, eqDs_nil, eqD_str, eqD_int, eqD_sl]
  rw [Bool.eq_iff_iff]
  simp [and_assoc])

theorem within_nil (p : List D → List D → Bool) (xs : List (List D)) : within p xs [] = tt (xs = []) := by
  cases xs <;> simp [within]
theorem within_hit {p : List D → List D → Bool} {xs ys : List (List D)} {i k : Nat} (hi : i < xs.length) (hk : k < ys.length) (h : p (xs.getD i []) (ys.getD k []) = true) :
    within p (xs.drop i) (ys.drop k) = within p (xs.drop (i + 1)) (ys.drop (k + 1)) := by
  rw [List.drop_eq_getElem_cons hi, List.drop_eq_getElem_cons hk]
  simp only [List.getD_eq_getElem?_getD, List.getElem?_eq_getElem hi, List.getElem?_eq_getElem hk, Option.getD_some] at h
  simp [within, h]
theorem within_miss {p : List D → List D → Bool} {xs ys : List (List D)} {i k : Nat} (hi : i < xs.length) (hk : k < ys.length) (h : p (xs.getD i []) (ys.getD k []) = false) :
    within p (xs.drop i) (ys.drop k) = within p (xs.drop i) (ys.drop (k + 1)) := by
  rw [List.drop_eq_getElem_cons hi, List.drop_eq_getElem_cons hk]
  simp only [List.getD_eq_getElem?_getD, List.getElem?_eq_getElem hi, List.getElem?_eq_getElem hk, Option.getD_some] at h
  simp [within, h]

theorem eq4 (x y : List D) : eqDs kA [cell x 0, cell x 1, cell x 2, cell x 3] [cell y 0, cell y 1, cell y 2, cell y 3] = eqDs kA x y := eqDs_cells kA x y

theorem ok14 : Good1 Try.prog Φ g14 := good1 tok mixed (l := [g60]) (by simpa using ok60) Try.func14 (by decide) (by decide) v14_eq (args2 fun a b hw hp => by
  simp [g14] at hw
  have ha : (a.asList.length : Int) ≤ 140737488355328 := by have := hw.1.1; simp only [lenMax] at this; omega
  have hb : (b.asList.length : Int) ≤ 140737488355328 := by have := hw.2.1; simp only [lenMax] at this; omega
  show v14.wp Φ (fun l => l = [.bool (within (eqDs kA) a.asList b.asList)]) [a, b] _
  refine wp_loop' (fun v => ∃ i k : Nat, v = [.int i, .int k] ∧ i ≤ a.asList.length ∧ k ≤ b.asList.length ∧ within (eqDs kA) (a.asList.drop i) (b.asList.drop k) = within (eqDs kA) a.asList b.asList)
    (fun v => b.asList.length - (cell v 1).asInt.toNat) ⟨0, 0, by simp, by omega, by omega, by simp⟩ ?_
  simp [-tt_and]
  intro d e _ _ i k hd he hi hk hI
  subst hd he
  simp [show Φ 60 = mEqA kA from rfl, mEqA, rowAt_nat, -List.getD_eq_getElem?_getD, eq4]
  refine ⟨fun h1 h2 => ⟨⟨h2, h1⟩, fun h3 => ?_, fun h3 => ?_⟩, fun h1 => ?_⟩
  · rw [w64 (by omega) (by omega), w64 (by omega) (by omega)]
    exact ⟨⟨i + 1, k + 1, by simp, by omega, by omega, by rw [← hI, within_hit h2 h1 h3]⟩, by omega⟩
  · rw [w64 (by omega) (by omega)]
    exact ⟨⟨i, k + 1, by simp, by omega, by omega, by rw [← hI, within_miss h2 h1 h3]⟩, by omega⟩
  · rw [← hI]
    by_cases h2 : i = a.asList.length
    · subst h2; simp [within]
    · have h3 : k = b.asList.length := by omega
      subst h3
      rw [List.drop_length, within_nil, tt_inj]
      simp
      omega)
theorem ok16 : Good1 Try.prog Φ g16 := good1 tok mixed (l := [g53]) (by simpa using ok53) Try.func16 (by decide) (by decide) v16_eq (args2 fun a b hw hp => by
  simp [g16] at hw
  have ha : (a.asList.length : Int) ≤ 140737488355328 := by have := hw.1.1; simp only [lenMax] at this; omega
  have hb : (b.asList.length : Int) ≤ 140737488355328 := by have := hw.2.1; simp only [lenMax] at this; omega
  show v16.wp Φ (fun l => l = [.bool (within (eqDs kA) a.asList b.asList)]) [a, b] _
  refine wp_loop' (fun v => ∃ i k : Nat, v = [.int i, .int k] ∧ i ≤ a.asList.length ∧ k ≤ b.asList.length ∧ within (eqDs kA) (a.asList.drop i) (b.asList.drop k) = within (eqDs kA) a.asList b.asList)
    (fun v => b.asList.length - (cell v 1).asInt.toNat) ⟨0, 0, by simp, by omega, by omega, by simp⟩ ?_
  simp [-tt_and]
  intro d e _ _ i k hd he hi hk hI
  subst hd he
  simp [show Φ 53 = mEqA kA from rfl, mEqA, rowAt_nat, -List.getD_eq_getElem?_getD, eq4]
  refine ⟨fun h1 => ⟨h1, fun h2 h3 => ?_, fun h3 => ?_⟩, fun h1 => ?_⟩
  · rw [w64 (by omega) (by omega), w64 (by omega) (by omega)]
    exact ⟨⟨i + 1, k + 1, by simp, by omega, by omega, by rw [← hI, within_hit h2 h1 h3]⟩, by omega⟩
  · rw [w64 (by omega) (by omega)]
    refine ⟨⟨i, k + 1, by simp, by omega, by omega, ?_⟩, by omega⟩
    rw [← hI]
    by_cases h2 : i < a.asList.length
    · rw [within_miss h2 h1 (h3 h2)]
    · have h4 : i = a.asList.length := by omega
      subst h4
      simp [within]
  · rw [← hI]
    have h3 : k = b.asList.length := by omega
    subst h3
    rw [List.drop_length, within_nil, tt_inj]
    simp
    omega)
theorem ok17 : Good1 Try.prog Φ g17 := good1 tok mixed (l := [g39]) (by simpa using ok39) Try.func17 (by decide) (by decide) v17_eq (args2 fun a b hw hp => by
  simp [g17] at hw
  exact eqV_wp (p := eqDs kA) (tests := [.op (.fn 39 1000) [mkE 4 (.var 0) (.var 2), mkE 4 (.var 1) (.var 2)]]) (t := .op (.fn 39 0) [mkE 4 (.var 0) (.var 2), mkE 4 (.var 1) (.var 2)]) hw.1.1
    (fun i h1 h2 => by simp only [conj_cons, conj_nil, den_op, dens_cons, dens_nil, op_fn, mkE_den, den_var, show Φ 39 = mEqA kA from rfl, mEqA, con_ok, con_zero]; simp only [List.getD_cons_zero, List.getD_cons_succ, D.asInt_int, D.asBool_bool, rowAt_nat, cell_zero, cell_succ, D.row_sl]; exact ⟨⟨trivial, trivial⟩, by simp [eq4, -List.getD_eq_getElem?_getD]⟩) _)
theorem szM_ok {n : Nat} {l : Int} (h : 0 ≤ szM n l) : (n : Int) ≤ l ∧ szM n l = l - n := by
  rcases Int.lt_or_le l n with h' | h'
  · rw [szM_neg h'] at h; omega
  · exact ⟨h', szM_pos h'⟩
theorem ok3 : Good1 Try.prog Φ g3 := good1 tok mixed (l := [g13, g14, g15, g16, g17]) (by simp [ok13, ok14, ok15, ok16, ok17]) Try.func3 (by decide) (by decide) v3_eq (args2 fun a b hw hp => by
  simp [v3, g3, Φ, mLaw, mSzL, mToL, mEqL, mWithin, szPre, toPreL, eqR_refl (eqDs_refl kA)]
  intro h1
  obtain ⟨h2, h3⟩ := szM_ok h1
  rw [h3]
  refine ⟨by omega, fun h4 => ?_⟩
  obtain ⟨h5, h6⟩ := szM_ok h4
  omega)
end Go.Proofs.Ytpgpkomolheinaa

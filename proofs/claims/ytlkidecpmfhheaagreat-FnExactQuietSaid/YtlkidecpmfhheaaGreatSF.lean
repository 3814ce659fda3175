import Derived.Test.YtlkidecpmfhheaaGreatSM
set_option linter.all false
namespace Go.Proofs.YtlkidecpmfhheaaGreat
open Go.Vx
theorem ok189 : Good1 Tryz.prog Φ g189 := good1 tok mixed (l := []) (by simp) Tryz.func189 (by decide) (by decide) v189_eq (args2 fun a b hw hp => by
 simp [g189] at hw
 exact eqV'_wp (Φ := Φ) (a := a) (b := b) (p := eqDs [.int .i64]) (tests := []) (t := .op (.bin .neq .i64) [.op (.fld 0) [mkE (.var 0) (.var 2)], .op (.fld 0) [mkE (.var 1) (.var 2)]]) hw.1.1
   (fun i h1 h2 => ⟨trivial, by simp [rowAt_nat, eqDs_cons, eqDs_nil, eqD_str, eqD_int, eqD_bool]⟩) _)
theorem ok111 : Good1 Tryz.prog Φ g111 := good1 tok mixed (l := []) (by simp) Tryz.func111 (by decide) (by decide) v111_eq (args2 fun a b hw hp => by
 simp [g111] at hw
 exact eqV'_wp (Φ := Φ) (a := a) (b := b) (p := eqDs [.str]) (tests := []) (t := .op (.sbin .neq) [.op (.fld 0) [mkE (.var 0) (.var 2)], .op (.fld 0) [mkE (.var 1) (.var 2)]]) hw.1.1
   (fun i h1 h2 => ⟨trivial, by simp [rowAt_nat, eqDs_cons, eqDs_nil, eqD_str, eqD_int, eqD_bool]⟩) _)
theorem ok152 : Good1 Tryz.prog Φ g152 := good1 tok mixed (l := []) (by simp) Tryz.func152 (by decide) (by decide) v152_eq (args2 fun a b hw hp => by
 simp [g152, show Φ 152 = mSzL [.int .i64] from rfl, mSzL, szPre] at hw hp
 exact szC_wp (fun _ => rfl) hw.1.1 hp _)
theorem ok77 : Good1 Tryz.prog Φ g77 := good1 tok mixed (l := []) (by simp) Tryz.func77 (by decide) (by decide) v77_eq (args2 fun a b hw hp => by
 simp [g77, show Φ 77 = mSzL [.str] from rfl, mSzL, szPre] at hw hp
 exact szT_wp hw.1.1 hw.1.2 hp _)
theorem ok172 : Good1 Tryz.prog Φ g172 := good1 tok mixed (l := []) (by simp) Tryz.func172 (by decide) (by decide) v172_eq (args1 fun a hw hp => by
 simp [g172, show Φ 172 = mToL [.int .i64] from rfl, mToL, toPreL] at hw hp
 exact toV'_wp (Φ := Φ) (a := a) (tests := []) (src := mkE (.var 0) (.var 1)) (bytes := (TT 3).bytes) (tid := 3) (ks := [.int .i64]) (ks' := [.int .i64]) (by decide) rfl (fun _ => rfl) (fun i x hi => ⟨trivial, fun j hj => by
   have hj0 : j = 0 := by simp at hj; omega
   subst hj0
   simp only [mkE_den, den_var, cell_zero, cell_succ, D.asInt_int, rowAt_nat, D.row_sl, cnDs_cons, cnD]⟩) hp _)
theorem ok94 : Good1 Tryz.prog Φ g94 := good1 tok mixed (l := []) (by simp) Tryz.func94 (by decide) (by decide) v94_eq (args1 fun a hw hp => by
 simp [g94, show Φ 94 = mToL [.str] from rfl, mToL, toPreL] at hw hp
 exact toV'_wp (Φ := Φ) (a := a) (tests := []) (src := mkE (.var 0) (.var 1)) (bytes := (TT 9).bytes) (tid := 9) (ks := [.str]) (ks' := [.str]) (by decide) rfl (fun _ => rfl) (fun i x hi => ⟨trivial, fun j hj => by
   have hj0 : j = 0 := by simp at hj; omega
   subst hj0
   simp only [mkE_den, den_var, cell_zero, cell_succ, D.asInt_int, rowAt_nat, D.row_sl, cnDs_cons, cnD]⟩) hp _)
theorem ok256 : Good1 Tryz.prog Φ g256 := good1 tok mixed (l := []) (by simp []) Tryz.func256 (by decide) (by decide) v256_eq (args2 fun a b hw hp => by
 simp [v256, Φ256, mEqA, mEqL, g256, eqDs_cons, eqDs_nil, eqD_str, eqD_int, eqD_bool, eqD_sl]
 simp +contextual <;> (intros; simp_all))
theorem ok188 : Good1 Tryz.prog Φ g188 := good1 tok mixed (l := [g256]) (by simpa using ok256) Tryz.func188 (by decide) (by decide) v188_eq (args2 fun a b hw hp => by
 simp [g188] at hw
 exact eqV_wp (Φ := Φ) (a := a) (b := b) (p := eqDs kLabel) (tests := [.op (.fn 256 1000) [mkE (.var 0) (.var 2), mkE (.var 1) (.var 2)]]) (t := .op (.fn 256 0) [mkE (.var 0) (.var 2), mkE (.var 1) (.var 2)]) hw.1.1
   (fun i h1 h2 => by simp only [conj_cons, conj_nil, den_op, dens_cons, dens_nil, op_fn, mkE_den, den_var, Φ256, mEqA, con_ok, con_zero, cell_zero, cell_succ, D.asInt_int, D.asBool_bool, rowAt_nat, cell_zero, cell_succ, D.row_sl]; exact ⟨⟨trivial, trivial⟩, trivial⟩) _)
theorem ok114 : Good1 Tryz.prog Φ g114 := good1 tok mixed (l := [g188]) (by simp [ok188]) Tryz.func114 (by decide) (by decide) v114_eq (args2 fun a b hw hp => by
 simp [v114, Φ114, Φ188, mEqA, mEqL, g114, eqDs_cons, eqDs_nil, eqD_str, eqD_int, eqD_bool, eqD_sl]
 simp +contextual <;> (intros; simp_all))
theorem ok46 : Good1 Tryz.prog Φ g46 := good1 tok mixed (l := [g114]) (by simpa using ok114) Tryz.func46 (by decide) (by decide) v46_eq (args2 fun a b hw hp => by
 simp [g46] at hw
 exact eqV_wp (Φ := Φ) (a := a) (b := b) (p := eqDs kAlarm) (tests := [.op (.fn 114 1000) [mkE (.var 0) (.var 2), mkE (.var 1) (.var 2)]]) (t := .op (.fn 114 0) [mkE (.var 0) (.var 2), mkE (.var 1) (.var 2)]) hw.1.1
   (fun i h1 h2 => by simp only [conj_cons, conj_nil, den_op, dens_cons, dens_nil, op_fn, mkE_den, den_var, Φ114, mEqA, con_ok, con_zero, cell_zero, cell_succ, D.asInt_int, D.asBool_bool, rowAt_nat, cell_zero, cell_succ, D.row_sl]; exact ⟨⟨trivial, trivial⟩, trivial⟩) _)
theorem ok255 : Good1 Tryz.prog Φ g255 := good1 tok mixed (l := [g46]) (by simp [ok46]) Tryz.func255 (by decide) (by decide) v255_eq (args2 fun a b hw hp => by
 simp [v255, Φ255, Φ46, mEqA, mEqL, g255, eqDs_cons, eqDs_nil, eqD_str, eqD_int, eqD_bool, eqD_sl]
 simp +contextual <;> (intros; simp_all))
theorem ok113 : Good1 Tryz.prog Φ g113 := good1 tok mixed (l := [g46]) (by simp [ok46]) Tryz.func113 (by decide) (by decide) v113_eq (args2 fun a b hw hp => by
 simp [v113, Φ113, Φ46, mEqA, mEqL, g113, eqDs_cons, eqDs_nil, eqD_str, eqD_int, eqD_bool, eqD_sl]
 simp +contextual <;> (intros; simp_all))
theorem ok116 : Good1 Tryz.prog Φ g116 := good1 tok mixed (l := []) (by simp []) Tryz.func116 (by decide) (by decide) v116_eq (args2 fun a b hw hp => by
 simp [v116, Φ116, mEqA, mEqL, g116, eqDs_cons, eqDs_nil, eqD_str, eqD_int, eqD_bool, eqD_sl]
 simp +contextual <;> (intros; simp_all))
theorem ok222 : Good1 Tryz.prog Φ g222 := good1 tok mixed (l := []) (by simp []) Tryz.func222 (by decide) (by decide) v222_eq (args2 fun a b hw hp => by
 simp [g222, show Φ 222 = mSzA kLabel' from rfl, mSzA, szPre] at hw hp
 have := szSV_wp (Φ := Φ) (env := [a, b]) (B := fun _ _ => False) [.s (.op (.fld 0) [.var 0]), .s (.op (.fld 1) [.var 0])] [(cell a.row 0).asStr.size, (cell a.row 1).asStr.size] (.var 1) b.asInt (by simp +contextual [stOk, hw, mSzL, mSzA, szPre, szD]) rfl (by simp) hp.1 hp.2
 have e : szDs kLabel' a.row = sumN [(cell a.row 0).asStr.size, (cell a.row 1).asStr.size] := by simp [szDs_cons, szDs_nil, szD, sumN] <;> omega
 show v222.wp Φ (fun l => l = [.int (szM (szDs kLabel' a.row) b.asInt)]) [a, b] _
 rw [e]
 exact this)
theorem ok151 : Good1 Tryz.prog Φ g151 := good1 tok mixed (l := [g222]) (by simpa using ok222) Tryz.func151 (by decide) (by decide) v151_eq (args2 fun a b hw hp => by
 simp [g151, Φ151, mSzL, szPre] at hw hp
 exact szV_wp (c := 222) (ks := kLabel') rfl hw.1.1 hp _)
theorem ok80 : Good1 Tryz.prog Φ g80 := good1 tok mixed (l := [g151]) (by simp [ok151]) Tryz.func80 (by decide) (by decide) v80_eq (args2 fun a b hw hp => by
 simp [g80, Φ80, mSzA, szPre] at hw hp
 have := szSV_wp (Φ := Φ) (env := [a, b]) (B := fun _ _ => False) [.c 151 (.op (.fld 0) [.var 0]), .s (.op (.fld 3) [.var 0])] [szD (.sl 238 kLabel') (cell a.row 0), (cell a.row 3).asStr.size] (.var 1) b.asInt (by simp +contextual [stOk, hw, Φ151, mSzL, mSzA, szPre, szD]) rfl (by simp) hp.1 hp.2
 have e : szDs kAlarm' a.row = sumN [szD (.sl 238 kLabel') (cell a.row 0), (cell a.row 3).asStr.size] := by simp [szDs_cons, szDs_nil, szD, sumN] <;> omega
 show v80.wp Φ (fun l => l = [.int (szM (szDs kAlarm' a.row) b.asInt)]) [a, b] _
 rw [e]
 exact this)
theorem ok22 : Good1 Tryz.prog Φ g22 := good1 tok mixed (l := [g80]) (by simpa using ok80) Tryz.func22 (by decide) (by decide) v22_eq (args2 fun a b hw hp => by
 simp [g22, Φ22, mSzL, szPre] at hw hp
 exact szV_wp (c := 80) (ks := kAlarm') rfl hw.1.1 hp _)
theorem ok221 : Good1 Tryz.prog Φ g221 := good1 tok mixed (l := [g22]) (by simp [ok22]) Tryz.func221 (by decide) (by decide) v221_eq (args2 fun a b hw hp => by
 simp [g221, show Φ 221 = mSzA kChain' from rfl, mSzA, szPre] at hw hp
 have := szSV_wp (Φ := Φ) (env := [a, b]) (B := fun _ _ => False) [.c 22 (.op (.fld 1) [.var 0])] [szD (.sl 114 kAlarm') (cell a.row 1)] (.var 1) b.asInt (by simp +contextual [stOk, hw, Φ22, mSzL, mSzA, szPre, szD]) rfl (by simp) hp.1 hp.2
 have e : szDs kChain' a.row = sumN [szD (.sl 114 kAlarm') (cell a.row 1)] := by simp [szDs_cons, szDs_nil, szD, sumN] <;> omega
 show v221.wp Φ (fun l => l = [.int (szM (szDs kChain' a.row) b.asInt)]) [a, b] _
 rw [e]
 exact this)
theorem ok79 : Good1 Tryz.prog Φ g79 := good1 tok mixed (l := [g22]) (by simp [ok22]) Tryz.func79 (by decide) (by decide) v79_eq (args2 fun a b hw hp => by
 simp [g79, show Φ 79 = mSzA kSub' from rfl, mSzA, szPre] at hw hp
 have := szSV_wp (Φ := Φ) (env := [a, b]) (B := fun _ _ => False) [.c 22 (.op (.fld 0) [.var 0])] [szD (.sl 114 kAlarm') (cell a.row 0)] (.var 1) b.asInt (by simp +contextual [stOk, hw, Φ22, mSzL, mSzA, szPre, szD]) rfl (by simp) hp.1 hp.2
 have e : szDs kSub' a.row = sumN [szD (.sl 114 kAlarm') (cell a.row 0)] := by simp [szDs_cons, szDs_nil, szD, sumN] <;> omega
 show v79.wp Φ (fun l => l = [.int (szM (szDs kSub' a.row) b.asInt)]) [a, b] _
 rw [e]
 exact this)
theorem ok238 : Good1 Tryz.prog Φ g238 := good1 tok mixed (l := []) (by simp []) Tryz.func238 (by decide) (by decide) v238_eq (args1 fun a hw hp => by
 simp [g238, Φ238, mToA, toPre, szDs_cons, szDs_nil, szD] at hp
 simp [v238, Φ238, mToA, mToL, toPre, toPreL, szDs_cons, szDs_nil, szD, g238, cnDs_cons, cnDs_nil, cnD] <;> omega)
theorem ok171 : Good1 Tryz.prog Φ g171 := good1 tok mixed (l := [g238]) (by simpa using ok238) Tryz.func171 (by decide) (by decide) v171_eq (args1 fun a hw hp => by
 simp [g171, Φ171, mToL, toPreL] at hw hp
 exact toV_wp (Φ := Φ) (a := a) (c := 238) (bytes := (TT 220).bytes) (tid := 220) (ks := kLabel') (ks' := kLabel) (by decide) rfl (fun _ => rfl) rfl hp _)
theorem ok97 : Good1 Tryz.prog Φ g97 := good1 tok mixed (l := [g171]) (by simp [ok171]) Tryz.func97 (by decide) (by decide) v97_eq (args1 fun a hw hp => by
 simp [g97, Φ97, mToA, toPre, szDs_cons, szDs_nil, szD] at hp
 simp [v97, Φ97, Φ171, mToA, mToL, toPre, toPreL, szDs_cons, szDs_nil, szD, g97, cnDs_cons, cnDs_nil, cnD] <;> omega)
theorem ok34 : Good1 Tryz.prog Φ g34 := good1 tok mixed (l := [g97]) (by simpa using ok97) Tryz.func34 (by decide) (by decide) v34_eq (args1 fun a hw hp => by
 simp [g34, Φ34, mToL, toPreL] at hw hp
 exact toV_wp (Φ := Φ) (a := a) (c := 97) (bytes := (TT 135).bytes) (tid := 135) (ks := kAlarm') (ks' := kAlarm) (by decide) rfl (fun _ => rfl) rfl hp _)
theorem ok237 : Good1 Tryz.prog Φ g237 := good1 tok mixed (l := [g34]) (by simp [ok34]) Tryz.func237 (by decide) (by decide) v237_eq (args1 fun a hw hp => by
 simp [g237, Φ237, mToA, toPre, szDs_cons, szDs_nil, szD] at hp
 simp [v237, Φ237, Φ34, mToA, mToL, toPre, toPreL, szDs_cons, szDs_nil, szD, g237, cnDs_cons, cnDs_nil, cnD] <;> omega)
theorem ok96 : Good1 Tryz.prog Φ g96 := good1 tok mixed (l := [g34]) (by simp [ok34]) Tryz.func96 (by decide) (by decide) v96_eq (args1 fun a hw hp => by
 simp [g96, Φ96, mToA, toPre, szDs_cons, szDs_nil, szD] at hp
 simp [v96, Φ96, Φ34, mToA, mToL, toPre, toPreL, szDs_cons, szDs_nil, szD, g96, cnDs_cons, cnDs_nil, cnD] <;> omega)
theorem ok99 : Good1 Tryz.prog Φ g99 := good1 tok mixed (l := []) (by simp []) Tryz.func99 (by decide) (by decide) v99_eq (args1 fun a hw hp => by
 simp [g99, Φ99, mToA, toPre, szDs_cons, szDs_nil, szD] at hp
 simp [v99, Φ99, mToA, mToL, toPre, toPreL, szDs_cons, szDs_nil, szD, g99, cnDs_cons, cnDs_nil, cnD] <;> omega)
theorem ok187 : Good1 Tryz.prog Φ g187 := good1 tok mixed (l := [g255]) (by simpa using ok255) Tryz.func187 (by decide) (by decide) v187_eq (args2 fun a b hw hp => by
 simp [g187] at hw
 exact eqV_wp (Φ := Φ) (a := a) (b := b) (p := eqDs kChain) (tests := [.op (.fn 255 1000) [mkE (.var 0) (.var 2), mkE (.var 1) (.var 2)]]) (t := .op (.fn 255 0) [mkE (.var 0) (.var 2), mkE (.var 1) (.var 2)]) hw.1.1
   (fun i h1 h2 => by simp only [conj_cons, conj_nil, den_op, dens_cons, dens_nil, op_fn, mkE_den, den_var, Φ255, mEqA, con_ok, con_zero, cell_zero, cell_succ, D.asInt_int, D.asBool_bool, rowAt_nat, cell_zero, cell_succ, D.row_sl]; exact ⟨⟨trivial, trivial⟩, trivial⟩) _)
theorem ok45 : Good1 Tryz.prog Φ g45 := good1 tok mixed (l := [g113]) (by simpa using ok113) Tryz.func45 (by decide) (by decide) v45_eq (args2 fun a b hw hp => by
 simp [g45] at hw
 exact eqV_wp (Φ := Φ) (a := a) (b := b) (p := eqDs kSub) (tests := [.op (.fn 113 1000) [mkE (.var 0) (.var 2), mkE (.var 1) (.var 2)]]) (t := .op (.fn 113 0) [mkE (.var 0) (.var 2), mkE (.var 1) (.var 2)]) hw.1.1
   (fun i h1 h2 => by simp only [conj_cons, conj_nil, den_op, dens_cons, dens_nil, op_fn, mkE_den, den_var, Φ113, mEqA, con_ok, con_zero, cell_zero, cell_succ, D.asInt_int, D.asBool_bool, rowAt_nat, cell_zero, cell_succ, D.row_sl]; exact ⟨⟨trivial, trivial⟩, trivial⟩) _)
theorem ok48 : Good1 Tryz.prog Φ g48 := good1 tok mixed (l := [g116]) (by simpa using ok116) Tryz.func48 (by decide) (by decide) v48_eq (args2 fun a b hw hp => by
 simp [g48] at hw
 exact eqV_wp (Φ := Φ) (a := a) (b := b) (p := eqDs kTimer) (tests := [.op (.fn 116 1000) [mkE (.var 0) (.var 2), mkE (.var 1) (.var 2)]]) (t := .op (.fn 116 0) [mkE (.var 0) (.var 2), mkE (.var 1) (.var 2)]) hw.1.1
   (fun i h1 h2 => by simp only [conj_cons, conj_nil, den_op, dens_cons, dens_nil, op_fn, mkE_den, den_var, Φ116, mEqA, con_ok, con_zero, cell_zero, cell_succ, D.asInt_int, D.asBool_bool, rowAt_nat, cell_zero, cell_succ, D.row_sl]; exact ⟨⟨trivial, trivial⟩, trivial⟩) _)
theorem ok150 : Good1 Tryz.prog Φ g150 := good1 tok mixed (l := [g221]) (by simpa using ok221) Tryz.func150 (by decide) (by decide) v150_eq (args2 fun a b hw hp => by
 simp [g150, Φ150, mSzL, szPre] at hw hp
 exact szV_wp (c := 221) (ks := kChain') rfl hw.1.1 hp _)
theorem ok21 : Good1 Tryz.prog Φ g21 := good1 tok mixed (l := [g79]) (by simpa using ok79) Tryz.func21 (by decide) (by decide) v21_eq (args2 fun a b hw hp => by
 simp [g21, Φ21, mSzL, szPre] at hw hp
 exact szV_wp (c := 79) (ks := kSub') rfl hw.1.1 hp _)
theorem ok24 : Good1 Tryz.prog Φ g24 := good1 tok mixed (l := []) (by simp) Tryz.func24 (by decide) (by decide) v24_eq (args2 fun a b hw hp => by
 simp [g24, Φ24, mSzL, szPre] at hw hp
 exact szC_wp (fun _ => rfl) hw.1.1 hp _)
theorem ok170 : Good1 Tryz.prog Φ g170 := good1 tok mixed (l := [g237]) (by simpa using ok237) Tryz.func170 (by decide) (by decide) v170_eq (args1 fun a hw hp => by
 simp [g170, Φ170, mToL, toPreL] at hw hp
 exact toV_wp (Φ := Φ) (a := a) (c := 237) (bytes := (TT 218).bytes) (tid := 218) (ks := kChain') (ks' := kChain) (by decide) rfl (fun _ => rfl) rfl hp _)
theorem ok33 : Good1 Tryz.prog Φ g33 := good1 tok mixed (l := [g96]) (by simpa using ok96) Tryz.func33 (by decide) (by decide) v33_eq (args1 fun a hw hp => by
 simp [g33, Φ33, mToL, toPreL] at hw hp
 exact toV_wp (Φ := Φ) (a := a) (c := 96) (bytes := (TT 132).bytes) (tid := 132) (ks := kSub') (ks' := kSub) (by decide) rfl (fun _ => rfl) rfl hp _)
theorem ok36 : Good1 Tryz.prog Φ g36 := good1 tok mixed (l := [g99]) (by simpa using ok99) Tryz.func36 (by decide) (by decide) v36_eq (args1 fun a hw hp => by
 simp [g36, Φ36, mToL, toPreL] at hw hp
 exact toV_wp (Φ := Φ) (a := a) (c := 99) (bytes := (TT 143).bytes) (tid := 143) (ks := kTimer') (ks' := kTimer) (by decide) rfl (fun _ => rfl) rfl hp _)
theorem ok112 : Good1 Tryz.prog Φ g112 := good1 tok mixed (l := [g187]) (by simp [ok187]) Tryz.func112 (by decide) (by decide) v112_eq (args2 fun a b hw hp => by
 simp [v112, Φ112, show Φ 187 = mEqL kChain from rfl, mEqA, mEqL, g112, eqDs_cons, eqDs_nil, eqD_str, eqD_int, eqD_bool, eqD_sl]
 simp +contextual <;> (intros; simp_all))
theorem ok78 : Good1 Tryz.prog Φ g78 := good1 tok mixed (l := [g150]) (by simp [ok150]) Tryz.func78 (by decide) (by decide) v78_eq (args2 fun a b hw hp => by
 simp [g78, show Φ 78 = mSzA kPart' from rfl, mSzA, szPre] at hw hp
 have := szSV_wp (Φ := Φ) (env := [a, b]) (B := fun _ _ => False) [.c 150 (.op (.fld 2) [.var 0])] [szD (.sl 236 kChain') (cell a.row 2)] (.var 1) b.asInt (by simp +contextual [stOk, hw, Φ150, mSzL, mSzA, szPre, szD]) rfl (by simp) hp.1 hp.2
 have e : szDs kPart' a.row = sumN [szD (.sl 236 kChain') (cell a.row 2)] := by simp [szDs_cons, szDs_nil, szD, sumN] <;> omega
 show v78.wp Φ (fun l => l = [.int (szM (szDs kPart' a.row) b.asInt)]) [a, b] _
 rw [e]
 exact this)
theorem ok95 : Good1 Tryz.prog Φ g95 := good1 tok mixed (l := [g170]) (by simp [ok170]) Tryz.func95 (by decide) (by decide) v95_eq (args1 fun a hw hp => by
 simp [g95, Φ95, mToA, toPre, szDs_cons, szDs_nil, szD] at hp
 simp [v95, Φ95, Φ170, mToA, mToL, toPre, toPreL, szDs_cons, szDs_nil, szD, g95, cnDs_cons, cnDs_nil, cnD] <;> omega)
theorem ok44 : Good1 Tryz.prog Φ g44 := good1 tok mixed (l := [g112]) (by simpa using ok112) Tryz.func44 (by decide) (by decide) v44_eq (args2 fun a b hw hp => by
 simp [g44] at hw
 exact eqV_wp (Φ := Φ) (a := a) (b := b) (p := eqDs kPart) (tests := [.op (.fn 112 1000) [mkE (.var 0) (.var 2), mkE (.var 1) (.var 2)]]) (t := .op (.fn 112 0) [mkE (.var 0) (.var 2), mkE (.var 1) (.var 2)]) hw.1.1
   (fun i h1 h2 => by simp only [conj_cons, conj_nil, den_op, dens_cons, dens_nil, op_fn, mkE_den, den_var, Φ112, mEqA, con_ok, con_zero, cell_zero, cell_succ, D.asInt_int, D.asBool_bool, rowAt_nat, cell_zero, cell_succ, D.row_sl]; exact ⟨⟨trivial, trivial⟩, trivial⟩) _)
theorem ok20 : Good1 Tryz.prog Φ g20 := good1 tok mixed (l := [g78]) (by simpa using ok78) Tryz.func20 (by decide) (by decide) v20_eq (args2 fun a b hw hp => by
 simp [g20, Φ20, mSzL, szPre] at hw hp
 exact szV_wp (c := 78) (ks := kPart') rfl hw.1.1 hp _)
theorem ok32 : Good1 Tryz.prog Φ g32 := good1 tok mixed (l := [g95]) (by simpa using ok95) Tryz.func32 (by decide) (by decide) v32_eq (args1 fun a hw hp => by
 simp [g32, Φ32, mToL, toPreL] at hw hp
 exact toV_wp (Φ := Φ) (a := a) (c := 95) (bytes := (TT 147).bytes) (tid := 147) (ks := kPart') (ks' := kPart) (by decide) rfl (fun _ => rfl) rfl hp _)
theorem ok117 : Good1 Tryz.prog Φ g117 := good1 tok mixed (l := [g46, g188]) (by simp [ok46, ok188]) Tryz.func117 (by decide) (by decide) v117_eq (args2 fun a b hw hp => by
 simp [v117, Φ117, Φ46, Φ188, mEqA, mEqL, g117, eqDs_cons, eqDs_nil, eqD_str, eqD_int, eqD_bool, eqD_sl]
 simp +contextual <;> (intros; simp_all))
theorem ok82 : Good1 Tryz.prog Φ g82 := good1 tok mixed (l := [g22, g151]) (by simp [ok22, ok151]) Tryz.func82 (by decide) (by decide) v82_eq (args2 fun a b hw hp => by
 simp [g82, show Φ 82 = mSzA kBatch' from rfl, mSzA, szPre] at hw hp
 have := szSV_wp (Φ := Φ) (env := [a, b]) (B := fun _ _ => False) [.c 151 (.op (.fld 1) [.var 0]), .c 22 (.op (.fld 3) [.var 0])] [szD (.sl 238 kLabel') (cell a.row 1), szD (.sl 114 kAlarm') (cell a.row 3)] (.var 1) b.asInt (by simp +contextual [stOk, hw, Φ22, Φ151, mSzL, mSzA, szPre, szD]) rfl (by simp) hp.1 hp.2
 have e : szDs kBatch' a.row = sumN [szD (.sl 238 kLabel') (cell a.row 1), szD (.sl 114 kAlarm') (cell a.row 3)] := by simp [szDs_cons, szDs_nil, szD, sumN] <;> omega
 show v82.wp Φ (fun l => l = [.int (szM (szDs kBatch' a.row) b.asInt)]) [a, b] _
 rw [e]
 exact this)
theorem ok100 : Good1 Tryz.prog Φ g100 := good1 tok mixed (l := [g34, g171]) (by simp [ok34, ok171]) Tryz.func100 (by decide) (by decide) v100_eq (args1 fun a hw hp => by
 simp [g100, Φ100, mToA, toPre, szDs_cons, szDs_nil, szD] at hp
 simp [v100, Φ100, Φ34, Φ171, mToA, mToL, toPre, toPreL, szDs_cons, szDs_nil, szD, g100, cnDs_cons, cnDs_nil, cnD] <;> omega)
theorem ok49 : Good1 Tryz.prog Φ g49 := good1 tok mixed (l := [g117]) (by simpa using ok117) Tryz.func49 (by decide) (by decide) v49_eq (args2 fun a b hw hp => by
 simp [g49] at hw
 exact eqV_wp (Φ := Φ) (a := a) (b := b) (p := eqDs kBatch) (tests := [.op (.fn 117 1000) [mkE (.var 0) (.var 2), mkE (.var 1) (.var 2)]]) (t := .op (.fn 117 0) [mkE (.var 0) (.var 2), mkE (.var 1) (.var 2)]) hw.1.1
   (fun i h1 h2 => by simp only [conj_cons, conj_nil, den_op, dens_cons, dens_nil, op_fn, mkE_den, den_var, Φ117, mEqA, con_ok, con_zero, cell_zero, cell_succ, D.asInt_int, D.asBool_bool, rowAt_nat, cell_zero, cell_succ, D.row_sl]; exact ⟨⟨trivial, trivial⟩, trivial⟩) _)
theorem ok25 : Good1 Tryz.prog Φ g25 := good1 tok mixed (l := [g82]) (by simpa using ok82) Tryz.func25 (by decide) (by decide) v25_eq (args2 fun a b hw hp => by
 simp [g25, Φ25, mSzL, szPre] at hw hp
 exact szV_wp (c := 82) (ks := kBatch') rfl hw.1.1 hp _)
theorem ok37 : Good1 Tryz.prog Φ g37 := good1 tok mixed (l := [g100]) (by simpa using ok100) Tryz.func37 (by decide) (by decide) v37_eq (args1 fun a hw hp => by
 simp [g37, Φ37, mToL, toPreL] at hw hp
 exact toV_wp (Φ := Φ) (a := a) (c := 100) (bytes := (TT 157).bytes) (tid := 157) (ks := kBatch') (ks' := kBatch) (by decide) rfl (fun _ => rfl) rfl hp _)
theorem ok115 : Good1 Tryz.prog Φ g115 := good1 tok mixed (l := [g46, g188]) (by simp [ok46, ok188]) Tryz.func115 (by decide) (by decide) v115_eq (args2 fun a b hw hp => by
 simp [v115, Φ115, Φ46, Φ188, mEqA, mEqL, g115, eqDs_cons, eqDs_nil, eqD_str, eqD_int, eqD_bool, eqD_sl]
 simp +contextual <;> (intros; simp_all))
theorem ok81 : Good1 Tryz.prog Φ g81 := good1 tok mixed (l := [g22, g151]) (by simp [ok22, ok151]) Tryz.func81 (by decide) (by decide) v81_eq (args2 fun a b hw hp => by
 simp [g81, show Φ 81 = mSzA kGroup' from rfl, mSzA, szPre] at hw hp
 have := szSV_wp (Φ := Φ) (env := [a, b]) (B := fun _ _ => False) [.c 151 (.op (.fld 1) [.var 0]), .c 22 (.op (.fld 4) [.var 0])] [szD (.sl 238 kLabel') (cell a.row 1), szD (.sl 114 kAlarm') (cell a.row 4)] (.var 1) b.asInt (by simp +contextual [stOk, hw, Φ22, Φ151, mSzL, mSzA, szPre, szD]) rfl (by simp) hp.1 hp.2
 have e : szDs kGroup' a.row = sumN [szD (.sl 238 kLabel') (cell a.row 1), szD (.sl 114 kAlarm') (cell a.row 4)] := by simp [szDs_cons, szDs_nil, szD, sumN] <;> omega
 show v81.wp Φ (fun l => l = [.int (szM (szDs kGroup' a.row) b.asInt)]) [a, b] _
 rw [e]
 exact this)
theorem ok98 : Good1 Tryz.prog Φ g98 := good1 tok mixed (l := [g34, g171]) (by simp [ok34, ok171]) Tryz.func98 (by decide) (by decide) v98_eq (args1 fun a hw hp => by
 simp [g98, Φ98, mToA, toPre, szDs_cons, szDs_nil, szD] at hp
 simp [v98, Φ98, Φ34, Φ171, mToA, mToL, toPre, toPreL, szDs_cons, szDs_nil, szD, g98, cnDs_cons, cnDs_nil, cnD] <;> omega)
theorem ok47 : Good1 Tryz.prog Φ g47 := good1 tok mixed (l := [g115]) (by simpa using ok115) Tryz.func47 (by decide) (by decide) v47_eq (args2 fun a b hw hp => by
 simp [g47] at hw
 exact eqV_wp (Φ := Φ) (a := a) (b := b) (p := eqDs kGroup) (tests := [.op (.fn 115 1000) [mkE (.var 0) (.var 2), mkE (.var 1) (.var 2)]]) (t := .op (.fn 115 0) [mkE (.var 0) (.var 2), mkE (.var 1) (.var 2)]) hw.1.1
   (fun i h1 h2 => by simp only [conj_cons, conj_nil, den_op, dens_cons, dens_nil, op_fn, mkE_den, den_var, Φ115, mEqA, con_ok, con_zero, cell_zero, cell_succ, D.asInt_int, D.asBool_bool, rowAt_nat, cell_zero, cell_succ, D.row_sl]; exact ⟨⟨trivial, trivial⟩, trivial⟩) _)
theorem ok23 : Good1 Tryz.prog Φ g23 := good1 tok mixed (l := [g81]) (by simpa using ok81) Tryz.func23 (by decide) (by decide) v23_eq (args2 fun a b hw hp => by
 simp [g23, Φ23, mSzL, szPre] at hw hp
 exact szV_wp (c := 81) (ks := kGroup') rfl hw.1.1 hp _)
theorem ok35 : Good1 Tryz.prog Φ g35 := good1 tok mixed (l := [g98]) (by simpa using ok98) Tryz.func35 (by decide) (by decide) v35_eq (args1 fun a hw hp => by
 simp [g35, Φ35, mToL, toPreL] at hw hp
 exact toV_wp (Φ := Φ) (a := a) (c := 98) (bytes := (TT 152).bytes) (tid := 152) (ks := kGroup') (ks' := kGroup) (by decide) rfl (fun _ => rfl) rfl hp _)
theorem ok43 : Good1 Tryz.prog Φ g43 := good1 tok mixed (l := [g111]) (by simp [ok111]) Tryz.func43 (by decide) (by decide) v43_eq (args2 fun a b hw hp => by
 simp [v43, Φ43, show Φ 111 = mEqL [.str] from rfl, mEqA, mEqL, g43, eqDs_cons, eqDs_nil, eqD_str, eqD_int, eqD_bool, eqD_sl]
 simp +contextual <;> (intros; simp_all))
theorem ok19 : Good1 Tryz.prog Φ g19 := good1 tok mixed (l := [g77]) (by simp [ok77]) Tryz.func19 (by decide) (by decide) v19_eq (args2 fun a b hw hp => by
 simp [g19, Φ19, mSzA, szPre] at hw hp
 have := szSV_wp (Φ := Φ) (env := [a, b]) (B := fun _ _ => False) [.c 77 (.op (.fld 5) [.var 0])] [szD (.sl 9 [.str]) (cell a.row 5)] (.var 1) b.asInt (by simp +contextual [stOk, hw, show Φ 77 = mSzL [.str] from rfl, mSzL, mSzA, szPre, szD]) rfl (by simp) hp.1 hp.2
 have e : szDs kConf' a.row = sumN [szD (.sl 9 [.str]) (cell a.row 5)] := by simp [szDs_cons, szDs_nil, szD, sumN] <;> omega
 show v19.wp Φ (fun l => l = [.int (szM (szDs kConf' a.row) b.asInt)]) [a, b] _
 rw [e]
 exact this)
theorem ok31 : Good1 Tryz.prog Φ g31 := good1 tok mixed (l := [g94]) (by simp [ok94]) Tryz.func31 (by decide) (by decide) v31_eq (args1 fun a hw hp => by
 simp [g31, Φ31, mToA, toPre, szDs_cons, szDs_nil, szD] at hp
 simp [v31, Φ31, show Φ 94 = mToL [.str] from rfl, mToA, mToL, toPre, toPreL, szDs_cons, szDs_nil, szD, g31, cnDs_cons, cnDs_nil, cnD] <;> omega)
theorem ok118 : Good1 Tryz.prog Φ g118 := good1 tok mixed (l := [g46, g114, g188, g189]) (by simp [ok46, ok114, ok188, ok189]) Tryz.func118 (by decide) (by decide) v118_eq (args2 fun a b hw hp => by
 simp [v118, Φ118, Φ46, Φ114, Φ188, show Φ 189 = mEqL [.int .i64] from rfl, mEqA, mEqL, g118, eqDs_cons, eqDs_nil, eqD_str, eqD_int, eqD_bool, eqD_sl]
 simp +contextual <;> (intros; simp_all))
theorem ok83 : Good1 Tryz.prog Φ g83 := good1 tok mixed (l := [g22, g80, g151, g152]) (by simp [ok22, ok80, ok151, ok152]) Tryz.func83 (by decide) (by decide) v83_eq (args2 fun a b hw hp => by
 simp [g83, show Φ 83 = mSzA kTask' from rfl, mSzA, szPre] at hw hp
 have := szSV_wp (Φ := Φ) (env := [a, b]) (B := fun _ _ => False) [.c 80 (.op .mk [.op (.fld 2) [.var 0], .op (.fld 3) [.var 0], .op (.fld 4) [.var 0], .op (.fld 5) [.var 0]]), .c 151 (.op (.fld 6) [.var 0]), .c 152 (.op (.fld 8) [.var 0]), .c 22 (.op (.fld 9) [.var 0])] [szDs kAlarm' [cell a.row 2, cell a.row 3, cell a.row 4, cell a.row 5], szD (.sl 238 kLabel') (cell a.row 6), szD (.sl 3 [.int .i64]) (cell a.row 8), szD (.sl 114 kAlarm') (cell a.row 9)] (.var 1) b.asInt (by simp +contextual [stOk, hw, Φ22, Φ80, Φ151, show Φ 152 = mSzL [.int .i64] from rfl, mSzL, mSzA, szPre, szD]) rfl (by simp) hp.1 hp.2
 have e : szDs kTask' a.row = sumN [szDs kAlarm' [cell a.row 2, cell a.row 3, cell a.row 4, cell a.row 5], szD (.sl 238 kLabel') (cell a.row 6), szD (.sl 3 [.int .i64]) (cell a.row 8), szD (.sl 114 kAlarm') (cell a.row 9)] := by simp [szDs_cons, szDs_nil, szD, sumN] <;> omega
 show v83.wp Φ (fun l => l = [.int (szM (szDs kTask' a.row) b.asInt)]) [a, b] _
 rw [e]
 exact this)
theorem ok101 : Good1 Tryz.prog Φ g101 := good1 tok mixed (l := [g34, g97, g171, g172]) (by simp [ok34, ok97, ok171, ok172]) Tryz.func101 (by decide) (by decide) v101_eq (args1 fun a hw hp => by
 simp [g101, Φ101, mToA, toPre, szDs_cons, szDs_nil, szD] at hp
 simp [v101, Φ101, Φ34, Φ97, Φ171, show Φ 172 = mToL [.int .i64] from rfl, mToA, mToL, toPre, toPreL, szDs_cons, szDs_nil, szD, g101, cnDs_cons, cnDs_nil, cnD] <;> omega)
theorem ok50 : Good1 Tryz.prog Φ g50 := good1 tok mixed (l := [g118]) (by simpa using ok118) Tryz.func50 (by decide) (by decide) v50_eq (args2 fun a b hw hp => by
 simp [g50] at hw
 exact eqV_wp (Φ := Φ) (a := a) (b := b) (p := eqDs kTask) (tests := [.op (.fn 118 1000) [mkE (.var 0) (.var 2), mkE (.var 1) (.var 2)]]) (t := .op (.fn 118 0) [mkE (.var 0) (.var 2), mkE (.var 1) (.var 2)]) hw.1.1
   (fun i h1 h2 => by simp only [conj_cons, conj_nil, den_op, dens_cons, dens_nil, op_fn, mkE_den, den_var, Φ118, mEqA, con_ok, con_zero, cell_zero, cell_succ, D.asInt_int, D.asBool_bool, rowAt_nat, cell_zero, cell_succ, D.row_sl]; exact ⟨⟨trivial, trivial⟩, trivial⟩) _)
theorem ok26 : Good1 Tryz.prog Φ g26 := good1 tok mixed (l := [g83]) (by simpa using ok83) Tryz.func26 (by decide) (by decide) v26_eq (args2 fun a b hw hp => by
 simp [g26, Φ26, mSzL, szPre] at hw hp
 exact szV_wp (c := 83) (ks := kTask') rfl hw.1.1 hp _)
theorem ok38 : Good1 Tryz.prog Φ g38 := good1 tok mixed (l := [g101]) (by simpa using ok101) Tryz.func38 (by decide) (by decide) v38_eq (args1 fun a hw hp => by
 simp [g38, Φ38, mToL, toPreL] at hw hp
 exact toV_wp (Φ := Φ) (a := a) (c := 101) (bytes := (TT 141).bytes) (tid := 141) (ks := kTask') (ks' := kTask) (by decide) rfl (fun _ => rfl) rfl hp _)
theorem ok119 : Good1 Tryz.prog Φ g119 := good1 tok mixed (l := [g46, g114, g188]) (by simp [ok46, ok114, ok188]) Tryz.func119 (by decide) (by decide) v119_eq (args2 fun a b hw hp => by
 simp [v119, Φ119, Φ46, Φ114, Φ188, mEqA, mEqL, g119, eqDs_cons, eqDs_nil, eqD_str, eqD_int, eqD_bool, eqD_sl]
 simp +contextual <;> (intros; simp_all))
theorem ok84 : Good1 Tryz.prog Φ g84 := good1 tok mixed (l := [g22, g80, g151]) (by simp [ok22, ok80, ok151]) Tryz.func84 (by decide) (by decide) v84_eq (args2 fun a b hw hp => by
 simp [g84, show Φ 84 = mSzA kDeed' from rfl, mSzA, szPre] at hw hp
 have := szSV_wp (Φ := Φ) (env := [a, b]) (B := fun _ _ => False) [.c 80 (.op .mk [.op (.fld 2) [.var 0], .op (.fld 3) [.var 0], .op (.fld 4) [.var 0], .op (.fld 5) [.var 0]]), .c 151 (.op (.fld 6) [.var 0]), .c 22 (.op (.fld 10) [.var 0])] [szDs kAlarm' [cell a.row 2, cell a.row 3, cell a.row 4, cell a.row 5], szD (.sl 238 kLabel') (cell a.row 6), szD (.sl 114 kAlarm') (cell a.row 10)] (.var 1) b.asInt (by simp +contextual [stOk, hw, Φ22, Φ80, Φ151, mSzL, mSzA, szPre, szD]) rfl (by simp) hp.1 hp.2
 have e : szDs kDeed' a.row = sumN [szDs kAlarm' [cell a.row 2, cell a.row 3, cell a.row 4, cell a.row 5], szD (.sl 238 kLabel') (cell a.row 6), szD (.sl 114 kAlarm') (cell a.row 10)] := by simp [szDs_cons, szDs_nil, szD, sumN] <;> omega
 show v84.wp Φ (fun l => l = [.int (szM (szDs kDeed' a.row) b.asInt)]) [a, b] _
 rw [e]
 exact this)
theorem ok102 : Good1 Tryz.prog Φ g102 := good1 tok mixed (l := [g34, g97, g171]) (by simp [ok34, ok97, ok171]) Tryz.func102 (by decide) (by decide) v102_eq (args1 fun a hw hp => by
 simp [g102, Φ102, mToA, toPre, szDs_cons, szDs_nil, szD] at hp
 simp [v102, Φ102, Φ34, Φ97, Φ171, mToA, mToL, toPre, toPreL, szDs_cons, szDs_nil, szD, g102, cnDs_cons, cnDs_nil, cnD] <;> omega)
theorem ok51 : Good1 Tryz.prog Φ g51 := good1 tok mixed (l := [g119]) (by simpa using ok119) Tryz.func51 (by decide) (by decide) v51_eq (args2 fun a b hw hp => by
 simp [g51] at hw
 exact eqV_wp (Φ := Φ) (a := a) (b := b) (p := eqDs kDeed) (tests := [.op (.fn 119 1000) [mkE (.var 0) (.var 2), mkE (.var 1) (.var 2)]]) (t := .op (.fn 119 0) [mkE (.var 0) (.var 2), mkE (.var 1) (.var 2)]) hw.1.1
   (fun i h1 h2 => by simp only [conj_cons, conj_nil, den_op, dens_cons, dens_nil, op_fn, mkE_den, den_var, Φ119, mEqA, con_ok, con_zero, cell_zero, cell_succ, D.asInt_int, D.asBool_bool, rowAt_nat, cell_zero, cell_succ, D.row_sl]; exact ⟨⟨trivial, trivial⟩, trivial⟩) _)
theorem ok27 : Good1 Tryz.prog Φ g27 := good1 tok mixed (l := [g84]) (by simpa using ok84) Tryz.func27 (by decide) (by decide) v27_eq (args2 fun a b hw hp => by
 simp [g27, Φ27, mSzL, szPre] at hw hp
 exact szV_wp (c := 84) (ks := kDeed') rfl hw.1.1 hp _)
theorem ok39 : Good1 Tryz.prog Φ g39 := good1 tok mixed (l := [g102]) (by simpa using ok102) Tryz.func39 (by decide) (by decide) v39_eq (args1 fun a hw hp => by
 simp [g39, Φ39, mToL, toPreL] at hw hp
 exact toV_wp (Φ := Φ) (a := a) (c := 102) (bytes := (TT 137).bytes) (tid := 137) (ks := kDeed') (ks' := kDeed) (by decide) rfl (fun _ => rfl) rfl hp _)
theorem ok10 : Good1 Tryz.prog Φ g10 := good1 tok mixed (l := [g43, g44, g45, g46, g47, g48, g49, g50, g51]) (by simp [ok43, ok44, ok45, ok46, ok47, ok48, ok49, ok50, ok51]) Tryz.func10 (by decide) (by decide) v10_eq (args2 fun a b hw hp => by
 simp [v10, Φ10, Φ43, show Φ 44 = mEqL kPart from rfl, show Φ 45 = mEqL kSub from rfl, Φ46, show Φ 47 = mEqL kGroup from rfl, show Φ 48 = mEqL kTimer from rfl, show Φ 49 = mEqL kBatch from rfl, show Φ 50 = mEqL kTask from rfl, show Φ 51 = mEqL kDeed from rfl, mEqA, mEqL, g10, eqDs_cons, eqDs_nil, eqD_str, eqD_int, eqD_bool, eqD_sl]
 simp +contextual <;> (intros; simp_all))
theorem ok6 : Good1 Tryz.prog Φ g6 := good1 tok mixed (l := [g19, g20, g21, g22, g23, g24, g25, g26, g27]) (by simp [ok19, ok20, ok21, ok22, ok23, ok24, ok25, ok26, ok27]) Tryz.func6 (by decide) (by decide) v6_eq (args2 fun a b hw hp => by
 simp [g6, Φ6, mSzA, szPre] at hw hp
 have := szSV_wp (Φ := Φ) (env := [a, b]) (B := fun _ _ => False) [.c 19 (.var 0), .c 20 (.op (.fld 8) [.var 0]), .c 21 (.op (.fld 9) [.var 0]), .c 22 (.op (.fld 10) [.var 0]), .c 23 (.op (.fld 12) [.var 0]), .c 24 (.op (.fld 14) [.var 0]), .c 25 (.op (.fld 15) [.var 0]), .c 22 (.op (.fld 16) [.var 0]), .c 26 (.op (.fld 17) [.var 0]), .c 27 (.op (.fld 18) [.var 0])] [szDs kConf' a.row, szD (.sl 107 kPart') (cell a.row 8), szD (.sl 110 kSub') (cell a.row 9), szD (.sl 114 kAlarm') (cell a.row 10), szD (.sl 117 kGroup') (cell a.row 12), szD (.sl 155 kTimer') (cell a.row 14), szD (.sl 120 kBatch') (cell a.row 15), szD (.sl 114 kAlarm') (cell a.row 16), szD (.sl 123 kTask') (cell a.row 17), szD (.sl 126 kDeed') (cell a.row 18)] (.var 1) b.asInt (by simp +contextual [stOk, hw, Φ19, Φ20, Φ21, Φ22, Φ23, Φ24, Φ25, Φ26, Φ27, mSzL, mSzA, szPre, szD]) rfl (by simp) hp.1 hp.2
 have e : szDs kWorld' a.row = sumN [szDs kConf' a.row, szD (.sl 107 kPart') (cell a.row 8), szD (.sl 110 kSub') (cell a.row 9), szD (.sl 114 kAlarm') (cell a.row 10), szD (.sl 117 kGroup') (cell a.row 12), szD (.sl 155 kTimer') (cell a.row 14), szD (.sl 120 kBatch') (cell a.row 15), szD (.sl 114 kAlarm') (cell a.row 16), szD (.sl 123 kTask') (cell a.row 17), szD (.sl 126 kDeed') (cell a.row 18)] := by simp [szDs_cons, szDs_nil, szD, sumN] <;> omega
 show v6.wp Φ (fun l => l = [.int (szM (szDs kWorld' a.row) b.asInt)]) [a, b] _
 rw [e]
 exact this)
theorem ok8 : Good1 Tryz.prog Φ g8 := good1 tok mixed (l := [g31, g32, g33, g34, g35, g36, g37, g38, g39]) (by simp [ok31, ok32, ok33, ok34, ok35, ok36, ok37, ok38, ok39]) Tryz.func8 (by decide) (by decide) v8_eq (args1 fun a hw hp => by
 simp [g8, Φ8, mToA, toPre, szDs_cons, szDs_nil, szD] at hp
 simp [v8, Φ8, Φ31, Φ32, Φ33, Φ34, Φ35, Φ36, Φ37, Φ38, Φ39, mToA, mToL, toPre, toPreL, szDs_cons, szDs_nil, szD, g8, cnDs_cons, cnDs_nil, cnD] <;> omega)
end Go.Proofs.YtlkidecpmfhheaaGreat

/-
  Order.
-/
import Derived.Test.YtllhihloidkghaaW11
import Derived.Test.YtllhihloidkghaaVxe
set_option linter.unusedVariables false
set_option linter.unusedSimpArgs false
namespace Go.Proofs.Ytllhihloidkghaa
open Go Go.Proofs Go.Shelf Go.RowKit Go.Lib Go.Sort Go.Vx

theorem arr26 {a : Array Value} (h : a.size = 26) : ∃ t0 t1 t2 t3 t4 t5 t6 t7 t8 t9 t10 t11 t12 t13 t14 t15 t16 t17 t18 t19 t20 t21 t22 t23 t24 t25 : Value, a = #[t0, t1, t2, t3, t4, t5, t6, t7, t8, t9, t10, t11, t12, t13, t14, t15, t16, t17, t18, t19, t20, t21, t22, t23, t24, t25] := by
  obtain ⟨l⟩ := a
  rcases l with _ | ⟨t0, _ | ⟨t1, _ | ⟨t2, _ | ⟨t3, _ | ⟨t4, _ | ⟨t5, _ | ⟨t6, _ | ⟨t7, _ | ⟨t8, _ | ⟨t9, _ | ⟨t10, _ | ⟨t11, _ | ⟨t12, _ | ⟨t13, _ | ⟨t14, _ | ⟨t15, _ | ⟨t16, _ | ⟨t17, _ | ⟨t18, _ | ⟨t19, _ | ⟨t20, _ | ⟨t21, _ | ⟨t22, _ | ⟨t23, _ | ⟨t24, _ | ⟨t25, _ | ⟨x, l⟩⟩⟩⟩⟩⟩⟩⟩⟩⟩⟩⟩⟩⟩⟩⟩⟩⟩⟩⟩⟩⟩⟩⟩⟩⟩⟩
  all_goals first
    | (simp at h; done)
    | exact ⟨_, _, _, _, _, _, _, _, _, _, _, _, _, _, _, _, _, _, _, _, _, _, _, _, _, _, rfl⟩
    | (simp at h; omega)

noncomputable def ordX : Code := match Try.f82.body with
  | some (.seq x (.seq _ (.seq _ _))) => x
  | _ => .skip
noncomputable def ordY : Code := match Try.f82.body with
  | some (.seq _ (.seq y (.seq _ _))) => y
  | _ => .skip
noncomputable def ordZ : Code := match Try.f82.body with
  | some (.seq _ (.seq _ (.seq z _))) => z
  | _ => .skip
theorem ord_body : Try.f82.body = some (.seq ordX (.seq ordY (.seq ordZ ordTail))) := rfl

def vOrd : VC := .loop 3 0 2 [(.int .i64, 1), (.sl 3 [.int .i64], 2)] [.int 0, .nl] (.ite (.op (.bin .lss .i64) [.var 1, .op .len [.var 0]]) (.req [.op .le [.int 0, .var 1], .op .lt [.var 1, .op .len [.var 0]]] (.ite (.op (.bin .neq .i64) [.op (.fld 13) [.op .row [.var 0, .var 1]], .int (-1)]) (.req [.op (.appfit 8) [.op .asl [.var 2], .op .asl [.op (.rows 1) [.var 1]]]] (.back 0 [.op (.bin .add .i64) [.var 1, .int 1], .op .lapp [.op .asl [.var 2], .op .asl [.op (.rows 1) [.var 1]]]])) (.back 0 [.op (.bin .add .i64) [.var 1, .int 1], .var 2]))) (.ret [.var 0, .var 2]))
theorem vOrd_eq : run TT (sigs []) (gen [⟨3, [], [1000000], false⟩] [1, 3]) (endBox 1 3 26 (.sl 76 kDeed) 70 3 [.int .i64]) 2000 1 (Vx.start g82.args 26) [.code ordX, .code ordY, .code ordZ] = some vOrd := by kernel_rfl

theorem seq3 {P : Program} {x y z t : Code} {Q : Exit → Act → World → Prop} {a : Act} {w : World} (h : x.wp P (Exit.then (y.wp P (Exit.then (z.wp P (Exit.then (t.wp P Q) Q)) (Exit.then (t.wp P Q) Q))) (Exit.then (z.wp P (Exit.then (t.wp P Q) Q)) (Exit.then (t.wp P Q) Q))) a w) :
    (Code.seq x (.seq y (.seq z t))).wp P Q a w :=
  wp_seq (wp_mono h fun e a w hq => by
    cases e with
    | normal => exact wp_seq (wp_mono hq fun e a w hq => by
        cases e with
        | normal => exact wp_seq hq
        | _ => exact hq)
    | _ => exact hq)
end Go.Proofs.Ytllhihloidkghaa

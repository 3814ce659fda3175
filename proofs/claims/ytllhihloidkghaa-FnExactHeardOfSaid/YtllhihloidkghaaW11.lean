/-
  Order: its tail.
-/
import Derived.Test.YtllhihloidkghaaW10
import Derived.Test.YtllhihloidkghaaS4
set_option linter.unusedVariables false
set_option linter.unusedSimpArgs false
namespace Go.Proofs.Ytllhihloidkghaa
open Go Go.Proofs Go.Shelf Go.RowKit Go.Lib Go.Sort Go.Vx

noncomputable def ordHead : Code := match Try.f82.body with
  | some (.seq x (.seq y (.seq z _))) => .seq x (.seq y z)
  | _ => .skip
noncomputable def ordTail : Code := match Try.f82.body with
  | some (.seq _ (.seq _ (.seq _ t))) => t
  | _ => .skip

theorem ord_tail (t0 t2 t4 t5 t6 t7 t8 t9 t10 t11 t12 t13 t14 t15 t16 t17 t18 t19 t20 t21 t22 t23 t24 t25 : Value) (b1 b3 : Nat) (p : Option Addr) (n c : Nat) (w : World) (R : World → Prop) (h3 : w.cell? ⟨b3, 0, none⟩ = some (.slice p n c))
    (h : Calls Try.prog 113 #[.iface 70 (.slice p n c), .func (.func 114) #[] #[.pointer (some ⟨b1, 0, none⟩), .pointer (some ⟨b3, 0, none⟩)]] w
      fun e w' => e = .returned (.tuple #[]) ∧ w'.cell? ⟨b3, 0, none⟩ = some (.slice p n c) ∧ R w') :
    Code.wp Try.prog ordTail (bodyPost Try.prog Try.f82 fun e w' => e = .returned (.slice p n c) ∧ R w') ⟨#[t0, .pointer (some ⟨b1, 0, none⟩), t2, .pointer (some ⟨b3, 0, none⟩), t4, t5, t6, t7, t8, t9, t10, t11, t12, t13, t14, t15, t16, t17, t18, t19, t20, t21, t22, t23, t24, t25], []⟩ w := by
  unfold ordTail Try.f82
  dsimp only
  go_wp2_with (go_at_call 113; refine h.mono ?_; rintro e w' ⟨rfl, hc, hR⟩)
  go_wp2
  go_ret
  exact ⟨rfl, hR⟩
end Go.Proofs.Ytllhihloidkghaa

import Derived.Test.YtlkidecpmfhheaaGreatW7
set_option linter.all false
namespace Go.Proofs.YtlkidecpmfhheaaGreat
open Go Go.Proofs Go.Shelf Go.RowKit Go.Lib Go.Sort
open Go.Vx (Srt Bx fr_refl fr_trans fr_below fr_alloc' fr_drew fr_cell stableF)
variable {α : Type} [Inhabited α]
section
variable {I : World → Array α → Prop} {blk : Nat} {lt : α → α → Bool} {g : Nat} {lb : Array Value}
set_option maxHeartbeats 3200000 in
set_option maxRecDepth 1000000 in
theorem sliceStable_w (t e : TypeId) (i ie : TypeInfo) (hi : Tryz.prog.info? t = some i) (hd : i.desc = .slice e) (hpk : Tryz.prog.packed t = false) (hie : Tryz.prog.info? e = some ie) (ke : Nat) (hke : ∀ w, (Extern.Rtype.kind e).run Tryz.prog w = .ok ke w)
   (p : Option Addr) (n c : Nat) (hn : n ≤ 140737488355328) (f : Nat) (hf : Tryz.prog.funcs.findIdx? (·.name == "internal/reflectlite" ++ ".Swapper$" ++ toString (swapperK n ie ke)) = some f)
   (S : Srt Tryz.prog I blk n lt g lb f (if swapperK n ie ke ≤ 2 then #[] else #[.slice p n c, typeHandle Tryz.prog e])) (d : Array α) (w : World) (hI : I w d) :
   Calls Tryz.prog 142 #[.iface t (.slice p n c), .func (.func g) #[] lb] w fun e w' => e = .returned (.tuple #[]) ∧ I w' (stableF lt n d) := by
 have hv := run_valueOf_slice (P := Tryz.prog) t e i hi hd p n c w
 have hs := fun w => run_swapper_slice (P := Tryz.prog) t e i ie hi hd hie ke hke p n c f hf w
 have hl := fun a w ha => run_valueLen_slice (P := Tryz.prog) t e i hi hd hpk a p n c w ha
 have hp := stable_w S hn d _ (S.alloc (.cells #[.pointer (some ⟨Tryz.prog.globals.size, t, none⟩), .pointer (some ⟨w.heap.size, 0, none⟩), .int .u64 151] 226) (S.alloc (.cells #[.slice p n c] t) hI))
 generalize (if swapperK n ie ke ≤ 2 then (#[] : Array Value) else #[.slice p n c, typeHandle Tryz.prog e]) = B at hs hp S
 clear S
 simp only [typeHandle] at hv hl
 generalize Tryz.prog.globals.size = gz at hv hl hp
 have e15 : ∀ args w, (callFunc 212 args).run Tryz.prog w = .ok (.enter 212 args) w := enters_of Tryz.func212 (by kernel_rfl) rfl
 go_enter Tryz.func142, Tryz.ntmps142
 go_wp2
 rw [run_callFunc_extern Tryz.func210 (by kernel_rfl) (by kernel_rfl) (by kernel_rfl) (e := fun args => Extern.ReflectliteValue.unpack (args.getD 0 (.tuple #[]))) (by kernel_rfl),
   show Sem.run Tryz.prog ((fun args : Array Value => Extern.ReflectliteValue.unpack (args.getD 0 (.tuple #[]))) #[.iface t (.slice p n c)]) w = _ from hv]
 simp only [Result.andThen]
 rw [Oper.upon_value]
 go_wp2
 rw [run_callFunc_extern Tryz.func211 (by kernel_rfl) (by kernel_rfl) (by kernel_rfl) (e := Extern.ReflectliteSwapper.swapper "internal/reflectlite" (Extern.ReflectliteValue.valueError "Swapper")) (by kernel_rfl), hs]
 simp only [Result.andThen]
 rw [Oper.upon_value]
 go_wp2
 rw [run_callFunc_extern Tryz.func213 (by kernel_rfl) (by kernel_rfl) (by kernel_rfl) (e := Extern.ReflectliteValue.method (Extern.ReflectliteValue.valueError "reflectlite.Value.Len" 0) Extern.ReflectliteValue.len) (by kernel_rfl),
   hl _ _ (by simp)]
 simp only [Result.andThen]
 rw [Oper.upon_value]
 go_wp2_with (go_at_fn 212; refine hp.mono ?_; rintro e w' ⟨rfl, hR, -⟩)
 go_end0
 exact ⟨rfl, hR⟩
end
end Go.Proofs.YtlkidecpmfhheaaGreat

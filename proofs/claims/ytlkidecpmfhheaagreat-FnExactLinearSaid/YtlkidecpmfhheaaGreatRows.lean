/-
  No cell of these rows narrows 'for every input' (looked for: loops, veiled, ifaces, maps, wideKeys, modest, calm, conditions, laid).
  DERIVED. THE GIVEN ROWS OF THIS SEAT. 3 by the template 'for every input the law returns true; each argument reads behind the call as it read before'; 0 by the template 'total and deterministic' (their statements: YtlkidecpmfhheaaGreatTotals.lean).
  GIVEN WITH THE SEED: the statements are not yours to turn. If you find one false, say at which input.
  Laid BY PROGRAM, IN A SANDBOX (cutbox-rows.mjs): the forced cells as the released guide's own fill.sh prints them over the translation 39f6f2d3cbb0667c… (all of the seat's roots in one cut). By AI agents, Wed Nov 11 2026. No macro, syntax, notation, axiom, sorry.
-/
import Derived.Test.YtlkidecpmfhheaaGreatChecked
import GoSem.Claim
import GoSem.ClaimJoined
import GoSem.ClaimMapViews
import Derived.JoinedTies
import Derived.KernelRfl
namespace Go.Proofs.YtlkidecpmfhheaaGreat
/- THE CELL 'sum', in the pinned program and in every row, IS THE sha256 OF THE DUMP (.gsa) THAT YtlkidecpmfhheaaGreatProg.lean LOADS. Nothing in Lean hashes anything: it is a label: what it is worth is what the hold of that sum in a sandbox is worth. -/
noncomputable def Tryz.pinned : Pinned := { name := "ytlkidecpmfhheaagreat", sum := "39f6f2d3cbb0667c6827f3dd35575e0b4ddfe5b6710849603d54bbfb4570e9f1", checked := Tryz.checked }
namespace Rows
def none {H : Type} : Left H := { results := [], args := [] }

/-- 'laws.FnExactQuiet': WHATEVER THE INPUT: true; the input reads as it did. -/
def fnExactQuietSpec : ChangeSpec := { name := "fnExactQuiet", fn := fun _ => fun
  | [d] => { results := [.lit (.bool true)], args := [d] }
  | _ => none }
def fnExactQuietRow : OpenClaim := { program := "ytlkidecpmfhheaagreat", sum := "39f6f2d3cbb0667c6827f3dd35575e0b4ddfe5b6710849603d54bbfb4570e9f1", func := "loop.example/g00490/laws.FnExactQuiet", spec := "fnExactQuiet", inPlace := ["internal/abi.NoEscape", "internal/bytealg.MakeNoZero", "internal/reflectlite.ValueOf", "internal/reflectlite.Swapper", "(internal/reflectlite.Value).Len"], unfollowed := true, recurses := true, apart := false }
def FnExactQuietSaid : Prop := fnExactQuietRow.holds Tryz.pinned (OpenSpec.ofChange fnExactQuietSpec)

/-- ITS FALSE NEIGHBOUR: 'it returns false'. Refute it at one input. -/
def fnExactQuietWrong : ChangeSpec := { name := "fnExactQuiet", fn := fun _ => fun
  | [d] => { results := [.lit (.bool false)], args := [d] }
  | _ => none }
def FnExactQuietWrongFalsely : Prop := fnExactQuietRow.holds Tryz.pinned (OpenSpec.ofChange fnExactQuietWrong)

/-- 'laws.FnExactReplayed': WHATEVER THE INPUT: true; the input reads as it did. -/
def fnExactReplayedSpec : ChangeSpec := { name := "fnExactReplayed", fn := fun _ => fun
  | [d] => { results := [.lit (.bool true)], args := [d] }
  | _ => none }
def fnExactReplayedRow : OpenClaim := { program := "ytlkidecpmfhheaagreat", sum := "39f6f2d3cbb0667c6827f3dd35575e0b4ddfe5b6710849603d54bbfb4570e9f1", func := "loop.example/g00490/laws.FnExactReplayed", spec := "fnExactReplayed", inPlace := ["internal/reflectlite.ValueOf", "internal/reflectlite.Swapper", "(internal/reflectlite.Value).Len", "internal/abi.NoEscape", "internal/bytealg.MakeNoZero"], unfollowed := true, recurses := true, apart := false }
def FnExactReplayedSaid : Prop := fnExactReplayedRow.holds Tryz.pinned (OpenSpec.ofChange fnExactReplayedSpec)

/-- ITS FALSE NEIGHBOUR: 'it returns false'. Refute it at one input. -/
def fnExactReplayedWrong : ChangeSpec := { name := "fnExactReplayed", fn := fun _ => fun
  | [d] => { results := [.lit (.bool false)], args := [d] }
  | _ => none }
def FnExactReplayedWrongFalsely : Prop := fnExactReplayedRow.holds Tryz.pinned (OpenSpec.ofChange fnExactReplayedWrong)

/-- 'laws.FnExactLinear': WHATEVER THE INPUT: true; the input reads as it did. -/
def fnExactLinearSpec : ChangeSpec := { name := "fnExactLinear", fn := fun _ => fun
  | [d] => { results := [.lit (.bool true)], args := [d] }
  | _ => none }
def fnExactLinearRow : OpenClaim := { program := "ytlkidecpmfhheaagreat", sum := "39f6f2d3cbb0667c6827f3dd35575e0b4ddfe5b6710849603d54bbfb4570e9f1", func := "loop.example/g00490/laws.FnExactLinear", spec := "fnExactLinear", inPlace := ["internal/abi.NoEscape", "internal/bytealg.MakeNoZero", "internal/reflectlite.ValueOf", "internal/reflectlite.Swapper", "(internal/reflectlite.Value).Len"], unfollowed := true, recurses := true, apart := false }
def FnExactLinearSaid : Prop := fnExactLinearRow.holds Tryz.pinned (OpenSpec.ofChange fnExactLinearSpec)

/-- ITS FALSE NEIGHBOUR: 'it returns false'. Refute it at one input. -/
def fnExactLinearWrong : ChangeSpec := { name := "fnExactLinear", fn := fun _ => fun
  | [d] => { results := [.lit (.bool false)], args := [d] }
  | _ => none }
def FnExactLinearWrongFalsely : Prop := fnExactLinearRow.holds Tryz.pinned (OpenSpec.ofChange fnExactLinearWrong)

/- THE SECOND FORM. 'bulk': how many values and letters a reading holds, each counted each time it is reached (what is shared counts as often as it is met; a slice's spare places count too). A statement '..UptoSaid' is the law's where the arguments, and the package variables that the reading takes, are together of bulk at most 1048576: NARROWER than '..Said'. Prove '..Said' where nothing that the law and all that it calls make is longer than what came in: it says more and counts as full. Else prove '..UptoSaid'. A law counts once. -/
mutual
def uptoBulk {H : Type} : DataW H → Nat
  | .lit (.string bytes) => bytes.length + 1
  | .lit _ => 1
  | .nil => 1
  | .ptr d => uptoBulk d + 1
  | .slice elems spare => uptoBulkAll elems + uptoBulkAll spare + 1
  | .agg parts => uptoBulkAll parts + 1
  | .iface _ d => uptoBulk d + 1
  | .map entries => uptoBulkEntries entries + 1
  | .held _ => 1
def uptoBulkAll {H : Type} : List (DataW H) → Nat
  | [] => 0
  | d :: r => uptoBulk d + uptoBulkAll r
def uptoBulkEntries {H : Type} : List (Lit × DataW H) → Nat
  | [] => 0
  | x :: r => uptoBulkEntry x + uptoBulkEntries r
def uptoBulkEntry {H : Type} : Lit × DataW H → Nat
  | (.string bytes, d) => bytes.length + uptoBulk d + 1
  | (_, d) => uptoBulk d + 1
 end
def uptoSmall : (H : Type) → List (DataW H) → Bool := fun _ ds => decide (uptoBulkAll ds ≤ 1048576)
def OpenSpec.upto (s : _root_.Go.ChangeSpec) : _root_.Go.OpenSpec := { _root_.Go.OpenSpec.ofChange s with cond := some uptoSmall }

/-- 'laws.FnExactQuiet', WHERE WHAT IT READS IS OF BULK AT MOST 1048576: true; the input reads as it did. -/
def fnExactQuietUptoRow : OpenClaim := { program := "ytlkidecpmfhheaagreat", sum := "39f6f2d3cbb0667c6827f3dd35575e0b4ddfe5b6710849603d54bbfb4570e9f1", func := "loop.example/g00490/laws.FnExactQuiet", spec := "fnExactQuiet", inPlace := ["internal/abi.NoEscape", "internal/bytealg.MakeNoZero", "internal/reflectlite.ValueOf", "internal/reflectlite.Swapper", "(internal/reflectlite.Value).Len"], unfollowed := true, recurses := true, apart := false, narrowed := true }
def FnExactQuietUptoSaid : Prop := fnExactQuietUptoRow.holds Tryz.pinned (OpenSpec.upto fnExactQuietSpec)

/-- 'laws.FnExactReplayed', WHERE WHAT IT READS IS OF BULK AT MOST 1048576: true; the input reads as it did. -/
def fnExactReplayedUptoRow : OpenClaim := { program := "ytlkidecpmfhheaagreat", sum := "39f6f2d3cbb0667c6827f3dd35575e0b4ddfe5b6710849603d54bbfb4570e9f1", func := "loop.example/g00490/laws.FnExactReplayed", spec := "fnExactReplayed", inPlace := ["internal/reflectlite.ValueOf", "internal/reflectlite.Swapper", "(internal/reflectlite.Value).Len", "internal/abi.NoEscape", "internal/bytealg.MakeNoZero"], unfollowed := true, recurses := true, apart := false, narrowed := true }
def FnExactReplayedUptoSaid : Prop := fnExactReplayedUptoRow.holds Tryz.pinned (OpenSpec.upto fnExactReplayedSpec)

/-- 'laws.FnExactLinear', WHERE WHAT IT READS IS OF BULK AT MOST 1048576: true; the input reads as it did. -/
def fnExactLinearUptoRow : OpenClaim := { program := "ytlkidecpmfhheaagreat", sum := "39f6f2d3cbb0667c6827f3dd35575e0b4ddfe5b6710849603d54bbfb4570e9f1", func := "loop.example/g00490/laws.FnExactLinear", spec := "fnExactLinear", inPlace := ["internal/abi.NoEscape", "internal/bytealg.MakeNoZero", "internal/reflectlite.ValueOf", "internal/reflectlite.Swapper", "(internal/reflectlite.Value).Len"], unfollowed := true, recurses := true, apart := false, narrowed := true }
def FnExactLinearUptoSaid : Prop := fnExactLinearUptoRow.holds Tryz.pinned (OpenSpec.upto fnExactLinearSpec)

end Rows
end Go.Proofs.YtlkidecpmfhheaaGreat

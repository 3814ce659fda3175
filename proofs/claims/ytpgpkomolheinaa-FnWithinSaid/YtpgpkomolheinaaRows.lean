/-
  No cell of these rows narrows 'for every input' (looked for: loops, veiled, ifaces, maps, wideKeys, modest, calm, conditions, laid).
  DERIVED. THE GIVEN ROWS OF THIS SEAT. 10 by the template 'for every input the law returns true; each argument reads behind the call as it read before'; 0 by the template 'total and deterministic' (their statements: YtpgpkomolheinaaTotals.lean).
  GIVEN WITH THE SEED: the statements are not yours to turn. If you find one false, say at which input.
  Laid BY PROGRAM, IN A SANDBOX (cutbox-rows.mjs): the forced cells as the released guide's own fill.sh prints them over the translation f48928b88b4c2853… (all of the seat's roots in one cut). By AI agents, Wed Nov 11 2026. No macro, syntax, notation, axiom, sorry.
-/
import Derived.Test.YtpgpkomolheinaaChecked
import GoSem.Claim
import GoSem.ClaimJoined
import GoSem.ClaimMapViews
import Derived.JoinedTies
import Derived.KernelRfl
namespace Go.Proofs.Ytpgpkomolheinaa
/- THE CELL 'sum', in the pinned program and in every row, IS THE sha256 OF THE DUMP (.gsa) THAT YtpgpkomolheinaaProg.lean LOADS. Nothing in Lean hashes anything: it is a label: what it is worth is what the hold of that sum in a sandbox is worth. -/
noncomputable def Try.pinned : Pinned := { name := "ytpgpkomolheinaa", sum := "f48928b88b4c2853e24d8db846824e4ef3c67aecf34147301f42d7171b54eeb4", checked := Try.checked }
namespace Rows
def none {H : Type} : Left H := { results := [], args := [] }

/-- 'laws.FnExactWithin': WHATEVER THE INPUT: true; the input reads as it did. -/
def fnExactWithinSpec : ChangeSpec := { name := "fnExactWithin", fn := fun _ => fun
  | [d1, d2] => { results := [.lit (.bool true)], args := [d1, d2] }
  | _ => none }
def fnExactWithinRow : OpenClaim := { program := "ytpgpkomolheinaa", sum := "f48928b88b4c2853e24d8db846824e4ef3c67aecf34147301f42d7171b54eeb4", func := "loop.example/g00490/laws.FnExactWithin", spec := "fnExactWithin", apart := false }
def FnExactWithinSaid : Prop := fnExactWithinRow.holds Try.pinned (OpenSpec.ofChange fnExactWithinSpec)

/-- ITS FALSE NEIGHBOUR: 'it returns false'. Refute it at one input. -/
def fnExactWithinWrong : ChangeSpec := { name := "fnExactWithin", fn := fun _ => fun
  | [d1, d2] => { results := [.lit (.bool false)], args := [d1, d2] }
  | _ => none }
def FnExactWithinWrongFalsely : Prop := fnExactWithinRow.holds Try.pinned (OpenSpec.ofChange fnExactWithinWrong)

/-- 'laws.FnExactOf': WHATEVER THE INPUT: true; the input reads as it did. -/
def fnExactOfSpec : ChangeSpec := { name := "fnExactOf", fn := fun _ => fun
  | [d1, d2] => { results := [.lit (.bool true)], args := [d1, d2] }
  | _ => none }
def fnExactOfRow : OpenClaim := { program := "ytpgpkomolheinaa", sum := "f48928b88b4c2853e24d8db846824e4ef3c67aecf34147301f42d7171b54eeb4", func := "loop.example/g00490/laws.FnExactOf", spec := "fnExactOf", apart := false }
def FnExactOfSaid : Prop := fnExactOfRow.holds Try.pinned (OpenSpec.ofChange fnExactOfSpec)

/-- ITS FALSE NEIGHBOUR: 'it returns false'. Refute it at one input. -/
def fnExactOfWrong : ChangeSpec := { name := "fnExactOf", fn := fun _ => fun
  | [d1, d2] => { results := [.lit (.bool false)], args := [d1, d2] }
  | _ => none }
def FnExactOfWrongFalsely : Prop := fnExactOfRow.holds Try.pinned (OpenSpec.ofChange fnExactOfWrong)

/-- 'laws.FnExactInTime': WHATEVER THE INPUT: true; the input reads as it did. -/
def fnExactInTimeSpec : ChangeSpec := { name := "fnExactInTime", fn := fun _ => fun
  | [d] => { results := [.lit (.bool true)], args := [d] }
  | _ => none }
def fnExactInTimeRow : OpenClaim := { program := "ytpgpkomolheinaa", sum := "f48928b88b4c2853e24d8db846824e4ef3c67aecf34147301f42d7171b54eeb4", func := "loop.example/g00490/laws.FnExactInTime", spec := "fnExactInTime", apart := false }
def FnExactInTimeSaid : Prop := fnExactInTimeRow.holds Try.pinned (OpenSpec.ofChange fnExactInTimeSpec)

/-- ITS FALSE NEIGHBOUR: 'it returns false'. Refute it at one input. -/
def fnExactInTimeWrong : ChangeSpec := { name := "fnExactInTime", fn := fun _ => fun
  | [d] => { results := [.lit (.bool false)], args := [d] }
  | _ => none }
def FnExactInTimeWrongFalsely : Prop := fnExactInTimeRow.holds Try.pinned (OpenSpec.ofChange fnExactInTimeWrong)

/-- 'laws.FnExactSentOf': WHATEVER THE INPUT: true; the input reads as it did. -/
def fnExactSentOfSpec : ChangeSpec := { name := "fnExactSentOf", fn := fun _ => fun
  | [d1, d2] => { results := [.lit (.bool true)], args := [d1, d2] }
  | _ => none }
def fnExactSentOfRow : OpenClaim := { program := "ytpgpkomolheinaa", sum := "f48928b88b4c2853e24d8db846824e4ef3c67aecf34147301f42d7171b54eeb4", func := "loop.example/g00490/laws.FnExactSentOf", spec := "fnExactSentOf", apart := false }
def FnExactSentOfSaid : Prop := fnExactSentOfRow.holds Try.pinned (OpenSpec.ofChange fnExactSentOfSpec)

/-- ITS FALSE NEIGHBOUR: 'it returns false'. Refute it at one input. -/
def fnExactSentOfWrong : ChangeSpec := { name := "fnExactSentOf", fn := fun _ => fun
  | [d1, d2] => { results := [.lit (.bool false)], args := [d1, d2] }
  | _ => none }
def FnExactSentOfWrongFalsely : Prop := fnExactSentOfRow.holds Try.pinned (OpenSpec.ofChange fnExactSentOfWrong)

/-- 'laws.FnExactLastSent': WHATEVER THE INPUT: true; the input reads as it did. -/
def fnExactLastSentSpec : ChangeSpec := { name := "fnExactLastSent", fn := fun _ => fun
  | [d1, d2] => { results := [.lit (.bool true)], args := [d1, d2] }
  | _ => none }
def fnExactLastSentRow : OpenClaim := { program := "ytpgpkomolheinaa", sum := "f48928b88b4c2853e24d8db846824e4ef3c67aecf34147301f42d7171b54eeb4", func := "loop.example/g00490/laws.FnExactLastSent", spec := "fnExactLastSent", apart := false }
def FnExactLastSentSaid : Prop := fnExactLastSentRow.holds Try.pinned (OpenSpec.ofChange fnExactLastSentSpec)

/-- ITS FALSE NEIGHBOUR: 'it returns false'. Refute it at one input. -/
def fnExactLastSentWrong : ChangeSpec := { name := "fnExactLastSent", fn := fun _ => fun
  | [d1, d2] => { results := [.lit (.bool false)], args := [d1, d2] }
  | _ => none }
def FnExactLastSentWrongFalsely : Prop := fnExactLastSentRow.holds Try.pinned (OpenSpec.ofChange fnExactLastSentWrong)

/-- 'laws.FnExactBatchesOf': WHATEVER THE INPUT: true; the input reads as it did. -/
def fnExactBatchesOfSpec : ChangeSpec := { name := "fnExactBatchesOf", fn := fun _ => fun
  | [d1, d2] => { results := [.lit (.bool true)], args := [d1, d2] }
  | _ => none }
def fnExactBatchesOfRow : OpenClaim := { program := "ytpgpkomolheinaa", sum := "f48928b88b4c2853e24d8db846824e4ef3c67aecf34147301f42d7171b54eeb4", func := "loop.example/g00490/laws.FnExactBatchesOf", spec := "fnExactBatchesOf", apart := false }
def FnExactBatchesOfSaid : Prop := fnExactBatchesOfRow.holds Try.pinned (OpenSpec.ofChange fnExactBatchesOfSpec)

/-- ITS FALSE NEIGHBOUR: 'it returns false'. Refute it at one input. -/
def fnExactBatchesOfWrong : ChangeSpec := { name := "fnExactBatchesOf", fn := fun _ => fun
  | [d1, d2] => { results := [.lit (.bool false)], args := [d1, d2] }
  | _ => none }
def FnExactBatchesOfWrongFalsely : Prop := fnExactBatchesOfRow.holds Try.pinned (OpenSpec.ofChange fnExactBatchesOfWrong)

/-- 'laws.FnWithin': WHATEVER THE INPUT: true; the input reads as it did. -/
def fnWithinSpec : ChangeSpec := { name := "fnWithin", fn := fun _ => fun
  | [d] => { results := [.lit (.bool true)], args := [d] }
  | _ => none }
def fnWithinRow : OpenClaim := { program := "ytpgpkomolheinaa", sum := "f48928b88b4c2853e24d8db846824e4ef3c67aecf34147301f42d7171b54eeb4", func := "loop.example/g00490/laws.FnWithin", spec := "fnWithin", inPlace := ["internal/reflectlite.ValueOf", "internal/reflectlite.Swapper", "(internal/reflectlite.Value).Len"], unfollowed := true, recurses := true, apart := false }
def FnWithinSaid : Prop := fnWithinRow.holds Try.pinned (OpenSpec.ofChange fnWithinSpec)

/-- ITS FALSE NEIGHBOUR: 'it returns false'. Refute it at one input. -/
def fnWithinWrong : ChangeSpec := { name := "fnWithin", fn := fun _ => fun
  | [d] => { results := [.lit (.bool false)], args := [d] }
  | _ => none }
def FnWithinWrongFalsely : Prop := fnWithinRow.holds Try.pinned (OpenSpec.ofChange fnWithinWrong)

/-- 'laws.FnExactLagsOf': WHATEVER THE INPUT: true; the input reads as it did. -/
def fnExactLagsOfSpec : ChangeSpec := { name := "fnExactLagsOf", fn := fun _ => fun
  | [d1, d2] => { results := [.lit (.bool true)], args := [d1, d2] }
  | _ => none }
def fnExactLagsOfRow : OpenClaim := { program := "ytpgpkomolheinaa", sum := "f48928b88b4c2853e24d8db846824e4ef3c67aecf34147301f42d7171b54eeb4", func := "loop.example/g00490/laws.FnExactLagsOf", spec := "fnExactLagsOf", inPlace := ["internal/reflectlite.ValueOf", "internal/reflectlite.Swapper", "(internal/reflectlite.Value).Len"], unfollowed := true, recurses := true, apart := false }
def FnExactLagsOfSaid : Prop := fnExactLagsOfRow.holds Try.pinned (OpenSpec.ofChange fnExactLagsOfSpec)

/-- ITS FALSE NEIGHBOUR: 'it returns false'. Refute it at one input. -/
def fnExactLagsOfWrong : ChangeSpec := { name := "fnExactLagsOf", fn := fun _ => fun
  | [d1, d2] => { results := [.lit (.bool false)], args := [d1, d2] }
  | _ => none }
def FnExactLagsOfWrongFalsely : Prop := fnExactLagsOfRow.holds Try.pinned (OpenSpec.ofChange fnExactLagsOfWrong)

/-- 'laws.FnExactBornAt': WHATEVER THE INPUT: true; the input reads as it did. -/
def fnExactBornAtSpec : ChangeSpec := { name := "fnExactBornAt", fn := fun _ => fun
  | [d1, d2] => { results := [.lit (.bool true)], args := [d1, d2] }
  | _ => none }
def fnExactBornAtRow : OpenClaim := { program := "ytpgpkomolheinaa", sum := "f48928b88b4c2853e24d8db846824e4ef3c67aecf34147301f42d7171b54eeb4", func := "loop.example/g00490/laws.FnExactBornAt", spec := "fnExactBornAt", inPlace := ["internal/reflectlite.ValueOf", "internal/reflectlite.Swapper", "(internal/reflectlite.Value).Len"], unfollowed := true, recurses := true, apart := false }
def FnExactBornAtSaid : Prop := fnExactBornAtRow.holds Try.pinned (OpenSpec.ofChange fnExactBornAtSpec)

/-- ITS FALSE NEIGHBOUR: 'it returns false'. Refute it at one input. -/
def fnExactBornAtWrong : ChangeSpec := { name := "fnExactBornAt", fn := fun _ => fun
  | [d1, d2] => { results := [.lit (.bool false)], args := [d1, d2] }
  | _ => none }
def FnExactBornAtWrongFalsely : Prop := fnExactBornAtRow.holds Try.pinned (OpenSpec.ofChange fnExactBornAtWrong)

/-- 'laws.FnExactLastOf': WHATEVER THE INPUT: true; the input reads as it did. -/
def fnExactLastOfSpec : ChangeSpec := { name := "fnExactLastOf", fn := fun _ => fun
  | [d] => { results := [.lit (.bool true)], args := [d] }
  | _ => none }
def fnExactLastOfRow : OpenClaim := { program := "ytpgpkomolheinaa", sum := "f48928b88b4c2853e24d8db846824e4ef3c67aecf34147301f42d7171b54eeb4", func := "loop.example/g00490/laws.FnExactLastOf", spec := "fnExactLastOf", inPlace := ["internal/reflectlite.ValueOf", "internal/reflectlite.Swapper", "(internal/reflectlite.Value).Len"], unfollowed := true, recurses := true, apart := false }
def FnExactLastOfSaid : Prop := fnExactLastOfRow.holds Try.pinned (OpenSpec.ofChange fnExactLastOfSpec)

/-- ITS FALSE NEIGHBOUR: 'it returns false'. Refute it at one input. -/
def fnExactLastOfWrong : ChangeSpec := { name := "fnExactLastOf", fn := fun _ => fun
  | [d] => { results := [.lit (.bool false)], args := [d] }
  | _ => none }
def FnExactLastOfWrongFalsely : Prop := fnExactLastOfRow.holds Try.pinned (OpenSpec.ofChange fnExactLastOfWrong)

/- THE SECOND FORM. 'bulk': how many values and letters a reading holds, each counted each time it is reached (what is shared counts as often as it is met; a slice's spare places count too). A statement '..UptoSaid' is the law's where the arguments, and the package variables that the reading takes, are together of bulk at most 1048576: NARROWER than '..Said'. Prove '..Said' where nothing that the law and all that it calls make is longer than what came in: it says more and counts as full. Else prove '..UptoSaid'. A law counts once. -/
mutual
def uptoBulk {H : Type} : DataW H → Nat
  | .lit (.string bytes) => bytes.length + 1
  | .lit _ => 1
  | .nil => 1
  | .ptr d => uptoBulk d + 1
  | .slice elems spare => uptoBulkAll elems + uptoBulkAll spare + 1
  | .agg parts => uptoBulkAll parts + 1
  | .iface _ d => uptoBulk d + 1
  | .map entries => uptoBulkEntries entries + 1
  | .held _ => 1
def uptoBulkAll {H : Type} : List (DataW H) → Nat
  | [] => 0
  | d :: r => uptoBulk d + uptoBulkAll r
def uptoBulkEntries {H : Type} : List (Lit × DataW H) → Nat
  | [] => 0
  | x :: r => uptoBulkEntry x + uptoBulkEntries r
def uptoBulkEntry {H : Type} : Lit × DataW H → Nat
  | (.string bytes, d) => bytes.length + uptoBulk d + 1
  | (_, d) => uptoBulk d + 1
 end
def uptoSmall : (H : Type) → List (DataW H) → Bool := fun _ ds => decide (uptoBulkAll ds ≤ 1048576)
def OpenSpec.upto (s : _root_.Go.ChangeSpec) : _root_.Go.OpenSpec := { _root_.Go.OpenSpec.ofChange s with cond := some uptoSmall }

/-- 'laws.FnExactWithin', WHERE WHAT IT READS IS OF BULK AT MOST 1048576: true; the input reads as it did. -/
def fnExactWithinUptoRow : OpenClaim := { program := "ytpgpkomolheinaa", sum := "f48928b88b4c2853e24d8db846824e4ef3c67aecf34147301f42d7171b54eeb4", func := "loop.example/g00490/laws.FnExactWithin", spec := "fnExactWithin", apart := false, narrowed := true }
def FnExactWithinUptoSaid : Prop := fnExactWithinUptoRow.holds Try.pinned (OpenSpec.upto fnExactWithinSpec)

/-- 'laws.FnExactOf', WHERE WHAT IT READS IS OF BULK AT MOST 1048576: true; the input reads as it did. -/
def fnExactOfUptoRow : OpenClaim := { program := "ytpgpkomolheinaa", sum := "f48928b88b4c2853e24d8db846824e4ef3c67aecf34147301f42d7171b54eeb4", func := "loop.example/g00490/laws.FnExactOf", spec := "fnExactOf", apart := false, narrowed := true }
def FnExactOfUptoSaid : Prop := fnExactOfUptoRow.holds Try.pinned (OpenSpec.upto fnExactOfSpec)

/-- 'laws.FnExactInTime', WHERE WHAT IT READS IS OF BULK AT MOST 1048576: true; the input reads as it did. -/
def fnExactInTimeUptoRow : OpenClaim := { program := "ytpgpkomolheinaa", sum := "f48928b88b4c2853e24d8db846824e4ef3c67aecf34147301f42d7171b54eeb4", func := "loop.example/g00490/laws.FnExactInTime", spec := "fnExactInTime", apart := false, narrowed := true }
def FnExactInTimeUptoSaid : Prop := fnExactInTimeUptoRow.holds Try.pinned (OpenSpec.upto fnExactInTimeSpec)

/-- 'laws.FnExactSentOf', WHERE WHAT IT READS IS OF BULK AT MOST 1048576: true; the input reads as it did. -/
def fnExactSentOfUptoRow : OpenClaim := { program := "ytpgpkomolheinaa", sum := "f48928b88b4c2853e24d8db846824e4ef3c67aecf34147301f42d7171b54eeb4", func := "loop.example/g00490/laws.FnExactSentOf", spec := "fnExactSentOf", apart := false, narrowed := true }
def FnExactSentOfUptoSaid : Prop := fnExactSentOfUptoRow.holds Try.pinned (OpenSpec.upto fnExactSentOfSpec)

/-- 'laws.FnExactLastSent', WHERE WHAT IT READS IS OF BULK AT MOST 1048576: true; the input reads as it did. -/
def fnExactLastSentUptoRow : OpenClaim := { program := "ytpgpkomolheinaa", sum := "f48928b88b4c2853e24d8db846824e4ef3c67aecf34147301f42d7171b54eeb4", func := "loop.example/g00490/laws.FnExactLastSent", spec := "fnExactLastSent", apart := false, narrowed := true }
def FnExactLastSentUptoSaid : Prop := fnExactLastSentUptoRow.holds Try.pinned (OpenSpec.upto fnExactLastSentSpec)

/-- 'laws.FnExactBatchesOf', WHERE WHAT IT READS IS OF BULK AT MOST 1048576: true; the input reads as it did. -/
def fnExactBatchesOfUptoRow : OpenClaim := { program := "ytpgpkomolheinaa", sum := "f48928b88b4c2853e24d8db846824e4ef3c67aecf34147301f42d7171b54eeb4", func := "loop.example/g00490/laws.FnExactBatchesOf", spec := "fnExactBatchesOf", apart := false, narrowed := true }
def FnExactBatchesOfUptoSaid : Prop := fnExactBatchesOfUptoRow.holds Try.pinned (OpenSpec.upto fnExactBatchesOfSpec)

/-- 'laws.FnWithin', WHERE WHAT IT READS IS OF BULK AT MOST 1048576: true; the input reads as it did. -/
def fnWithinUptoRow : OpenClaim := { program := "ytpgpkomolheinaa", sum := "f48928b88b4c2853e24d8db846824e4ef3c67aecf34147301f42d7171b54eeb4", func := "loop.example/g00490/laws.FnWithin", spec := "fnWithin", inPlace := ["internal/reflectlite.ValueOf", "internal/reflectlite.Swapper", "(internal/reflectlite.Value).Len"], unfollowed := true, recurses := true, apart := false, narrowed := true }
def FnWithinUptoSaid : Prop := fnWithinUptoRow.holds Try.pinned (OpenSpec.upto fnWithinSpec)

/-- 'laws.FnExactLagsOf', WHERE WHAT IT READS IS OF BULK AT MOST 1048576: true; the input reads as it did. -/
def fnExactLagsOfUptoRow : OpenClaim := { program := "ytpgpkomolheinaa", sum := "f48928b88b4c2853e24d8db846824e4ef3c67aecf34147301f42d7171b54eeb4", func := "loop.example/g00490/laws.FnExactLagsOf", spec := "fnExactLagsOf", inPlace := ["internal/reflectlite.ValueOf", "internal/reflectlite.Swapper", "(internal/reflectlite.Value).Len"], unfollowed := true, recurses := true, apart := false, narrowed := true }
def FnExactLagsOfUptoSaid : Prop := fnExactLagsOfUptoRow.holds Try.pinned (OpenSpec.upto fnExactLagsOfSpec)

/-- 'laws.FnExactBornAt', WHERE WHAT IT READS IS OF BULK AT MOST 1048576: true; the input reads as it did. -/
def fnExactBornAtUptoRow : OpenClaim := { program := "ytpgpkomolheinaa", sum := "f48928b88b4c2853e24d8db846824e4ef3c67aecf34147301f42d7171b54eeb4", func := "loop.example/g00490/laws.FnExactBornAt", spec := "fnExactBornAt", inPlace := ["internal/reflectlite.ValueOf", "internal/reflectlite.Swapper", "(internal/reflectlite.Value).Len"], unfollowed := true, recurses := true, apart := false, narrowed := true }
def FnExactBornAtUptoSaid : Prop := fnExactBornAtUptoRow.holds Try.pinned (OpenSpec.upto fnExactBornAtSpec)

/-- 'laws.FnExactLastOf', WHERE WHAT IT READS IS OF BULK AT MOST 1048576: true; the input reads as it did. -/
def fnExactLastOfUptoRow : OpenClaim := { program := "ytpgpkomolheinaa", sum := "f48928b88b4c2853e24d8db846824e4ef3c67aecf34147301f42d7171b54eeb4", func := "loop.example/g00490/laws.FnExactLastOf", spec := "fnExactLastOf", inPlace := ["internal/reflectlite.ValueOf", "internal/reflectlite.Swapper", "(internal/reflectlite.Value).Len"], unfollowed := true, recurses := true, apart := false, narrowed := true }
def FnExactLastOfUptoSaid : Prop := fnExactLastOfUptoRow.holds Try.pinned (OpenSpec.upto fnExactLastOfSpec)

end Rows
end Go.Proofs.Ytpgpkomolheinaa

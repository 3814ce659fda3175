/-
  No cell of these rows narrows 'for every input' (looked for: loops, veiled, ifaces, maps, wideKeys, modest, calm, conditions, laid).
  DERIVED. THE GIVEN ROWS OF THIS SEAT. 5 by the template 'for every input the law returns true; each argument reads behind the call as it read before'; 0 by the template 'total and deterministic' (their statements: YtllhihloidkghaaTotals.lean).
  GIVEN WITH THE SEED: the statements are not yours to turn. If you find one false, say at which input.
  Laid BY PROGRAM, IN A SANDBOX (cutbox-rows.mjs): the forced cells as the released guide's own fill.sh prints them over the translation 22194f54c104a8b2… (all of the seat's roots in one cut). By AI agents, Wed Nov 11 2026. No macro, syntax, notation, axiom, sorry.
-/
import Derived.Test.YtllhihloidkghaaChecked
import GoSem.Claim
import GoSem.ClaimJoined
import GoSem.ClaimMapViews
import Derived.JoinedTies
import Derived.KernelRfl
namespace Go.Proofs.Ytllhihloidkghaa
/- THE CELL 'sum', in the pinned program and in every row, IS THE sha256 OF THE DUMP (.gsa) THAT YtllhihloidkghaaProg.lean LOADS. Nothing in Lean hashes anything: it is a label: what it is worth is what the hold of that sum in a sandbox is worth. -/
noncomputable def Try.pinned : Pinned := { name := "ytllhihloidkghaa", sum := "22194f54c104a8b2f45cde02a751ba613d9c829168fb24478c21c1108e9661e7", checked := Try.checked }
namespace Rows
def none {H : Type} : Left H := { results := [], args := [] }

/-- 'laws.FnExactToldOf': WHATEVER THE INPUT: true; the input reads as it did. -/
def fnExactToldOfSpec : ChangeSpec := { name := "fnExactToldOf", fn := fun _ => fun
  | [d] => { results := [.lit (.bool true)], args := [d] }
  | _ => none }
def fnExactToldOfRow : OpenClaim := { program := "ytllhihloidkghaa", sum := "22194f54c104a8b2f45cde02a751ba613d9c829168fb24478c21c1108e9661e7", func := "loop.example/g00490/laws.FnExactToldOf", spec := "fnExactToldOf", inPlace := ["internal/reflectlite.ValueOf", "internal/reflectlite.Swapper", "(internal/reflectlite.Value).Len"], unfollowed := true, recurses := true, apart := false }
def FnExactToldOfSaid : Prop := fnExactToldOfRow.holds Try.pinned (OpenSpec.ofChange fnExactToldOfSpec)

/-- ITS FALSE NEIGHBOUR: 'it returns false'. Refute it at one input. -/
def fnExactToldOfWrong : ChangeSpec := { name := "fnExactToldOf", fn := fun _ => fun
  | [d] => { results := [.lit (.bool false)], args := [d] }
  | _ => none }
def FnExactToldOfWrongFalsely : Prop := fnExactToldOfRow.holds Try.pinned (OpenSpec.ofChange fnExactToldOfWrong)

/-- 'laws.FnExactHeardOf': WHATEVER THE INPUT: true; the input reads as it did. -/
def fnExactHeardOfSpec : ChangeSpec := { name := "fnExactHeardOf", fn := fun _ => fun
  | [d1, d2] => { results := [.lit (.bool true)], args := [d1, d2] }
  | _ => none }
def fnExactHeardOfRow : OpenClaim := { program := "ytllhihloidkghaa", sum := "22194f54c104a8b2f45cde02a751ba613d9c829168fb24478c21c1108e9661e7", func := "loop.example/g00490/laws.FnExactHeardOf", spec := "fnExactHeardOf", inPlace := ["internal/reflectlite.ValueOf", "internal/reflectlite.Swapper", "(internal/reflectlite.Value).Len"], unfollowed := true, recurses := true, apart := false }
def FnExactHeardOfSaid : Prop := fnExactHeardOfRow.holds Try.pinned (OpenSpec.ofChange fnExactHeardOfSpec)

/-- ITS FALSE NEIGHBOUR: 'it returns false'. Refute it at one input. -/
def fnExactHeardOfWrong : ChangeSpec := { name := "fnExactHeardOf", fn := fun _ => fun
  | [d1, d2] => { results := [.lit (.bool false)], args := [d1, d2] }
  | _ => none }
def FnExactHeardOfWrongFalsely : Prop := fnExactHeardOfRow.holds Try.pinned (OpenSpec.ofChange fnExactHeardOfWrong)

/-- 'laws.FnExactBound': WHATEVER THE INPUT: true; the input reads as it did. -/
def fnExactBoundSpec : ChangeSpec := { name := "fnExactBound", fn := fun _ => fun
  | [d] => { results := [.lit (.bool true)], args := [d] }
  | _ => none }
def fnExactBoundRow : OpenClaim := { program := "ytllhihloidkghaa", sum := "22194f54c104a8b2f45cde02a751ba613d9c829168fb24478c21c1108e9661e7", func := "loop.example/g00490/laws.FnExactBound", spec := "fnExactBound", apart := false }
def FnExactBoundSaid : Prop := fnExactBoundRow.holds Try.pinned (OpenSpec.ofChange fnExactBoundSpec)

/-- ITS FALSE NEIGHBOUR: 'it returns false'. Refute it at one input. -/
def fnExactBoundWrong : ChangeSpec := { name := "fnExactBound", fn := fun _ => fun
  | [d] => { results := [.lit (.bool false)], args := [d] }
  | _ => none }
def FnExactBoundWrongFalsely : Prop := fnExactBoundRow.holds Try.pinned (OpenSpec.ofChange fnExactBoundWrong)

/-- 'laws.FnExactInOwn': WHATEVER THE INPUT: true; the input reads as it did. -/
def fnExactInOwnSpec : ChangeSpec := { name := "fnExactInOwn", fn := fun _ => fun
  | [d] => { results := [.lit (.bool true)], args := [d] }
  | _ => none }
def fnExactInOwnRow : OpenClaim := { program := "ytllhihloidkghaa", sum := "22194f54c104a8b2f45cde02a751ba613d9c829168fb24478c21c1108e9661e7", func := "loop.example/g00490/laws.FnExactInOwn", spec := "fnExactInOwn", apart := false }
def FnExactInOwnSaid : Prop := fnExactInOwnRow.holds Try.pinned (OpenSpec.ofChange fnExactInOwnSpec)

/-- ITS FALSE NEIGHBOUR: 'it returns false'. Refute it at one input. -/
def fnExactInOwnWrong : ChangeSpec := { name := "fnExactInOwn", fn := fun _ => fun
  | [d] => { results := [.lit (.bool false)], args := [d] }
  | _ => none }
def FnExactInOwnWrongFalsely : Prop := fnExactInOwnRow.holds Try.pinned (OpenSpec.ofChange fnExactInOwnWrong)

/-- 'laws.FnExactFeedOf': WHATEVER THE INPUT: true; the input reads as it did. -/
def fnExactFeedOfSpec : ChangeSpec := { name := "fnExactFeedOf", fn := fun _ => fun
  | [d] => { results := [.lit (.bool true)], args := [d] }
  | _ => none }
def fnExactFeedOfRow : OpenClaim := { program := "ytllhihloidkghaa", sum := "22194f54c104a8b2f45cde02a751ba613d9c829168fb24478c21c1108e9661e7", func := "loop.example/g00490/laws.FnExactFeedOf", spec := "fnExactFeedOf", apart := false }
def FnExactFeedOfSaid : Prop := fnExactFeedOfRow.holds Try.pinned (OpenSpec.ofChange fnExactFeedOfSpec)

/-- ITS FALSE NEIGHBOUR: 'it returns false'. Refute it at one input. -/
def fnExactFeedOfWrong : ChangeSpec := { name := "fnExactFeedOf", fn := fun _ => fun
  | [d] => { results := [.lit (.bool false)], args := [d] }
  | _ => none }
def FnExactFeedOfWrongFalsely : Prop := fnExactFeedOfRow.holds Try.pinned (OpenSpec.ofChange fnExactFeedOfWrong)

/- THE SECOND FORM. 'bulk': how many values and letters a reading holds, each counted each time it is reached (what is shared counts as often as it is met; a slice's spare places count too). A statement '..UptoSaid' is the law's where the arguments, and the package variables that the reading takes, are together of bulk at most 1048576: NARROWER than '..Said'. Prove '..Said' where nothing that the law and all that it calls make is longer than what came in: it says more and counts as full. Else prove '..UptoSaid'. A law counts once. -/
mutual
def uptoBulk {H : Type} : DataW H → Nat
  | .lit (.string bytes) => bytes.length + 1
  | .lit _ => 1
  | .nil => 1
  | .ptr d => uptoBulk d + 1
  | .slice elems spare => uptoBulkAll elems + uptoBulkAll spare + 1
  | .agg parts => uptoBulkAll parts + 1
  | .iface _ d => uptoBulk d + 1
  | .map entries => uptoBulkEntries entries + 1
  | .held _ => 1
def uptoBulkAll {H : Type} : List (DataW H) → Nat
  | [] => 0
  | d :: r => uptoBulk d + uptoBulkAll r
def uptoBulkEntries {H : Type} : List (Lit × DataW H) → Nat
  | [] => 0
  | x :: r => uptoBulkEntry x + uptoBulkEntries r
def uptoBulkEntry {H : Type} : Lit × DataW H → Nat
  | (.string bytes, d) => bytes.length + uptoBulk d + 1
  | (_, d) => uptoBulk d + 1
 end
def uptoSmall : (H : Type) → List (DataW H) → Bool := fun _ ds => decide (uptoBulkAll ds ≤ 1048576)
def OpenSpec.upto (s : _root_.Go.ChangeSpec) : _root_.Go.OpenSpec := { _root_.Go.OpenSpec.ofChange s with cond := some uptoSmall }

/-- 'laws.FnExactToldOf', WHERE WHAT IT READS IS OF BULK AT MOST 1048576: true; the input reads as it did. -/
def fnExactToldOfUptoRow : OpenClaim := { program := "ytllhihloidkghaa", sum := "22194f54c104a8b2f45cde02a751ba613d9c829168fb24478c21c1108e9661e7", func := "loop.example/g00490/laws.FnExactToldOf", spec := "fnExactToldOf", inPlace := ["internal/reflectlite.ValueOf", "internal/reflectlite.Swapper", "(internal/reflectlite.Value).Len"], unfollowed := true, recurses := true, apart := false, narrowed := true }
def FnExactToldOfUptoSaid : Prop := fnExactToldOfUptoRow.holds Try.pinned (OpenSpec.upto fnExactToldOfSpec)

/-- 'laws.FnExactHeardOf', WHERE WHAT IT READS IS OF BULK AT MOST 1048576: true; the input reads as it did. -/
def fnExactHeardOfUptoRow : OpenClaim := { program := "ytllhihloidkghaa", sum := "22194f54c104a8b2f45cde02a751ba613d9c829168fb24478c21c1108e9661e7", func := "loop.example/g00490/laws.FnExactHeardOf", spec := "fnExactHeardOf", inPlace := ["internal/reflectlite.ValueOf", "internal/reflectlite.Swapper", "(internal/reflectlite.Value).Len"], unfollowed := true, recurses := true, apart := false, narrowed := true }
def FnExactHeardOfUptoSaid : Prop := fnExactHeardOfUptoRow.holds Try.pinned (OpenSpec.upto fnExactHeardOfSpec)

/-- 'laws.FnExactBound', WHERE WHAT IT READS IS OF BULK AT MOST 1048576: true; the input reads as it did. -/
def fnExactBoundUptoRow : OpenClaim := { program := "ytllhihloidkghaa", sum := "22194f54c104a8b2f45cde02a751ba613d9c829168fb24478c21c1108e9661e7", func := "loop.example/g00490/laws.FnExactBound", spec := "fnExactBound", apart := false, narrowed := true }
def FnExactBoundUptoSaid : Prop := fnExactBoundUptoRow.holds Try.pinned (OpenSpec.upto fnExactBoundSpec)

/-- 'laws.FnExactInOwn', WHERE WHAT IT READS IS OF BULK AT MOST 1048576: true; the input reads as it did. -/
def fnExactInOwnUptoRow : OpenClaim := { program := "ytllhihloidkghaa", sum := "22194f54c104a8b2f45cde02a751ba613d9c829168fb24478c21c1108e9661e7", func := "loop.example/g00490/laws.FnExactInOwn", spec := "fnExactInOwn", apart := false, narrowed := true }
def FnExactInOwnUptoSaid : Prop := fnExactInOwnUptoRow.holds Try.pinned (OpenSpec.upto fnExactInOwnSpec)

/-- 'laws.FnExactFeedOf', WHERE WHAT IT READS IS OF BULK AT MOST 1048576: true; the input reads as it did. -/
def fnExactFeedOfUptoRow : OpenClaim := { program := "ytllhihloidkghaa", sum := "22194f54c104a8b2f45cde02a751ba613d9c829168fb24478c21c1108e9661e7", func := "loop.example/g00490/laws.FnExactFeedOf", spec := "fnExactFeedOf", apart := false, narrowed := true }
def FnExactFeedOfUptoSaid : Prop := fnExactFeedOfUptoRow.holds Try.pinned (OpenSpec.upto fnExactFeedOfSpec)

end Rows
end Go.Proofs.Ytllhihloidkghaa

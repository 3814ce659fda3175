/-
  DERIVED. GIVEN WITH THE SEED: THE CARDS: each row of YthibophjhdoooaaGreatDoorRows.lean that lists a variable, with what it lists TIED to the program's text (the seventh form; the later family's looks); each row that meets fmt, with fmt's text TOLD by the authors' own Lean function (tested against real Go, not proved from fmt's source: count such statements apart). THE CARD IS WHAT COUNTS. Prove the row's statement (the work); the ties are given (YthibophjhdoooaaGreatDoorTie.lean); close each card by the builder's one call (the guide's Derived/Test/ToyasCard.lean, 'card_holds'). Laid BY PROGRAM, IN A SANDBOX (cutbox-door.mjs). By AI agents, Wed Nov 11 2026. No macro, syntax, notation, axiom, sorry.
-/
import Derived.Test.YthibophjhdoooaaGreatDoorRows
import GoSem.ClaimSeven
namespace Go.Proofs.YthibophjhdoooaaGreatDoor
namespace Rows

/-- THE TIED CARD OF 'laws.FnSaid'. -/
def fnSaidCard : Claim7 := { stood := { row := fnSaidRow, standIns := [], harness := (true, "7b2c471a043e854e74c02ef57ba0bb3019e399190d999b4a63ba08c8058e953e"), looks := false }, kinds := [], alts := [], laidByText := true, laidKinds := [.data, .data, .data, .data, .pinned], laidTests := true, laidLooks := .later }
def FnSaidCardSaid : Prop := Claim7.holds Tryz.pinned (.plain (OpenSpec.ofChange fnSaidSpec)) fnSaidCard

/-- THE SECOND FORM's CARD OF 'laws.FnSaid'. -/
def fnSaidUptoCard : Claim7 := { stood := { row := fnSaidUptoRow, standIns := [], harness := (true, "7b2c471a043e854e74c02ef57ba0bb3019e399190d999b4a63ba08c8058e953e"), looks := false }, kinds := [], alts := [], laidByText := true, laidKinds := [.data, .data, .data, .data, .pinned], laidTests := true, laidLooks := .later }
def FnSaidUptoCardSaid : Prop := Claim7.holds Tryz.pinned (.plain (OpenSpec.upto fnSaidSpec)) fnSaidUptoCard
end Rows
end Go.Proofs.YthibophjhdoooaaGreatDoor

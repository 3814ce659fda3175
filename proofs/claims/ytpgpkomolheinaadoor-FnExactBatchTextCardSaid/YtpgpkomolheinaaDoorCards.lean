/-
  DERIVED. GIVEN WITH THE SEED: THE CARDS: each row of YtpgpkomolheinaaDoorRows.lean that lists a variable, with what it lists TIED to the program's text (the seventh form; the later family's looks); each row that meets fmt, with fmt's text TOLD by the authors' own Lean function (tested against real Go, not proved from fmt's source: count such statements apart). THE CARD IS WHAT COUNTS. Prove the row's statement (the work); the ties are given (YtpgpkomolheinaaDoorTie.lean); close each card by the builder's one call (the guide's Derived/Test/ToyasCard.lean, 'card_holds'). Laid BY PROGRAM, IN A SANDBOX (cutbox-door.mjs). By AI agents, Wed Nov 11 2026. No macro, syntax, notation, axiom, sorry.
-/
import Derived.Test.YtpgpkomolheinaaDoorRows
import GoSem.ClaimSeven
namespace Go.Proofs.YtpgpkomolheinaaDoor
namespace Rows

/-- THE TIED CARD OF 'laws.FnExactAlarmsText'. -/
def fnExactAlarmsTextCard : Claim7 := { stood := { row := fnExactAlarmsTextRow, standIns := [], harness := (true, "f2c2006d3f699d1893cfb18a76933a68c00e1856016bf6ea7b14b0ac001200da"), looks := false }, kinds := [], alts := [], laidByText := true, laidKinds := [.data, .data, .data], laidTests := true, laidLooks := .later }
def FnExactAlarmsTextCardSaid : Prop := Claim7.holds Tryd.pinned (.plain (OpenSpec.ofChange fnExactAlarmsTextSpec)) fnExactAlarmsTextCard

/-- THE TIED CARD OF 'laws.FnExactBatchText'. -/
def fnExactBatchTextCard : Claim7 := { stood := { row := fnExactBatchTextRow, standIns := [], harness := (true, "f2c2006d3f699d1893cfb18a76933a68c00e1856016bf6ea7b14b0ac001200da"), looks := false }, kinds := [], alts := [], laidByText := true, laidKinds := [.data, .data, .data], laidTests := true, laidLooks := .later }
def FnExactBatchTextCardSaid : Prop := Claim7.holds Tryd.pinned (.plain (OpenSpec.ofChange fnExactBatchTextSpec)) fnExactBatchTextCard

/-- THE SECOND FORM's CARD OF 'laws.FnExactAlarmsText'. -/
def fnExactAlarmsTextUptoCard : Claim7 := { stood := { row := fnExactAlarmsTextUptoRow, standIns := [], harness := (true, "f2c2006d3f699d1893cfb18a76933a68c00e1856016bf6ea7b14b0ac001200da"), looks := false }, kinds := [], alts := [], laidByText := true, laidKinds := [.data, .data, .data], laidTests := true, laidLooks := .later }
def FnExactAlarmsTextUptoCardSaid : Prop := Claim7.holds Tryd.pinned (.plain (OpenSpec.upto fnExactAlarmsTextSpec)) fnExactAlarmsTextUptoCard

/-- THE SECOND FORM's CARD OF 'laws.FnExactBatchText'. -/
def fnExactBatchTextUptoCard : Claim7 := { stood := { row := fnExactBatchTextUptoRow, standIns := [], harness := (true, "f2c2006d3f699d1893cfb18a76933a68c00e1856016bf6ea7b14b0ac001200da"), looks := false }, kinds := [], alts := [], laidByText := true, laidKinds := [.data, .data, .data], laidTests := true, laidLooks := .later }
def FnExactBatchTextUptoCardSaid : Prop := Claim7.holds Tryd.pinned (.plain (OpenSpec.upto fnExactBatchTextSpec)) fnExactBatchTextUptoCard
end Rows
end Go.Proofs.YtpgpkomolheinaaDoor

/-
  DERIVED. GIVEN WITH THE SEED: THE CARDS: each row of YtmfbmdipchnmaaaDoorRows.lean that lists a variable, with what it lists TIED to the program's text (the seventh form; the later family's looks); each row that meets fmt, with fmt's text TOLD by the authors' own Lean function (tested against real Go, not proved from fmt's source: count such statements apart). THE CARD IS WHAT COUNTS. Prove the row's statement (the work); the ties are given (YtmfbmdipchnmaaaDoorTie.lean); close each card by the builder's one call (the guide's Derived/Test/ToyasCard.lean, 'card_holds'). Laid BY PROGRAM, IN A SANDBOX (cutbox-door.mjs). By AI agents, Wed Nov 11 2026. No macro, syntax, notation, axiom, sorry.
-/
import Derived.Test.YtmfbmdipchnmaaaDoorRows
import GoSem.ClaimSeven
namespace Go.Proofs.YtmfbmdipchnmaaaDoor
namespace Rows

/-- THE TIED CARD OF 'laws.FnExactSubText'. -/
def fnExactSubTextCard : Claim7 := { stood := { row := fnExactSubTextRow, standIns := [], harness := (true, "49d7447e6163c0da179b91ee0afb7f0ad86bf6cd6714272088e923177098c22e"), looks := false }, kinds := [], alts := [], laidByText := true, laidKinds := [.data, .data, .data], laidTests := true, laidLooks := .later }
def FnExactSubTextCardSaid : Prop := Claim7.holds Tryd.pinned (.plain (OpenSpec.ofChange fnExactSubTextSpec)) fnExactSubTextCard

/-- THE TIED CARD OF 'laws.FnExactTaskText'. -/
def fnExactTaskTextCard : Claim7 := { stood := { row := fnExactTaskTextRow, standIns := [], harness := (true, "49d7447e6163c0da179b91ee0afb7f0ad86bf6cd6714272088e923177098c22e"), looks := false }, kinds := [], alts := [], laidByText := true, laidKinds := [.data, .data, .data, .data, .pinned], laidTests := true, laidLooks := .later }
def FnExactTaskTextCardSaid : Prop := Claim7.holds Tryd.pinned (.plain (OpenSpec.ofChange fnExactTaskTextSpec)) fnExactTaskTextCard

/-- THE TIED CARD OF 'laws.FnExactParseAlarm'. -/
def fnExactParseAlarmCard : Claim7 := { stood := { row := fnExactParseAlarmRow, standIns := [], harness := (true, "49d7447e6163c0da179b91ee0afb7f0ad86bf6cd6714272088e923177098c22e"), looks := false }, kinds := [], alts := [], laidByText := true, laidKinds := [.data, .data, .data], laidTests := true, laidLooks := .later }
def FnExactParseAlarmCardSaid : Prop := Claim7.holds Tryd.pinned (.plain (OpenSpec.ofChange fnExactParseAlarmSpec)) fnExactParseAlarmCard

/-- THE TIED CARD OF 'laws.FnExactDeedText'. -/
def fnExactDeedTextCard : Claim7 := { stood := { row := fnExactDeedTextRow, standIns := [], harness := (true, "49d7447e6163c0da179b91ee0afb7f0ad86bf6cd6714272088e923177098c22e"), looks := false }, kinds := [], alts := [], laidByText := true, laidKinds := [.data, .data, .data, .data, .pinned], laidTests := true, laidLooks := .later }
def FnExactDeedTextCardSaid : Prop := Claim7.holds Tryd.pinned (.plain (OpenSpec.ofChange fnExactDeedTextSpec)) fnExactDeedTextCard

/-- THE SECOND FORM's CARD OF 'laws.FnExactSubText'. -/
def fnExactSubTextUptoCard : Claim7 := { stood := { row := fnExactSubTextUptoRow, standIns := [], harness := (true, "49d7447e6163c0da179b91ee0afb7f0ad86bf6cd6714272088e923177098c22e"), looks := false }, kinds := [], alts := [], laidByText := true, laidKinds := [.data, .data, .data], laidTests := true, laidLooks := .later }
def FnExactSubTextUptoCardSaid : Prop := Claim7.holds Tryd.pinned (.plain (OpenSpec.upto fnExactSubTextSpec)) fnExactSubTextUptoCard

/-- THE SECOND FORM's CARD OF 'laws.FnExactTaskText'. -/
def fnExactTaskTextUptoCard : Claim7 := { stood := { row := fnExactTaskTextUptoRow, standIns := [], harness := (true, "49d7447e6163c0da179b91ee0afb7f0ad86bf6cd6714272088e923177098c22e"), looks := false }, kinds := [], alts := [], laidByText := true, laidKinds := [.data, .data, .data, .data, .pinned], laidTests := true, laidLooks := .later }
def FnExactTaskTextUptoCardSaid : Prop := Claim7.holds Tryd.pinned (.plain (OpenSpec.upto fnExactTaskTextSpec)) fnExactTaskTextUptoCard

/-- THE SECOND FORM's CARD OF 'laws.FnExactParseAlarm'. -/
def fnExactParseAlarmUptoCard : Claim7 := { stood := { row := fnExactParseAlarmUptoRow, standIns := [], harness := (true, "49d7447e6163c0da179b91ee0afb7f0ad86bf6cd6714272088e923177098c22e"), looks := false }, kinds := [], alts := [], laidByText := true, laidKinds := [.data, .data, .data], laidTests := true, laidLooks := .later }
def FnExactParseAlarmUptoCardSaid : Prop := Claim7.holds Tryd.pinned (.plain (OpenSpec.upto fnExactParseAlarmSpec)) fnExactParseAlarmUptoCard

/-- THE SECOND FORM's CARD OF 'laws.FnExactDeedText'. -/
def fnExactDeedTextUptoCard : Claim7 := { stood := { row := fnExactDeedTextUptoRow, standIns := [], harness := (true, "49d7447e6163c0da179b91ee0afb7f0ad86bf6cd6714272088e923177098c22e"), looks := false }, kinds := [], alts := [], laidByText := true, laidKinds := [.data, .data, .data, .data, .pinned], laidTests := true, laidLooks := .later }
def FnExactDeedTextUptoCardSaid : Prop := Claim7.holds Tryd.pinned (.plain (OpenSpec.upto fnExactDeedTextSpec)) fnExactDeedTextUptoCard
end Rows
end Go.Proofs.YtmfbmdipchnmaaaDoor

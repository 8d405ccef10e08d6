/-
  DERIVED. GIVEN WITH THE SEED: THE CARDS: each row of YtmklpbmlgjkbiaaGreatDoorRows.lean that lists a variable, with what it lists TIED to the program's text (the seventh form; the later family's looks); each row that meets fmt, with fmt's text TOLD by the authors' own Lean function (tested against real Go, not proved from fmt's source: count such statements apart). THE CARD IS WHAT COUNTS. Prove the row's statement (the work); the ties are given (YtmklpbmlgjkbiaaGreatDoorTie.lean); close each card by the builder's one call (the guide's Derived/Test/ToyasCard.lean, 'card_holds'). Laid BY PROGRAM, IN A SANDBOX (cutbox-door.mjs). By AI agents, Wed Nov 11 2026. No macro, syntax, notation, axiom, sorry.
-/
import Derived.Test.YtmklpbmlgjkbiaaGreatDoorRows
import GoSem.ClaimSeven
namespace Go.Proofs.YtmklpbmlgjkbiaaGreatDoor
namespace Rows

/-- THE TIED CARD OF 'laws.FnExactCodeRead'. -/
def fnExactCodeReadCard : Claim7 := { stood := { row := fnExactCodeReadRow, standIns := [], harness := (true, "93744f6a215791f3dc95648847ecddff711802a4be4f5c64dc6e479d5bb1b2b5"), looks := true }, kinds := [], alts := [], laidByText := true, laidKinds := [.data, .data, .data, .data, .sentinel, .sentinel, .pinned], laidTests := true, laidLooks := .later }
def FnExactCodeReadCardSaid : Prop := Claim7.holds Tryz.pinned (.plain (OpenSpec.ofChange fnExactCodeReadSpec)) fnExactCodeReadCard

/-- THE TIED CARD OF 'laws.FnCodeBack'. -/
def fnCodeBackCard : Claim7 := { stood := { row := fnCodeBackRow, standIns := [], harness := (true, "93744f6a215791f3dc95648847ecddff711802a4be4f5c64dc6e479d5bb1b2b5"), looks := true }, kinds := [], alts := [], laidByText := true, laidKinds := [.data, .data, .data, .data, .sentinel, .sentinel, .pinned], laidTests := true, laidLooks := .later }
def FnCodeBackCardSaid : Prop := Claim7.holds Tryz.pinned (.plain (OpenSpec.ofChange fnCodeBackSpec)) fnCodeBackCard

/-- THE TIED CARD OF 'laws.FnCodeStrict'. -/
def fnCodeStrictCard : Claim7 := { stood := { row := fnCodeStrictRow, standIns := [], harness := (true, "93744f6a215791f3dc95648847ecddff711802a4be4f5c64dc6e479d5bb1b2b5"), looks := true }, kinds := [], alts := [], laidByText := true, laidKinds := [.data, .data, .data, .data, .sentinel, .sentinel, .pinned], laidTests := true, laidLooks := .later }
def FnCodeStrictCardSaid : Prop := Claim7.holds Tryz.pinned (.plain (OpenSpec.ofChange fnCodeStrictSpec)) fnCodeStrictCard

/-- THE SECOND FORM's CARD OF 'laws.FnExactCodeRead'. -/
def fnExactCodeReadUptoCard : Claim7 := { stood := { row := fnExactCodeReadUptoRow, standIns := [], harness := (true, "93744f6a215791f3dc95648847ecddff711802a4be4f5c64dc6e479d5bb1b2b5"), looks := true }, kinds := [], alts := [], laidByText := true, laidKinds := [.data, .data, .data, .data, .sentinel, .sentinel, .pinned], laidTests := true, laidLooks := .later }
def FnExactCodeReadUptoCardSaid : Prop := Claim7.holds Tryz.pinned (.plain (OpenSpec.upto fnExactCodeReadSpec)) fnExactCodeReadUptoCard

/-- THE SECOND FORM's CARD OF 'laws.FnCodeBack'. -/
def fnCodeBackUptoCard : Claim7 := { stood := { row := fnCodeBackUptoRow, standIns := [], harness := (true, "93744f6a215791f3dc95648847ecddff711802a4be4f5c64dc6e479d5bb1b2b5"), looks := true }, kinds := [], alts := [], laidByText := true, laidKinds := [.data, .data, .data, .data, .sentinel, .sentinel, .pinned], laidTests := true, laidLooks := .later }
def FnCodeBackUptoCardSaid : Prop := Claim7.holds Tryz.pinned (.plain (OpenSpec.upto fnCodeBackSpec)) fnCodeBackUptoCard

/-- THE SECOND FORM's CARD OF 'laws.FnCodeStrict'. -/
def fnCodeStrictUptoCard : Claim7 := { stood := { row := fnCodeStrictUptoRow, standIns := [], harness := (true, "93744f6a215791f3dc95648847ecddff711802a4be4f5c64dc6e479d5bb1b2b5"), looks := true }, kinds := [], alts := [], laidByText := true, laidKinds := [.data, .data, .data, .data, .sentinel, .sentinel, .pinned], laidTests := true, laidLooks := .later }
def FnCodeStrictUptoCardSaid : Prop := Claim7.holds Tryz.pinned (.plain (OpenSpec.upto fnCodeStrictSpec)) fnCodeStrictUptoCard
end Rows
end Go.Proofs.YtmklpbmlgjkbiaaGreatDoor

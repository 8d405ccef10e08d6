/-
  DERIVED. GIVEN WITH THE SEED: THE CARDS: each row of YtmklpbmlgjkbiaaDoorRows.lean that lists a variable, with what it lists TIED to the program's text (the seventh form; the later family's looks); each row that meets fmt, with fmt's text TOLD by the authors' own Lean function (tested against real Go, not proved from fmt's source: count such statements apart). THE CARD IS WHAT COUNTS. Prove the row's statement (the work); the ties are given (YtmklpbmlgjkbiaaDoorTie.lean); close each card by the builder's one call (the guide's Derived/Test/ToyasCard.lean, 'card_holds'). Laid BY PROGRAM, IN A SANDBOX (cutbox-door.mjs). By AI agents, Wed Nov 11 2026. No macro, syntax, notation, axiom, sorry.
-/
import Derived.Test.YtmklpbmlgjkbiaaDoorRows
import GoSem.ClaimSeven
namespace Go.Proofs.YtmklpbmlgjkbiaaDoor
namespace Rows

/-- THE TIED CARD OF 'laws.FnExactValText'. -/
def fnExactValTextCard : Claim7 := { stood := { row := fnExactValTextRow, standIns := [], harness := (true, "61b55d7b1176409984163c4b774563fb7b29e5a1c46d4200c2bae533eb05d163"), looks := true }, kinds := [], alts := [], laidByText := true, laidKinds := [.data, .data, .data], laidTests := true, laidLooks := .later }
def FnExactValTextCardSaid : Prop := Claim7.holds Tryd.pinned (.plain (OpenSpec.ofChange fnExactValTextSpec)) fnExactValTextCard

/-- THE TIED CARD OF 'laws.FnValOne'. -/
def fnValOneCard : Claim7 := { stood := { row := fnValOneRow, standIns := [], harness := (true, "61b55d7b1176409984163c4b774563fb7b29e5a1c46d4200c2bae533eb05d163"), looks := true }, kinds := [], alts := [], laidByText := true, laidKinds := [.data, .data, .data], laidTests := true, laidLooks := .later }
def FnValOneCardSaid : Prop := Claim7.holds Tryd.pinned (.plain (OpenSpec.ofChange fnValOneSpec)) fnValOneCard

/-- THE TIED CARD OF 'laws.FnExactOpText'. -/
def fnExactOpTextCard : Claim7 := { stood := { row := fnExactOpTextRow, standIns := [], harness := (true, "61b55d7b1176409984163c4b774563fb7b29e5a1c46d4200c2bae533eb05d163"), looks := true }, kinds := [], alts := [], laidByText := true, laidKinds := [.data, .data, .data], laidTests := true, laidLooks := .later }
def FnExactOpTextCardSaid : Prop := Claim7.holds Tryd.pinned (.plain (OpenSpec.ofChange fnExactOpTextSpec)) fnExactOpTextCard

/-- THE TIED CARD OF 'laws.FnOpWords'. -/
def fnOpWordsCard : Claim7 := { stood := { row := fnOpWordsRow, standIns := [], harness := (true, "61b55d7b1176409984163c4b774563fb7b29e5a1c46d4200c2bae533eb05d163"), looks := true }, kinds := [], alts := [], laidByText := true, laidKinds := [.data, .data, .data], laidTests := true, laidLooks := .later }
def FnOpWordsCardSaid : Prop := Claim7.holds Tryd.pinned (.plain (OpenSpec.ofChange fnOpWordsSpec)) fnOpWordsCard

/-- THE TIED CARD OF 'laws.FnValBack'. -/
def fnValBackCard : Claim7 := { stood := { row := fnValBackRow, standIns := [], harness := (true, "61b55d7b1176409984163c4b774563fb7b29e5a1c46d4200c2bae533eb05d163"), looks := true }, kinds := [], alts := [], laidByText := true, laidKinds := [.data, .data, .data, .sentinel, .sentinel], laidTests := true, laidLooks := .later }
def FnValBackCardSaid : Prop := Claim7.holds Tryd.pinned (.plain (OpenSpec.ofChange fnValBackSpec)) fnValBackCard

/-- THE TIED CARD OF 'laws.FnValCut'. -/
def fnValCutCard : Claim7 := { stood := { row := fnValCutRow, standIns := [], harness := (true, "61b55d7b1176409984163c4b774563fb7b29e5a1c46d4200c2bae533eb05d163"), looks := true }, kinds := [], alts := [], laidByText := true, laidKinds := [.data, .data, .data, .sentinel, .sentinel], laidTests := true, laidLooks := .later }
def FnValCutCardSaid : Prop := Claim7.holds Tryd.pinned (.plain (OpenSpec.ofChange fnValCutSpec)) fnValCutCard

/-- THE TIED CARD OF 'laws.FnOpOne'. -/
def fnOpOneCard : Claim7 := { stood := { row := fnOpOneRow, standIns := [], harness := (true, "61b55d7b1176409984163c4b774563fb7b29e5a1c46d4200c2bae533eb05d163"), looks := true }, kinds := [], alts := [], laidByText := true, laidKinds := [.data, .data, .data], laidTests := true, laidLooks := .later }
def FnOpOneCardSaid : Prop := Claim7.holds Tryd.pinned (.plain (OpenSpec.ofChange fnOpOneSpec)) fnOpOneCard

/-- THE TIED CARD OF 'laws.FnExactValRead'. -/
def fnExactValReadCard : Claim7 := { stood := { row := fnExactValReadRow, standIns := [], harness := (true, "61b55d7b1176409984163c4b774563fb7b29e5a1c46d4200c2bae533eb05d163"), looks := true }, kinds := [], alts := [], laidByText := true, laidKinds := [.data, .data, .data, .sentinel, .sentinel], laidTests := true, laidLooks := .later }
def FnExactValReadCardSaid : Prop := Claim7.holds Tryd.pinned (.plain (OpenSpec.ofChange fnExactValReadSpec)) fnExactValReadCard

/-- THE TIED CARD OF 'laws.FnExactCodeText'. -/
def fnExactCodeTextCard : Claim7 := { stood := { row := fnExactCodeTextRow, standIns := [], harness := (true, "61b55d7b1176409984163c4b774563fb7b29e5a1c46d4200c2bae533eb05d163"), looks := true }, kinds := [], alts := [], laidByText := true, laidKinds := [.data, .data, .data], laidTests := true, laidLooks := .later }
def FnExactCodeTextCardSaid : Prop := Claim7.holds Tryd.pinned (.plain (OpenSpec.ofChange fnExactCodeTextSpec)) fnExactCodeTextCard

/-- THE TIED CARD OF 'laws.FnValStrict'. -/
def fnValStrictCard : Claim7 := { stood := { row := fnValStrictRow, standIns := [], harness := (true, "61b55d7b1176409984163c4b774563fb7b29e5a1c46d4200c2bae533eb05d163"), looks := true }, kinds := [], alts := [], laidByText := true, laidKinds := [.data, .data, .data, .sentinel, .sentinel], laidTests := true, laidLooks := .later }
def FnValStrictCardSaid : Prop := Claim7.holds Tryd.pinned (.plain (OpenSpec.ofChange fnValStrictSpec)) fnValStrictCard

/-- THE TIED CARD OF 'laws.FnOpBack'. -/
def fnOpBackCard : Claim7 := { stood := { row := fnOpBackRow, standIns := [], harness := (true, "61b55d7b1176409984163c4b774563fb7b29e5a1c46d4200c2bae533eb05d163"), looks := true }, kinds := [], alts := [], laidByText := true, laidKinds := [.data, .data, .data, .data, .sentinel, .sentinel, .pinned], laidTests := true, laidLooks := .later }
def FnOpBackCardSaid : Prop := Claim7.holds Tryd.pinned (.plain (OpenSpec.ofChange fnOpBackSpec)) fnOpBackCard

/-- THE TIED CARD OF 'laws.FnOpCut'. -/
def fnOpCutCard : Claim7 := { stood := { row := fnOpCutRow, standIns := [], harness := (true, "61b55d7b1176409984163c4b774563fb7b29e5a1c46d4200c2bae533eb05d163"), looks := true }, kinds := [], alts := [], laidByText := true, laidKinds := [.data, .data, .data, .data, .sentinel, .sentinel, .pinned], laidTests := true, laidLooks := .later }
def FnOpCutCardSaid : Prop := Claim7.holds Tryd.pinned (.plain (OpenSpec.ofChange fnOpCutSpec)) fnOpCutCard

/-- THE TIED CARD OF 'laws.FnExactOpRead'. -/
def fnExactOpReadCard : Claim7 := { stood := { row := fnExactOpReadRow, standIns := [], harness := (true, "61b55d7b1176409984163c4b774563fb7b29e5a1c46d4200c2bae533eb05d163"), looks := true }, kinds := [], alts := [], laidByText := true, laidKinds := [.data, .data, .data, .data, .sentinel, .sentinel, .pinned], laidTests := true, laidLooks := .later }
def FnExactOpReadCardSaid : Prop := Claim7.holds Tryd.pinned (.plain (OpenSpec.ofChange fnExactOpReadSpec)) fnExactOpReadCard

/-- THE TIED CARD OF 'laws.FnOpStrict'. -/
def fnOpStrictCard : Claim7 := { stood := { row := fnOpStrictRow, standIns := [], harness := (true, "61b55d7b1176409984163c4b774563fb7b29e5a1c46d4200c2bae533eb05d163"), looks := true }, kinds := [], alts := [], laidByText := true, laidKinds := [.data, .data, .data, .data, .sentinel, .sentinel, .pinned], laidTests := true, laidLooks := .later }
def FnOpStrictCardSaid : Prop := Claim7.holds Tryd.pinned (.plain (OpenSpec.ofChange fnOpStrictSpec)) fnOpStrictCard

/-- THE SECOND FORM's CARD OF 'laws.FnExactValText'. -/
def fnExactValTextUptoCard : Claim7 := { stood := { row := fnExactValTextUptoRow, standIns := [], harness := (true, "61b55d7b1176409984163c4b774563fb7b29e5a1c46d4200c2bae533eb05d163"), looks := true }, kinds := [], alts := [], laidByText := true, laidKinds := [.data, .data, .data], laidTests := true, laidLooks := .later }
def FnExactValTextUptoCardSaid : Prop := Claim7.holds Tryd.pinned (.plain (OpenSpec.upto fnExactValTextSpec)) fnExactValTextUptoCard

/-- THE SECOND FORM's CARD OF 'laws.FnValOne'. -/
def fnValOneUptoCard : Claim7 := { stood := { row := fnValOneUptoRow, standIns := [], harness := (true, "61b55d7b1176409984163c4b774563fb7b29e5a1c46d4200c2bae533eb05d163"), looks := true }, kinds := [], alts := [], laidByText := true, laidKinds := [.data, .data, .data], laidTests := true, laidLooks := .later }
def FnValOneUptoCardSaid : Prop := Claim7.holds Tryd.pinned (.plain (OpenSpec.upto fnValOneSpec)) fnValOneUptoCard

/-- THE SECOND FORM's CARD OF 'laws.FnExactOpText'. -/
def fnExactOpTextUptoCard : Claim7 := { stood := { row := fnExactOpTextUptoRow, standIns := [], harness := (true, "61b55d7b1176409984163c4b774563fb7b29e5a1c46d4200c2bae533eb05d163"), looks := true }, kinds := [], alts := [], laidByText := true, laidKinds := [.data, .data, .data], laidTests := true, laidLooks := .later }
def FnExactOpTextUptoCardSaid : Prop := Claim7.holds Tryd.pinned (.plain (OpenSpec.upto fnExactOpTextSpec)) fnExactOpTextUptoCard

/-- THE SECOND FORM's CARD OF 'laws.FnOpWords'. -/
def fnOpWordsUptoCard : Claim7 := { stood := { row := fnOpWordsUptoRow, standIns := [], harness := (true, "61b55d7b1176409984163c4b774563fb7b29e5a1c46d4200c2bae533eb05d163"), looks := true }, kinds := [], alts := [], laidByText := true, laidKinds := [.data, .data, .data], laidTests := true, laidLooks := .later }
def FnOpWordsUptoCardSaid : Prop := Claim7.holds Tryd.pinned (.plain (OpenSpec.upto fnOpWordsSpec)) fnOpWordsUptoCard

/-- THE SECOND FORM's CARD OF 'laws.FnValBack'. -/
def fnValBackUptoCard : Claim7 := { stood := { row := fnValBackUptoRow, standIns := [], harness := (true, "61b55d7b1176409984163c4b774563fb7b29e5a1c46d4200c2bae533eb05d163"), looks := true }, kinds := [], alts := [], laidByText := true, laidKinds := [.data, .data, .data, .sentinel, .sentinel], laidTests := true, laidLooks := .later }
def FnValBackUptoCardSaid : Prop := Claim7.holds Tryd.pinned (.plain (OpenSpec.upto fnValBackSpec)) fnValBackUptoCard

/-- THE SECOND FORM's CARD OF 'laws.FnValCut'. -/
def fnValCutUptoCard : Claim7 := { stood := { row := fnValCutUptoRow, standIns := [], harness := (true, "61b55d7b1176409984163c4b774563fb7b29e5a1c46d4200c2bae533eb05d163"), looks := true }, kinds := [], alts := [], laidByText := true, laidKinds := [.data, .data, .data, .sentinel, .sentinel], laidTests := true, laidLooks := .later }
def FnValCutUptoCardSaid : Prop := Claim7.holds Tryd.pinned (.plain (OpenSpec.upto fnValCutSpec)) fnValCutUptoCard

/-- THE SECOND FORM's CARD OF 'laws.FnOpOne'. -/
def fnOpOneUptoCard : Claim7 := { stood := { row := fnOpOneUptoRow, standIns := [], harness := (true, "61b55d7b1176409984163c4b774563fb7b29e5a1c46d4200c2bae533eb05d163"), looks := true }, kinds := [], alts := [], laidByText := true, laidKinds := [.data, .data, .data], laidTests := true, laidLooks := .later }
def FnOpOneUptoCardSaid : Prop := Claim7.holds Tryd.pinned (.plain (OpenSpec.upto fnOpOneSpec)) fnOpOneUptoCard

/-- THE SECOND FORM's CARD OF 'laws.FnExactValRead'. -/
def fnExactValReadUptoCard : Claim7 := { stood := { row := fnExactValReadUptoRow, standIns := [], harness := (true, "61b55d7b1176409984163c4b774563fb7b29e5a1c46d4200c2bae533eb05d163"), looks := true }, kinds := [], alts := [], laidByText := true, laidKinds := [.data, .data, .data, .sentinel, .sentinel], laidTests := true, laidLooks := .later }
def FnExactValReadUptoCardSaid : Prop := Claim7.holds Tryd.pinned (.plain (OpenSpec.upto fnExactValReadSpec)) fnExactValReadUptoCard

/-- THE SECOND FORM's CARD OF 'laws.FnExactCodeText'. -/
def fnExactCodeTextUptoCard : Claim7 := { stood := { row := fnExactCodeTextUptoRow, standIns := [], harness := (true, "61b55d7b1176409984163c4b774563fb7b29e5a1c46d4200c2bae533eb05d163"), looks := true }, kinds := [], alts := [], laidByText := true, laidKinds := [.data, .data, .data], laidTests := true, laidLooks := .later }
def FnExactCodeTextUptoCardSaid : Prop := Claim7.holds Tryd.pinned (.plain (OpenSpec.upto fnExactCodeTextSpec)) fnExactCodeTextUptoCard

/-- THE SECOND FORM's CARD OF 'laws.FnValStrict'. -/
def fnValStrictUptoCard : Claim7 := { stood := { row := fnValStrictUptoRow, standIns := [], harness := (true, "61b55d7b1176409984163c4b774563fb7b29e5a1c46d4200c2bae533eb05d163"), looks := true }, kinds := [], alts := [], laidByText := true, laidKinds := [.data, .data, .data, .sentinel, .sentinel], laidTests := true, laidLooks := .later }
def FnValStrictUptoCardSaid : Prop := Claim7.holds Tryd.pinned (.plain (OpenSpec.upto fnValStrictSpec)) fnValStrictUptoCard

/-- THE SECOND FORM's CARD OF 'laws.FnOpBack'. -/
def fnOpBackUptoCard : Claim7 := { stood := { row := fnOpBackUptoRow, standIns := [], harness := (true, "61b55d7b1176409984163c4b774563fb7b29e5a1c46d4200c2bae533eb05d163"), looks := true }, kinds := [], alts := [], laidByText := true, laidKinds := [.data, .data, .data, .data, .sentinel, .sentinel, .pinned], laidTests := true, laidLooks := .later }
def FnOpBackUptoCardSaid : Prop := Claim7.holds Tryd.pinned (.plain (OpenSpec.upto fnOpBackSpec)) fnOpBackUptoCard

/-- THE SECOND FORM's CARD OF 'laws.FnOpCut'. -/
def fnOpCutUptoCard : Claim7 := { stood := { row := fnOpCutUptoRow, standIns := [], harness := (true, "61b55d7b1176409984163c4b774563fb7b29e5a1c46d4200c2bae533eb05d163"), looks := true }, kinds := [], alts := [], laidByText := true, laidKinds := [.data, .data, .data, .data, .sentinel, .sentinel, .pinned], laidTests := true, laidLooks := .later }
def FnOpCutUptoCardSaid : Prop := Claim7.holds Tryd.pinned (.plain (OpenSpec.upto fnOpCutSpec)) fnOpCutUptoCard

/-- THE SECOND FORM's CARD OF 'laws.FnExactOpRead'. -/
def fnExactOpReadUptoCard : Claim7 := { stood := { row := fnExactOpReadUptoRow, standIns := [], harness := (true, "61b55d7b1176409984163c4b774563fb7b29e5a1c46d4200c2bae533eb05d163"), looks := true }, kinds := [], alts := [], laidByText := true, laidKinds := [.data, .data, .data, .data, .sentinel, .sentinel, .pinned], laidTests := true, laidLooks := .later }
def FnExactOpReadUptoCardSaid : Prop := Claim7.holds Tryd.pinned (.plain (OpenSpec.upto fnExactOpReadSpec)) fnExactOpReadUptoCard

/-- THE SECOND FORM's CARD OF 'laws.FnOpStrict'. -/
def fnOpStrictUptoCard : Claim7 := { stood := { row := fnOpStrictUptoRow, standIns := [], harness := (true, "61b55d7b1176409984163c4b774563fb7b29e5a1c46d4200c2bae533eb05d163"), looks := true }, kinds := [], alts := [], laidByText := true, laidKinds := [.data, .data, .data, .data, .sentinel, .sentinel, .pinned], laidTests := true, laidLooks := .later }
def FnOpStrictUptoCardSaid : Prop := Claim7.holds Tryd.pinned (.plain (OpenSpec.upto fnOpStrictSpec)) fnOpStrictUptoCard
end Rows
end Go.Proofs.YtmklpbmlgjkbiaaDoor

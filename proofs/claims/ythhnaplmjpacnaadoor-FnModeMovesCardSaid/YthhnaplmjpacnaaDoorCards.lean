/-
  DERIVED. GIVEN WITH THE SEED: THE CARDS: each row of YthhnaplmjpacnaaDoorRows.lean that lists a variable, with what it lists TIED to the program's text (the seventh form; the later family's looks); each row that meets fmt, with fmt's text TOLD by the authors' own Lean function (tested against real Go, not proved from fmt's source: count such statements apart). THE CARD IS WHAT COUNTS. Prove the row's statement (the work); the ties are given (YthhnaplmjpacnaaDoorTie.lean); close each card by the builder's one call (the guide's Derived/Test/ToyasCard.lean, 'card_holds'). Laid BY PROGRAM, IN A SANDBOX (cutbox-door.mjs). By AI agents, Wed Nov 11 2026. No macro, syntax, notation, axiom, sorry.
-/
import Derived.Test.YthhnaplmjpacnaaDoorRows
import GoSem.ClaimSeven
namespace Go.Proofs.YthhnaplmjpacnaaDoor
namespace Rows

/-- THE TIED CARD OF 'laws.FnModeIn'. -/
def fnModeInCard : Claim7 := { stood := { row := fnModeInRow, standIns := [], harness := (true, "e93be2f60d66e622ac5498c952500a5c86038c5d59c06059dd813f6e3bc343fa"), looks := false }, kinds := [], alts := [], laidByText := true, laidKinds := [.data], laidTests := true, laidLooks := .later }
def FnModeInCardSaid : Prop := Claim7.holds Tryd.pinned (.plain (OpenSpec.ofChange fnModeInSpec)) fnModeInCard

/-- THE TIED CARD OF 'laws.FnExactMelodyMove'. -/
def fnExactMelodyMoveCard : Claim7 := { stood := { row := fnExactMelodyMoveRow, standIns := [], harness := (true, "e93be2f60d66e622ac5498c952500a5c86038c5d59c06059dd813f6e3bc343fa"), looks := false }, kinds := [], alts := [], laidByText := true, laidKinds := [.data], laidTests := true, laidLooks := .later }
def FnExactMelodyMoveCardSaid : Prop := Claim7.holds Tryd.pinned (.plain (OpenSpec.ofChange fnExactMelodyMoveSpec)) fnExactMelodyMoveCard

/-- THE TIED CARD OF 'laws.FnModeLikely'. -/
def fnModeLikelyCard : Claim7 := { stood := { row := fnModeLikelyRow, standIns := [], harness := (true, "e93be2f60d66e622ac5498c952500a5c86038c5d59c06059dd813f6e3bc343fa"), looks := false }, kinds := [], alts := [], laidByText := true, laidKinds := [.data], laidTests := true, laidLooks := .later }
def FnModeLikelyCardSaid : Prop := Claim7.holds Tryd.pinned (.plain (OpenSpec.ofChange fnModeLikelySpec)) fnModeLikelyCard

/-- THE TIED CARD OF 'laws.FnMelodyMove'. -/
def fnMelodyMoveCard : Claim7 := { stood := { row := fnMelodyMoveRow, standIns := [], harness := (true, "e93be2f60d66e622ac5498c952500a5c86038c5d59c06059dd813f6e3bc343fa"), looks := false }, kinds := [], alts := [], laidByText := true, laidKinds := [.data], laidTests := true, laidLooks := .later }
def FnMelodyMoveCardSaid : Prop := Claim7.holds Tryd.pinned (.plain (OpenSpec.ofChange fnMelodyMoveSpec)) fnMelodyMoveCard

/-- THE TIED CARD OF 'laws.FnMelodySame'. -/
def fnMelodySameCard : Claim7 := { stood := { row := fnMelodySameRow, standIns := [], harness := (true, "e93be2f60d66e622ac5498c952500a5c86038c5d59c06059dd813f6e3bc343fa"), looks := false }, kinds := [], alts := [], laidByText := true, laidKinds := [.data], laidTests := true, laidLooks := .later }
def FnMelodySameCardSaid : Prop := Claim7.holds Tryd.pinned (.plain (OpenSpec.ofChange fnMelodySameSpec)) fnMelodySameCard

/-- THE TIED CARD OF 'laws.FnExactToneInterval'. -/
def fnExactToneIntervalCard : Claim7 := { stood := { row := fnExactToneIntervalRow, standIns := [], harness := (true, "e93be2f60d66e622ac5498c952500a5c86038c5d59c06059dd813f6e3bc343fa"), looks := false }, kinds := [], alts := [], laidByText := true, laidKinds := [.data, .data, .data, .data, .data], laidTests := true, laidLooks := .later }
def FnExactToneIntervalCardSaid : Prop := Claim7.holds Tryd.pinned (.plain (OpenSpec.ofChange fnExactToneIntervalSpec)) fnExactToneIntervalCard

/-- THE TIED CARD OF 'laws.FnModeMoves'. -/
def fnModeMovesCard : Claim7 := { stood := { row := fnModeMovesRow, standIns := [], harness := (true, "e93be2f60d66e622ac5498c952500a5c86038c5d59c06059dd813f6e3bc343fa"), looks := false }, kinds := [], alts := [], laidByText := true, laidKinds := [.data, .data], laidTests := true, laidLooks := .later }
def FnModeMovesCardSaid : Prop := Claim7.holds Tryd.pinned (.plain (OpenSpec.ofChange fnModeMovesSpec)) fnModeMovesCard

/-- THE TIED CARD OF 'laws.FnExactModeMoves'. -/
def fnExactModeMovesCard : Claim7 := { stood := { row := fnExactModeMovesRow, standIns := [], harness := (true, "e93be2f60d66e622ac5498c952500a5c86038c5d59c06059dd813f6e3bc343fa"), looks := false }, kinds := [], alts := [], laidByText := true, laidKinds := [.data, .data], laidTests := true, laidLooks := .later }
def FnExactModeMovesCardSaid : Prop := Claim7.holds Tryd.pinned (.plain (OpenSpec.ofChange fnExactModeMovesSpec)) fnExactModeMovesCard

/-- THE TIED CARD OF 'laws.FnExactPsalmMove'. -/
def fnExactPsalmMoveCard : Claim7 := { stood := { row := fnExactPsalmMoveRow, standIns := [], harness := (true, "e93be2f60d66e622ac5498c952500a5c86038c5d59c06059dd813f6e3bc343fa"), looks := false }, kinds := [], alts := [], laidByText := true, laidKinds := [.data], laidTests := true, laidLooks := .later }
def FnExactPsalmMoveCardSaid : Prop := Claim7.holds Tryd.pinned (.plain (OpenSpec.ofChange fnExactPsalmMoveSpec)) fnExactPsalmMoveCard

/-- THE TIED CARD OF 'laws.FnInterval'. -/
def fnIntervalCard : Claim7 := { stood := { row := fnIntervalRow, standIns := [], harness := (true, "e93be2f60d66e622ac5498c952500a5c86038c5d59c06059dd813f6e3bc343fa"), looks := false }, kinds := [], alts := [], laidByText := true, laidKinds := [.data, .data, .data, .data, .data], laidTests := true, laidLooks := .later }
def FnIntervalCardSaid : Prop := Claim7.holds Tryd.pinned (.plain (OpenSpec.ofChange fnIntervalSpec)) fnIntervalCard

/-- THE TIED CARD OF 'laws.FnIntervalSemis'. -/
def fnIntervalSemisCard : Claim7 := { stood := { row := fnIntervalSemisRow, standIns := [], harness := (true, "e93be2f60d66e622ac5498c952500a5c86038c5d59c06059dd813f6e3bc343fa"), looks := false }, kinds := [], alts := [], laidByText := true, laidKinds := [.data, .data, .data, .data, .data], laidTests := true, laidLooks := .later }
def FnIntervalSemisCardSaid : Prop := Claim7.holds Tryd.pinned (.plain (OpenSpec.ofChange fnIntervalSemisSpec)) fnIntervalSemisCard

/-- THE SECOND FORM's CARD OF 'laws.FnModeIn'. -/
def fnModeInUptoCard : Claim7 := { stood := { row := fnModeInUptoRow, standIns := [], harness := (true, "e93be2f60d66e622ac5498c952500a5c86038c5d59c06059dd813f6e3bc343fa"), looks := false }, kinds := [], alts := [], laidByText := true, laidKinds := [.data], laidTests := true, laidLooks := .later }
def FnModeInUptoCardSaid : Prop := Claim7.holds Tryd.pinned (.plain (OpenSpec.upto fnModeInSpec)) fnModeInUptoCard

/-- THE SECOND FORM's CARD OF 'laws.FnExactMelodyMove'. -/
def fnExactMelodyMoveUptoCard : Claim7 := { stood := { row := fnExactMelodyMoveUptoRow, standIns := [], harness := (true, "e93be2f60d66e622ac5498c952500a5c86038c5d59c06059dd813f6e3bc343fa"), looks := false }, kinds := [], alts := [], laidByText := true, laidKinds := [.data], laidTests := true, laidLooks := .later }
def FnExactMelodyMoveUptoCardSaid : Prop := Claim7.holds Tryd.pinned (.plain (OpenSpec.upto fnExactMelodyMoveSpec)) fnExactMelodyMoveUptoCard

/-- THE SECOND FORM's CARD OF 'laws.FnModeLikely'. -/
def fnModeLikelyUptoCard : Claim7 := { stood := { row := fnModeLikelyUptoRow, standIns := [], harness := (true, "e93be2f60d66e622ac5498c952500a5c86038c5d59c06059dd813f6e3bc343fa"), looks := false }, kinds := [], alts := [], laidByText := true, laidKinds := [.data], laidTests := true, laidLooks := .later }
def FnModeLikelyUptoCardSaid : Prop := Claim7.holds Tryd.pinned (.plain (OpenSpec.upto fnModeLikelySpec)) fnModeLikelyUptoCard

/-- THE SECOND FORM's CARD OF 'laws.FnMelodyMove'. -/
def fnMelodyMoveUptoCard : Claim7 := { stood := { row := fnMelodyMoveUptoRow, standIns := [], harness := (true, "e93be2f60d66e622ac5498c952500a5c86038c5d59c06059dd813f6e3bc343fa"), looks := false }, kinds := [], alts := [], laidByText := true, laidKinds := [.data], laidTests := true, laidLooks := .later }
def FnMelodyMoveUptoCardSaid : Prop := Claim7.holds Tryd.pinned (.plain (OpenSpec.upto fnMelodyMoveSpec)) fnMelodyMoveUptoCard

/-- THE SECOND FORM's CARD OF 'laws.FnMelodySame'. -/
def fnMelodySameUptoCard : Claim7 := { stood := { row := fnMelodySameUptoRow, standIns := [], harness := (true, "e93be2f60d66e622ac5498c952500a5c86038c5d59c06059dd813f6e3bc343fa"), looks := false }, kinds := [], alts := [], laidByText := true, laidKinds := [.data], laidTests := true, laidLooks := .later }
def FnMelodySameUptoCardSaid : Prop := Claim7.holds Tryd.pinned (.plain (OpenSpec.upto fnMelodySameSpec)) fnMelodySameUptoCard

/-- THE SECOND FORM's CARD OF 'laws.FnExactToneInterval'. -/
def fnExactToneIntervalUptoCard : Claim7 := { stood := { row := fnExactToneIntervalUptoRow, standIns := [], harness := (true, "e93be2f60d66e622ac5498c952500a5c86038c5d59c06059dd813f6e3bc343fa"), looks := false }, kinds := [], alts := [], laidByText := true, laidKinds := [.data, .data, .data, .data, .data], laidTests := true, laidLooks := .later }
def FnExactToneIntervalUptoCardSaid : Prop := Claim7.holds Tryd.pinned (.plain (OpenSpec.upto fnExactToneIntervalSpec)) fnExactToneIntervalUptoCard

/-- THE SECOND FORM's CARD OF 'laws.FnModeMoves'. -/
def fnModeMovesUptoCard : Claim7 := { stood := { row := fnModeMovesUptoRow, standIns := [], harness := (true, "e93be2f60d66e622ac5498c952500a5c86038c5d59c06059dd813f6e3bc343fa"), looks := false }, kinds := [], alts := [], laidByText := true, laidKinds := [.data, .data], laidTests := true, laidLooks := .later }
def FnModeMovesUptoCardSaid : Prop := Claim7.holds Tryd.pinned (.plain (OpenSpec.upto fnModeMovesSpec)) fnModeMovesUptoCard

/-- THE SECOND FORM's CARD OF 'laws.FnExactModeMoves'. -/
def fnExactModeMovesUptoCard : Claim7 := { stood := { row := fnExactModeMovesUptoRow, standIns := [], harness := (true, "e93be2f60d66e622ac5498c952500a5c86038c5d59c06059dd813f6e3bc343fa"), looks := false }, kinds := [], alts := [], laidByText := true, laidKinds := [.data, .data], laidTests := true, laidLooks := .later }
def FnExactModeMovesUptoCardSaid : Prop := Claim7.holds Tryd.pinned (.plain (OpenSpec.upto fnExactModeMovesSpec)) fnExactModeMovesUptoCard

/-- THE SECOND FORM's CARD OF 'laws.FnExactPsalmMove'. -/
def fnExactPsalmMoveUptoCard : Claim7 := { stood := { row := fnExactPsalmMoveUptoRow, standIns := [], harness := (true, "e93be2f60d66e622ac5498c952500a5c86038c5d59c06059dd813f6e3bc343fa"), looks := false }, kinds := [], alts := [], laidByText := true, laidKinds := [.data], laidTests := true, laidLooks := .later }
def FnExactPsalmMoveUptoCardSaid : Prop := Claim7.holds Tryd.pinned (.plain (OpenSpec.upto fnExactPsalmMoveSpec)) fnExactPsalmMoveUptoCard

/-- THE SECOND FORM's CARD OF 'laws.FnInterval'. -/
def fnIntervalUptoCard : Claim7 := { stood := { row := fnIntervalUptoRow, standIns := [], harness := (true, "e93be2f60d66e622ac5498c952500a5c86038c5d59c06059dd813f6e3bc343fa"), looks := false }, kinds := [], alts := [], laidByText := true, laidKinds := [.data, .data, .data, .data, .data], laidTests := true, laidLooks := .later }
def FnIntervalUptoCardSaid : Prop := Claim7.holds Tryd.pinned (.plain (OpenSpec.upto fnIntervalSpec)) fnIntervalUptoCard

/-- THE SECOND FORM's CARD OF 'laws.FnIntervalSemis'. -/
def fnIntervalSemisUptoCard : Claim7 := { stood := { row := fnIntervalSemisUptoRow, standIns := [], harness := (true, "e93be2f60d66e622ac5498c952500a5c86038c5d59c06059dd813f6e3bc343fa"), looks := false }, kinds := [], alts := [], laidByText := true, laidKinds := [.data, .data, .data, .data, .data], laidTests := true, laidLooks := .later }
def FnIntervalSemisUptoCardSaid : Prop := Claim7.holds Tryd.pinned (.plain (OpenSpec.upto fnIntervalSemisSpec)) fnIntervalSemisUptoCard
end Rows
end Go.Proofs.YthhnaplmjpacnaaDoor

/-
  DERIVED. GIVEN WITH THE SEED: THE CARDS: each row of YtpcohkffbjdmfaaDoorRows.lean that lists a variable, with what it lists TIED to the program's text (the seventh form; the later family's looks); each row that meets fmt, with fmt's text TOLD by the authors' own Lean function (tested against real Go, not proved from fmt's source: count such statements apart). THE CARD IS WHAT COUNTS. Prove the row's statement (the work); the ties are given (YtpcohkffbjdmfaaDoorTie.lean); close each card by the builder's one call (the guide's Derived/Test/ToyasCard.lean, 'card_holds'). Laid BY PROGRAM, IN A SANDBOX (cutbox-door.mjs). By AI agents, Wed Nov 11 2026. No macro, syntax, notation, axiom, sorry.
-/
import Derived.Test.YtpcohkffbjdmfaaDoorRows
import GoSem.ClaimSeven
namespace Go.Proofs.YtpcohkffbjdmfaaDoor
namespace Rows

/-- THE TIED CARD OF 'laws.FnExactPsalmMove'. -/
def fnExactPsalmMoveCard : Claim7 := { stood := { row := fnExactPsalmMoveRow, standIns := [], harness := (true, "1077fa578ec6498e3aeb515cb46c201c7dca4cd6de0357f248a6c7c043781993"), looks := false }, kinds := [], alts := [], laidByText := true, laidKinds := [.data], laidTests := true, laidLooks := .later }
def FnExactPsalmMoveCardSaid : Prop := Claim7.holds Tryd.pinned (.plain (OpenSpec.ofChange fnExactPsalmMoveSpec)) fnExactPsalmMoveCard

/-- THE TIED CARD OF 'laws.FnExactPsalmFits'. -/
def fnExactPsalmFitsCard : Claim7 := { stood := { row := fnExactPsalmFitsRow, standIns := [], harness := (true, "1077fa578ec6498e3aeb515cb46c201c7dca4cd6de0357f248a6c7c043781993"), looks := false }, kinds := [], alts := [], laidByText := true, laidKinds := [.data, .pinned], laidTests := true, laidLooks := .later }
def FnExactPsalmFitsCardSaid : Prop := Claim7.holds Tryd.pinned (.plain (OpenSpec.ofChange fnExactPsalmFitsSpec)) fnExactPsalmFitsCard

/-- THE TIED CARD OF 'laws.FnReadRead'. -/
def fnReadReadCard : Claim7 := { stood := { row := fnReadReadRow, standIns := [], harness := (true, "1077fa578ec6498e3aeb515cb46c201c7dca4cd6de0357f248a6c7c043781993"), looks := false }, kinds := [], alts := [], laidByText := true, laidKinds := [.data], laidTests := true, laidLooks := .later }
def FnReadReadCardSaid : Prop := Claim7.holds Tryd.pinned (.plain (OpenSpec.ofChange fnReadReadSpec)) fnReadReadCard

/-- THE TIED CARD OF 'laws.FnSingMany'. -/
def fnSingManyCard : Claim7 := { stood := { row := fnSingManyRow, standIns := [], harness := (true, "1077fa578ec6498e3aeb515cb46c201c7dca4cd6de0357f248a6c7c043781993"), looks := false }, kinds := [], alts := [], laidByText := true, laidKinds := [.data], laidTests := true, laidLooks := .later }
def FnSingManyCardSaid : Prop := Claim7.holds Tryd.pinned (.plain (OpenSpec.ofChange fnSingManySpec)) fnSingManyCard

/-- THE TIED CARD OF 'laws.FnExactSingBest'. -/
def fnExactSingBestCard : Claim7 := { stood := { row := fnExactSingBestRow, standIns := [], harness := (true, "1077fa578ec6498e3aeb515cb46c201c7dca4cd6de0357f248a6c7c043781993"), looks := false }, kinds := [], alts := [], laidByText := true, laidKinds := [.data], laidTests := true, laidLooks := .later }
def FnExactSingBestCardSaid : Prop := Claim7.holds Tryd.pinned (.plain (OpenSpec.ofChange fnExactSingBestSpec)) fnExactSingBestCard

/-- THE TIED CARD OF 'laws.FnContour'. -/
def fnContourCard : Claim7 := { stood := { row := fnContourRow, standIns := [], harness := (true, "1077fa578ec6498e3aeb515cb46c201c7dca4cd6de0357f248a6c7c043781993"), looks := false }, kinds := [], alts := [], laidByText := true, laidKinds := [.data, .data, .pinned], laidTests := true, laidLooks := .later }
def FnContourCardSaid : Prop := Claim7.holds Tryd.pinned (.plain (OpenSpec.ofChange fnContourSpec)) fnContourCard

/-- THE SECOND FORM's CARD OF 'laws.FnExactPsalmMove'. -/
def fnExactPsalmMoveUptoCard : Claim7 := { stood := { row := fnExactPsalmMoveUptoRow, standIns := [], harness := (true, "1077fa578ec6498e3aeb515cb46c201c7dca4cd6de0357f248a6c7c043781993"), looks := false }, kinds := [], alts := [], laidByText := true, laidKinds := [.data], laidTests := true, laidLooks := .later }
def FnExactPsalmMoveUptoCardSaid : Prop := Claim7.holds Tryd.pinned (.plain (OpenSpec.upto fnExactPsalmMoveSpec)) fnExactPsalmMoveUptoCard

/-- THE SECOND FORM's CARD OF 'laws.FnExactPsalmFits'. -/
def fnExactPsalmFitsUptoCard : Claim7 := { stood := { row := fnExactPsalmFitsUptoRow, standIns := [], harness := (true, "1077fa578ec6498e3aeb515cb46c201c7dca4cd6de0357f248a6c7c043781993"), looks := false }, kinds := [], alts := [], laidByText := true, laidKinds := [.data, .pinned], laidTests := true, laidLooks := .later }
def FnExactPsalmFitsUptoCardSaid : Prop := Claim7.holds Tryd.pinned (.plain (OpenSpec.upto fnExactPsalmFitsSpec)) fnExactPsalmFitsUptoCard

/-- THE SECOND FORM's CARD OF 'laws.FnReadRead'. -/
def fnReadReadUptoCard : Claim7 := { stood := { row := fnReadReadUptoRow, standIns := [], harness := (true, "1077fa578ec6498e3aeb515cb46c201c7dca4cd6de0357f248a6c7c043781993"), looks := false }, kinds := [], alts := [], laidByText := true, laidKinds := [.data], laidTests := true, laidLooks := .later }
def FnReadReadUptoCardSaid : Prop := Claim7.holds Tryd.pinned (.plain (OpenSpec.upto fnReadReadSpec)) fnReadReadUptoCard

/-- THE SECOND FORM's CARD OF 'laws.FnSingMany'. -/
def fnSingManyUptoCard : Claim7 := { stood := { row := fnSingManyUptoRow, standIns := [], harness := (true, "1077fa578ec6498e3aeb515cb46c201c7dca4cd6de0357f248a6c7c043781993"), looks := false }, kinds := [], alts := [], laidByText := true, laidKinds := [.data], laidTests := true, laidLooks := .later }
def FnSingManyUptoCardSaid : Prop := Claim7.holds Tryd.pinned (.plain (OpenSpec.upto fnSingManySpec)) fnSingManyUptoCard

/-- THE SECOND FORM's CARD OF 'laws.FnExactSingBest'. -/
def fnExactSingBestUptoCard : Claim7 := { stood := { row := fnExactSingBestUptoRow, standIns := [], harness := (true, "1077fa578ec6498e3aeb515cb46c201c7dca4cd6de0357f248a6c7c043781993"), looks := false }, kinds := [], alts := [], laidByText := true, laidKinds := [.data], laidTests := true, laidLooks := .later }
def FnExactSingBestUptoCardSaid : Prop := Claim7.holds Tryd.pinned (.plain (OpenSpec.upto fnExactSingBestSpec)) fnExactSingBestUptoCard

/-- THE SECOND FORM's CARD OF 'laws.FnContour'. -/
def fnContourUptoCard : Claim7 := { stood := { row := fnContourUptoRow, standIns := [], harness := (true, "1077fa578ec6498e3aeb515cb46c201c7dca4cd6de0357f248a6c7c043781993"), looks := false }, kinds := [], alts := [], laidByText := true, laidKinds := [.data, .data, .pinned], laidTests := true, laidLooks := .later }
def FnContourUptoCardSaid : Prop := Claim7.holds Tryd.pinned (.plain (OpenSpec.upto fnContourSpec)) fnContourUptoCard
end Rows
end Go.Proofs.YtpcohkffbjdmfaaDoor

/-
  DERIVED. GIVEN WITH THE SEED: THE CARDS: each row of YtkahgjejebhgnaaDoorRows.lean that lists a variable, with what it lists TIED to the program's text (the seventh form; the later family's looks); each row that meets fmt, with fmt's text TOLD by the authors' own Lean function (tested against real Go, not proved from fmt's source: count such statements apart). THE CARD IS WHAT COUNTS. Prove the row's statement (the work); the ties are given (YtkahgjejebhgnaaDoorTie.lean); close each card by the builder's one call (the guide's Derived/Test/ToyasCard.lean, 'card_holds'). Laid BY PROGRAM, IN A SANDBOX (cutbox-door.mjs). By AI agents, Wed Nov 11 2026. No macro, syntax, notation, axiom, sorry.
-/
import Derived.Test.YtkahgjejebhgnaaDoorRows
import GoSem.ClaimSeven
namespace Go.Proofs.YtkahgjejebhgnaaDoor
namespace Rows

/-- THE TIED CARD OF 'laws.FnExactMelodyMove'. -/
def fnExactMelodyMoveCard : Claim7 := { stood := { row := fnExactMelodyMoveRow, standIns := [], harness := (true, "f0f0d01da9137dea46c4fdd3b9bc0e4d55e2df6f78bc452e83381e59b9ec37ed"), looks := false }, kinds := [], alts := [], laidByText := true, laidKinds := [.data], laidTests := true, laidLooks := .later }
def FnExactMelodyMoveCardSaid : Prop := Claim7.holds Tryd.pinned (.plain (OpenSpec.ofChange fnExactMelodyMoveSpec)) fnExactMelodyMoveCard

/-- THE TIED CARD OF 'laws.FnExactTonaryJoin'. -/
def fnExactTonaryJoinCard : Claim7 := { stood := { row := fnExactTonaryJoinRow, standIns := [], harness := (true, "f0f0d01da9137dea46c4fdd3b9bc0e4d55e2df6f78bc452e83381e59b9ec37ed"), looks := false }, kinds := [], alts := [], laidByText := true, laidKinds := [.data], laidTests := true, laidLooks := .later }
def FnExactTonaryJoinCardSaid : Prop := Claim7.holds Tryd.pinned (.plain (OpenSpec.ofChange fnExactTonaryJoinSpec)) fnExactTonaryJoinCard

/-- THE TIED CARD OF 'laws.FnExactModeAll'. -/
def fnExactModeAllCard : Claim7 := { stood := { row := fnExactModeAllRow, standIns := [], harness := (true, "f0f0d01da9137dea46c4fdd3b9bc0e4d55e2df6f78bc452e83381e59b9ec37ed"), looks := false }, kinds := [], alts := [], laidByText := true, laidKinds := [.data], laidTests := true, laidLooks := .later }
def FnExactModeAllCardSaid : Prop := Claim7.holds Tryd.pinned (.plain (OpenSpec.ofChange fnExactModeAllSpec)) fnExactModeAllCard

/-- THE TIED CARD OF 'laws.FnExactTonaryValid'. -/
def fnExactTonaryValidCard : Claim7 := { stood := { row := fnExactTonaryValidRow, standIns := [], harness := (true, "f0f0d01da9137dea46c4fdd3b9bc0e4d55e2df6f78bc452e83381e59b9ec37ed"), looks := false }, kinds := [], alts := [], laidByText := true, laidKinds := [.data], laidTests := true, laidLooks := .later }
def FnExactTonaryValidCardSaid : Prop := Claim7.holds Tryd.pinned (.plain (OpenSpec.ofChange fnExactTonaryValidSpec)) fnExactTonaryValidCard

/-- THE TIED CARD OF 'laws.FnReadRead'. -/
def fnReadReadCard : Claim7 := { stood := { row := fnReadReadRow, standIns := [], harness := (true, "f0f0d01da9137dea46c4fdd3b9bc0e4d55e2df6f78bc452e83381e59b9ec37ed"), looks := false }, kinds := [], alts := [], laidByText := true, laidKinds := [.data], laidTests := true, laidLooks := .later }
def FnReadReadCardSaid : Prop := Claim7.holds Tryd.pinned (.plain (OpenSpec.ofChange fnReadReadSpec)) fnReadReadCard

/-- THE TIED CARD OF 'laws.FnExactModeLikely'. -/
def fnExactModeLikelyCard : Claim7 := { stood := { row := fnExactModeLikelyRow, standIns := [], harness := (true, "f0f0d01da9137dea46c4fdd3b9bc0e4d55e2df6f78bc452e83381e59b9ec37ed"), looks := false }, kinds := [], alts := [], laidByText := true, laidKinds := [.data], laidTests := true, laidLooks := .later }
def FnExactModeLikelyCardSaid : Prop := Claim7.holds Tryd.pinned (.plain (OpenSpec.ofChange fnExactModeLikelySpec)) fnExactModeLikelyCard

/-- THE SECOND FORM's CARD OF 'laws.FnExactMelodyMove'. -/
def fnExactMelodyMoveUptoCard : Claim7 := { stood := { row := fnExactMelodyMoveUptoRow, standIns := [], harness := (true, "f0f0d01da9137dea46c4fdd3b9bc0e4d55e2df6f78bc452e83381e59b9ec37ed"), looks := false }, kinds := [], alts := [], laidByText := true, laidKinds := [.data], laidTests := true, laidLooks := .later }
def FnExactMelodyMoveUptoCardSaid : Prop := Claim7.holds Tryd.pinned (.plain (OpenSpec.upto fnExactMelodyMoveSpec)) fnExactMelodyMoveUptoCard

/-- THE SECOND FORM's CARD OF 'laws.FnExactTonaryJoin'. -/
def fnExactTonaryJoinUptoCard : Claim7 := { stood := { row := fnExactTonaryJoinUptoRow, standIns := [], harness := (true, "f0f0d01da9137dea46c4fdd3b9bc0e4d55e2df6f78bc452e83381e59b9ec37ed"), looks := false }, kinds := [], alts := [], laidByText := true, laidKinds := [.data], laidTests := true, laidLooks := .later }
def FnExactTonaryJoinUptoCardSaid : Prop := Claim7.holds Tryd.pinned (.plain (OpenSpec.upto fnExactTonaryJoinSpec)) fnExactTonaryJoinUptoCard

/-- THE SECOND FORM's CARD OF 'laws.FnExactModeAll'. -/
def fnExactModeAllUptoCard : Claim7 := { stood := { row := fnExactModeAllUptoRow, standIns := [], harness := (true, "f0f0d01da9137dea46c4fdd3b9bc0e4d55e2df6f78bc452e83381e59b9ec37ed"), looks := false }, kinds := [], alts := [], laidByText := true, laidKinds := [.data], laidTests := true, laidLooks := .later }
def FnExactModeAllUptoCardSaid : Prop := Claim7.holds Tryd.pinned (.plain (OpenSpec.upto fnExactModeAllSpec)) fnExactModeAllUptoCard

/-- THE SECOND FORM's CARD OF 'laws.FnExactTonaryValid'. -/
def fnExactTonaryValidUptoCard : Claim7 := { stood := { row := fnExactTonaryValidUptoRow, standIns := [], harness := (true, "f0f0d01da9137dea46c4fdd3b9bc0e4d55e2df6f78bc452e83381e59b9ec37ed"), looks := false }, kinds := [], alts := [], laidByText := true, laidKinds := [.data], laidTests := true, laidLooks := .later }
def FnExactTonaryValidUptoCardSaid : Prop := Claim7.holds Tryd.pinned (.plain (OpenSpec.upto fnExactTonaryValidSpec)) fnExactTonaryValidUptoCard

/-- THE SECOND FORM's CARD OF 'laws.FnReadRead'. -/
def fnReadReadUptoCard : Claim7 := { stood := { row := fnReadReadUptoRow, standIns := [], harness := (true, "f0f0d01da9137dea46c4fdd3b9bc0e4d55e2df6f78bc452e83381e59b9ec37ed"), looks := false }, kinds := [], alts := [], laidByText := true, laidKinds := [.data], laidTests := true, laidLooks := .later }
def FnReadReadUptoCardSaid : Prop := Claim7.holds Tryd.pinned (.plain (OpenSpec.upto fnReadReadSpec)) fnReadReadUptoCard

/-- THE SECOND FORM's CARD OF 'laws.FnExactModeLikely'. -/
def fnExactModeLikelyUptoCard : Claim7 := { stood := { row := fnExactModeLikelyUptoRow, standIns := [], harness := (true, "f0f0d01da9137dea46c4fdd3b9bc0e4d55e2df6f78bc452e83381e59b9ec37ed"), looks := false }, kinds := [], alts := [], laidByText := true, laidKinds := [.data], laidTests := true, laidLooks := .later }
def FnExactModeLikelyUptoCardSaid : Prop := Claim7.holds Tryd.pinned (.plain (OpenSpec.upto fnExactModeLikelySpec)) fnExactModeLikelyUptoCard
end Rows
end Go.Proofs.YtkahgjejebhgnaaDoor

/-
  DERIVED. GIVEN WITH THE SEED: THE CARDS: each row of YtknfnmdfdkdipaaDoorRows.lean that lists a variable, with what it lists TIED to the program's text (the seventh form; the later family's looks); each row that meets fmt, with fmt's text TOLD by the authors' own Lean function (tested against real Go, not proved from fmt's source: count such statements apart). THE CARD IS WHAT COUNTS. Prove the row's statement (the work); the ties are given (YtknfnmdfdkdipaaDoorTie.lean); close each card by the builder's one call (the guide's Derived/Test/ToyasCard.lean, 'card_holds'). Laid BY PROGRAM, IN A SANDBOX (cutbox-door.mjs). By AI agents, Wed Nov 11 2026. No macro, syntax, notation, axiom, sorry.
-/
import Derived.Test.YtknfnmdfdkdipaaDoorRows
import GoSem.ClaimSeven
namespace Go.Proofs.YtknfnmdfdkdipaaDoor
namespace Rows

/-- THE TIED CARD OF 'laws.FnTonaryAdd'. -/
def fnTonaryAddCard : Claim7 := { stood := { row := fnTonaryAddRow, standIns := [], harness := (true, "74bc58e16bb002532abe99c4bee3c6866dc4d8777db39a5a23abaadaaeb2fcbe"), looks := false }, kinds := [], alts := [], laidByText := true, laidKinds := [.data, .data], laidTests := true, laidLooks := .later }
def FnTonaryAddCardSaid : Prop := Claim7.holds Tryd.pinned (.plain (OpenSpec.ofChange fnTonaryAddSpec)) fnTonaryAddCard

/-- THE SECOND FORM's CARD OF 'laws.FnTonaryAdd'. -/
def fnTonaryAddUptoCard : Claim7 := { stood := { row := fnTonaryAddUptoRow, standIns := [], harness := (true, "74bc58e16bb002532abe99c4bee3c6866dc4d8777db39a5a23abaadaaeb2fcbe"), looks := false }, kinds := [], alts := [], laidByText := true, laidKinds := [.data, .data], laidTests := true, laidLooks := .later }
def FnTonaryAddUptoCardSaid : Prop := Claim7.holds Tryd.pinned (.plain (OpenSpec.upto fnTonaryAddSpec)) fnTonaryAddUptoCard
end Rows
end Go.Proofs.YtknfnmdfdkdipaaDoor

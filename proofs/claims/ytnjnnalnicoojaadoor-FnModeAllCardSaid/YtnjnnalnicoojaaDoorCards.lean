/-
  DERIVED. GIVEN WITH THE SEED: THE CARDS: each row of YtnjnnalnicoojaaDoorRows.lean that lists a variable, with what it lists TIED to the program's text (the seventh form; the later family's looks); each row that meets fmt, with fmt's text TOLD by the authors' own Lean function (tested against real Go, not proved from fmt's source: count such statements apart). THE CARD IS WHAT COUNTS. Prove the row's statement (the work); the ties are given (YtnjnnalnicoojaaDoorTie.lean); close each card by the builder's one call (the guide's Derived/Test/ToyasCard.lean, 'card_holds'). Laid BY PROGRAM, IN A SANDBOX (cutbox-door.mjs). By AI agents, Wed Nov 11 2026. No macro, syntax, notation, axiom, sorry.
-/
import Derived.Test.YtnjnnalnicoojaaDoorRows
import GoSem.ClaimSeven
namespace Go.Proofs.YtnjnnalnicoojaaDoor
namespace Rows

/-- THE TIED CARD OF 'laws.FnModeIn'. -/
def fnModeInCard : Claim7 := { stood := { row := fnModeInRow, standIns := [], harness := (true, "13a7c6b2b14d0dc1ee6d87a957b1e5d3e4e4373776779e0f9e5f9efaf1fa23b1"), looks := false }, kinds := [], alts := [], laidByText := true, laidKinds := [.data], laidTests := true, laidLooks := .later }
def FnModeInCardSaid : Prop := Claim7.holds Tryd.pinned (.plain (OpenSpec.ofChange fnModeInSpec)) fnModeInCard

/-- THE TIED CARD OF 'laws.FnModeAll'. -/
def fnModeAllCard : Claim7 := { stood := { row := fnModeAllRow, standIns := [], harness := (true, "13a7c6b2b14d0dc1ee6d87a957b1e5d3e4e4373776779e0f9e5f9efaf1fa23b1"), looks := false }, kinds := [], alts := [], laidByText := true, laidKinds := [.data], laidTests := true, laidLooks := .later }
def FnModeAllCardSaid : Prop := Claim7.holds Tryd.pinned (.plain (OpenSpec.ofChange fnModeAllSpec)) fnModeAllCard

/-- THE SECOND FORM's CARD OF 'laws.FnModeIn'. -/
def fnModeInUptoCard : Claim7 := { stood := { row := fnModeInUptoRow, standIns := [], harness := (true, "13a7c6b2b14d0dc1ee6d87a957b1e5d3e4e4373776779e0f9e5f9efaf1fa23b1"), looks := false }, kinds := [], alts := [], laidByText := true, laidKinds := [.data], laidTests := true, laidLooks := .later }
def FnModeInUptoCardSaid : Prop := Claim7.holds Tryd.pinned (.plain (OpenSpec.upto fnModeInSpec)) fnModeInUptoCard

/-- THE SECOND FORM's CARD OF 'laws.FnModeAll'. -/
def fnModeAllUptoCard : Claim7 := { stood := { row := fnModeAllUptoRow, standIns := [], harness := (true, "13a7c6b2b14d0dc1ee6d87a957b1e5d3e4e4373776779e0f9e5f9efaf1fa23b1"), looks := false }, kinds := [], alts := [], laidByText := true, laidKinds := [.data], laidTests := true, laidLooks := .later }
def FnModeAllUptoCardSaid : Prop := Claim7.holds Tryd.pinned (.plain (OpenSpec.upto fnModeAllSpec)) fnModeAllUptoCard
end Rows
end Go.Proofs.YtnjnnalnicoojaaDoor

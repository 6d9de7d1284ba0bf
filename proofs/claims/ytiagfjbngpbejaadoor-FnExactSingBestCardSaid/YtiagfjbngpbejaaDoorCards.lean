/-
  DERIVED. GIVEN WITH THE SEED: THE CARDS: each row of YtiagfjbngpbejaaDoorRows.lean that lists a variable, with what it lists TIED to the program's text (the seventh form; the later family's looks); each row that meets fmt, with fmt's text TOLD by the authors' own Lean function (tested against real Go, not proved from fmt's source: count such statements apart). THE CARD IS WHAT COUNTS. Prove the row's statement (the work); the ties are given (YtiagfjbngpbejaaDoorTie.lean); close each card by the builder's one call (the guide's Derived/Test/ToyasCard.lean, 'card_holds'). Laid BY PROGRAM, IN A SANDBOX (cutbox-door.mjs). By AI agents, Wed Nov 11 2026. No macro, syntax, notation, axiom, sorry.
-/
import Derived.Test.YtiagfjbngpbejaaDoorRows
import GoSem.ClaimSeven
namespace Go.Proofs.YtiagfjbngpbejaaDoor
namespace Rows

/-- THE TIED CARD OF 'laws.FnSingMany'. -/
def fnSingManyCard : Claim7 := { stood := { row := fnSingManyRow, standIns := [], harness := (true, "e1f52e84ba72f41f87fd8ade7efc22ca322193bfccba2235198a9b435069f67b"), looks := false }, kinds := [], alts := [], laidByText := true, laidKinds := [.data], laidTests := true, laidLooks := .later }
def FnSingManyCardSaid : Prop := Claim7.holds Tryd.pinned (.plain (OpenSpec.ofChange fnSingManySpec)) fnSingManyCard

/-- THE TIED CARD OF 'laws.FnExactSingBest'. -/
def fnExactSingBestCard : Claim7 := { stood := { row := fnExactSingBestRow, standIns := [], harness := (true, "e1f52e84ba72f41f87fd8ade7efc22ca322193bfccba2235198a9b435069f67b"), looks := false }, kinds := [], alts := [], laidByText := true, laidKinds := [.data], laidTests := true, laidLooks := .later }
def FnExactSingBestCardSaid : Prop := Claim7.holds Tryd.pinned (.plain (OpenSpec.ofChange fnExactSingBestSpec)) fnExactSingBestCard

/-- THE SECOND FORM's CARD OF 'laws.FnSingMany'. -/
def fnSingManyUptoCard : Claim7 := { stood := { row := fnSingManyUptoRow, standIns := [], harness := (true, "e1f52e84ba72f41f87fd8ade7efc22ca322193bfccba2235198a9b435069f67b"), looks := false }, kinds := [], alts := [], laidByText := true, laidKinds := [.data], laidTests := true, laidLooks := .later }
def FnSingManyUptoCardSaid : Prop := Claim7.holds Tryd.pinned (.plain (OpenSpec.upto fnSingManySpec)) fnSingManyUptoCard

/-- THE SECOND FORM's CARD OF 'laws.FnExactSingBest'. -/
def fnExactSingBestUptoCard : Claim7 := { stood := { row := fnExactSingBestUptoRow, standIns := [], harness := (true, "e1f52e84ba72f41f87fd8ade7efc22ca322193bfccba2235198a9b435069f67b"), looks := false }, kinds := [], alts := [], laidByText := true, laidKinds := [.data], laidTests := true, laidLooks := .later }
def FnExactSingBestUptoCardSaid : Prop := Claim7.holds Tryd.pinned (.plain (OpenSpec.upto fnExactSingBestSpec)) fnExactSingBestUptoCard
end Rows
end Go.Proofs.YtiagfjbngpbejaaDoor

/-
  DERIVED. GIVEN WITH THE SEED: THE CARDS: each row of YtmacedbpdhkagaaDoorRows.lean that lists a variable, with what it lists TIED to the program's text (the seventh form; the later family's looks); each row that meets fmt, with fmt's text TOLD by the authors' own Lean function (tested against real Go, not proved from fmt's source: count such statements apart). THE CARD IS WHAT COUNTS. Prove the row's statement (the work); the ties are given (YtmacedbpdhkagaaDoorTie.lean); close each card by the builder's one call (the guide's Derived/Test/ToyasCard.lean, 'card_holds'). Laid BY PROGRAM, IN A SANDBOX (cutbox-door.mjs). By AI agents, Wed Nov 11 2026. No macro, syntax, notation, axiom, sorry.
-/
import Derived.Test.YtmacedbpdhkagaaDoorRows
import GoSem.ClaimSeven
namespace Go.Proofs.YtmacedbpdhkagaaDoor
namespace Rows

/-- THE TIED CARD OF 'laws.FnExactTonaryJoin'. -/
def fnExactTonaryJoinCard : Claim7 := { stood := { row := fnExactTonaryJoinRow, standIns := [], harness := (true, "ff805b744a52b06fc2eab2ed974ed97c7c76b361cc8cf3b2e7757cb07eb8962f"), looks := false }, kinds := [], alts := [], laidByText := true, laidKinds := [.data], laidTests := true, laidLooks := .later }
def FnExactTonaryJoinCardSaid : Prop := Claim7.holds Tryd.pinned (.plain (OpenSpec.ofChange fnExactTonaryJoinSpec)) fnExactTonaryJoinCard

/-- THE TIED CARD OF 'laws.FnExactTonaryValid'. -/
def fnExactTonaryValidCard : Claim7 := { stood := { row := fnExactTonaryValidRow, standIns := [], harness := (true, "ff805b744a52b06fc2eab2ed974ed97c7c76b361cc8cf3b2e7757cb07eb8962f"), looks := false }, kinds := [], alts := [], laidByText := true, laidKinds := [.data], laidTests := true, laidLooks := .later }
def FnExactTonaryValidCardSaid : Prop := Claim7.holds Tryd.pinned (.plain (OpenSpec.ofChange fnExactTonaryValidSpec)) fnExactTonaryValidCard

/-- THE TIED CARD OF 'laws.FnTonary'. -/
def fnTonaryCard : Claim7 := { stood := { row := fnTonaryRow, standIns := [], harness := (true, "ff805b744a52b06fc2eab2ed974ed97c7c76b361cc8cf3b2e7757cb07eb8962f"), looks := false }, kinds := [], alts := [], laidByText := true, laidKinds := [.data], laidTests := true, laidLooks := .later }
def FnTonaryCardSaid : Prop := Claim7.holds Tryd.pinned (.plain (OpenSpec.ofChange fnTonarySpec)) fnTonaryCard

/-- THE TIED CARD OF 'laws.FnExactTonaryMode'. -/
def fnExactTonaryModeCard : Claim7 := { stood := { row := fnExactTonaryModeRow, standIns := [], harness := (true, "ff805b744a52b06fc2eab2ed974ed97c7c76b361cc8cf3b2e7757cb07eb8962f"), looks := false }, kinds := [], alts := [], laidByText := true, laidKinds := [.data], laidTests := true, laidLooks := .later }
def FnExactTonaryModeCardSaid : Prop := Claim7.holds Tryd.pinned (.plain (OpenSpec.ofChange fnExactTonaryModeSpec)) fnExactTonaryModeCard

/-- THE TIED CARD OF 'laws.FnExactTonaryDrop'. -/
def fnExactTonaryDropCard : Claim7 := { stood := { row := fnExactTonaryDropRow, standIns := [], harness := (true, "ff805b744a52b06fc2eab2ed974ed97c7c76b361cc8cf3b2e7757cb07eb8962f"), looks := false }, kinds := [], alts := [], laidByText := true, laidKinds := [.data], laidTests := true, laidLooks := .later }
def FnExactTonaryDropCardSaid : Prop := Claim7.holds Tryd.pinned (.plain (OpenSpec.ofChange fnExactTonaryDropSpec)) fnExactTonaryDropCard

/-- THE TIED CARD OF 'laws.FnExactTonaryFind'. -/
def fnExactTonaryFindCard : Claim7 := { stood := { row := fnExactTonaryFindRow, standIns := [], harness := (true, "ff805b744a52b06fc2eab2ed974ed97c7c76b361cc8cf3b2e7757cb07eb8962f"), looks := false }, kinds := [], alts := [], laidByText := true, laidKinds := [.data, .data], laidTests := true, laidLooks := .later }
def FnExactTonaryFindCardSaid : Prop := Claim7.holds Tryd.pinned (.plain (OpenSpec.ofChange fnExactTonaryFindSpec)) fnExactTonaryFindCard

/-- THE TIED CARD OF 'laws.FnTonaryDrop'. -/
def fnTonaryDropCard : Claim7 := { stood := { row := fnTonaryDropRow, standIns := [], harness := (true, "ff805b744a52b06fc2eab2ed974ed97c7c76b361cc8cf3b2e7757cb07eb8962f"), looks := false }, kinds := [], alts := [], laidByText := true, laidKinds := [.data], laidTests := true, laidLooks := .later }
def FnTonaryDropCardSaid : Prop := Claim7.holds Tryd.pinned (.plain (OpenSpec.ofChange fnTonaryDropSpec)) fnTonaryDropCard

/-- THE TIED CARD OF 'laws.FnTonaryFind'. -/
def fnTonaryFindCard : Claim7 := { stood := { row := fnTonaryFindRow, standIns := [], harness := (true, "ff805b744a52b06fc2eab2ed974ed97c7c76b361cc8cf3b2e7757cb07eb8962f"), looks := false }, kinds := [], alts := [], laidByText := true, laidKinds := [.data, .data], laidTests := true, laidLooks := .later }
def FnTonaryFindCardSaid : Prop := Claim7.holds Tryd.pinned (.plain (OpenSpec.ofChange fnTonaryFindSpec)) fnTonaryFindCard

/-- THE TIED CARD OF 'laws.FnExactTonaryAdd'. -/
def fnExactTonaryAddCard : Claim7 := { stood := { row := fnExactTonaryAddRow, standIns := [], harness := (true, "ff805b744a52b06fc2eab2ed974ed97c7c76b361cc8cf3b2e7757cb07eb8962f"), looks := false }, kinds := [], alts := [], laidByText := true, laidKinds := [.data], laidTests := true, laidLooks := .later }
def FnExactTonaryAddCardSaid : Prop := Claim7.holds Tryd.pinned (.plain (OpenSpec.ofChange fnExactTonaryAddSpec)) fnExactTonaryAddCard

/-- THE TIED CARD OF 'laws.FnTonaryJoin'. -/
def fnTonaryJoinCard : Claim7 := { stood := { row := fnTonaryJoinRow, standIns := [], harness := (true, "ff805b744a52b06fc2eab2ed974ed97c7c76b361cc8cf3b2e7757cb07eb8962f"), looks := false }, kinds := [], alts := [], laidByText := true, laidKinds := [.data], laidTests := true, laidLooks := .later }
def FnTonaryJoinCardSaid : Prop := Claim7.holds Tryd.pinned (.plain (OpenSpec.ofChange fnTonaryJoinSpec)) fnTonaryJoinCard

/-- THE SECOND FORM's CARD OF 'laws.FnExactTonaryJoin'. -/
def fnExactTonaryJoinUptoCard : Claim7 := { stood := { row := fnExactTonaryJoinUptoRow, standIns := [], harness := (true, "ff805b744a52b06fc2eab2ed974ed97c7c76b361cc8cf3b2e7757cb07eb8962f"), looks := false }, kinds := [], alts := [], laidByText := true, laidKinds := [.data], laidTests := true, laidLooks := .later }
def FnExactTonaryJoinUptoCardSaid : Prop := Claim7.holds Tryd.pinned (.plain (OpenSpec.upto fnExactTonaryJoinSpec)) fnExactTonaryJoinUptoCard

/-- THE SECOND FORM's CARD OF 'laws.FnExactTonaryValid'. -/
def fnExactTonaryValidUptoCard : Claim7 := { stood := { row := fnExactTonaryValidUptoRow, standIns := [], harness := (true, "ff805b744a52b06fc2eab2ed974ed97c7c76b361cc8cf3b2e7757cb07eb8962f"), looks := false }, kinds := [], alts := [], laidByText := true, laidKinds := [.data], laidTests := true, laidLooks := .later }
def FnExactTonaryValidUptoCardSaid : Prop := Claim7.holds Tryd.pinned (.plain (OpenSpec.upto fnExactTonaryValidSpec)) fnExactTonaryValidUptoCard

/-- THE SECOND FORM's CARD OF 'laws.FnTonary'. -/
def fnTonaryUptoCard : Claim7 := { stood := { row := fnTonaryUptoRow, standIns := [], harness := (true, "ff805b744a52b06fc2eab2ed974ed97c7c76b361cc8cf3b2e7757cb07eb8962f"), looks := false }, kinds := [], alts := [], laidByText := true, laidKinds := [.data], laidTests := true, laidLooks := .later }
def FnTonaryUptoCardSaid : Prop := Claim7.holds Tryd.pinned (.plain (OpenSpec.upto fnTonarySpec)) fnTonaryUptoCard

/-- THE SECOND FORM's CARD OF 'laws.FnExactTonaryMode'. -/
def fnExactTonaryModeUptoCard : Claim7 := { stood := { row := fnExactTonaryModeUptoRow, standIns := [], harness := (true, "ff805b744a52b06fc2eab2ed974ed97c7c76b361cc8cf3b2e7757cb07eb8962f"), looks := false }, kinds := [], alts := [], laidByText := true, laidKinds := [.data], laidTests := true, laidLooks := .later }
def FnExactTonaryModeUptoCardSaid : Prop := Claim7.holds Tryd.pinned (.plain (OpenSpec.upto fnExactTonaryModeSpec)) fnExactTonaryModeUptoCard

/-- THE SECOND FORM's CARD OF 'laws.FnExactTonaryDrop'. -/
def fnExactTonaryDropUptoCard : Claim7 := { stood := { row := fnExactTonaryDropUptoRow, standIns := [], harness := (true, "ff805b744a52b06fc2eab2ed974ed97c7c76b361cc8cf3b2e7757cb07eb8962f"), looks := false }, kinds := [], alts := [], laidByText := true, laidKinds := [.data], laidTests := true, laidLooks := .later }
def FnExactTonaryDropUptoCardSaid : Prop := Claim7.holds Tryd.pinned (.plain (OpenSpec.upto fnExactTonaryDropSpec)) fnExactTonaryDropUptoCard

/-- THE SECOND FORM's CARD OF 'laws.FnExactTonaryFind'. -/
def fnExactTonaryFindUptoCard : Claim7 := { stood := { row := fnExactTonaryFindUptoRow, standIns := [], harness := (true, "ff805b744a52b06fc2eab2ed974ed97c7c76b361cc8cf3b2e7757cb07eb8962f"), looks := false }, kinds := [], alts := [], laidByText := true, laidKinds := [.data, .data], laidTests := true, laidLooks := .later }
def FnExactTonaryFindUptoCardSaid : Prop := Claim7.holds Tryd.pinned (.plain (OpenSpec.upto fnExactTonaryFindSpec)) fnExactTonaryFindUptoCard

/-- THE SECOND FORM's CARD OF 'laws.FnTonaryDrop'. -/
def fnTonaryDropUptoCard : Claim7 := { stood := { row := fnTonaryDropUptoRow, standIns := [], harness := (true, "ff805b744a52b06fc2eab2ed974ed97c7c76b361cc8cf3b2e7757cb07eb8962f"), looks := false }, kinds := [], alts := [], laidByText := true, laidKinds := [.data], laidTests := true, laidLooks := .later }
def FnTonaryDropUptoCardSaid : Prop := Claim7.holds Tryd.pinned (.plain (OpenSpec.upto fnTonaryDropSpec)) fnTonaryDropUptoCard

/-- THE SECOND FORM's CARD OF 'laws.FnTonaryFind'. -/
def fnTonaryFindUptoCard : Claim7 := { stood := { row := fnTonaryFindUptoRow, standIns := [], harness := (true, "ff805b744a52b06fc2eab2ed974ed97c7c76b361cc8cf3b2e7757cb07eb8962f"), looks := false }, kinds := [], alts := [], laidByText := true, laidKinds := [.data, .data], laidTests := true, laidLooks := .later }
def FnTonaryFindUptoCardSaid : Prop := Claim7.holds Tryd.pinned (.plain (OpenSpec.upto fnTonaryFindSpec)) fnTonaryFindUptoCard

/-- THE SECOND FORM's CARD OF 'laws.FnExactTonaryAdd'. -/
def fnExactTonaryAddUptoCard : Claim7 := { stood := { row := fnExactTonaryAddUptoRow, standIns := [], harness := (true, "ff805b744a52b06fc2eab2ed974ed97c7c76b361cc8cf3b2e7757cb07eb8962f"), looks := false }, kinds := [], alts := [], laidByText := true, laidKinds := [.data], laidTests := true, laidLooks := .later }
def FnExactTonaryAddUptoCardSaid : Prop := Claim7.holds Tryd.pinned (.plain (OpenSpec.upto fnExactTonaryAddSpec)) fnExactTonaryAddUptoCard

/-- THE SECOND FORM's CARD OF 'laws.FnTonaryJoin'. -/
def fnTonaryJoinUptoCard : Claim7 := { stood := { row := fnTonaryJoinUptoRow, standIns := [], harness := (true, "ff805b744a52b06fc2eab2ed974ed97c7c76b361cc8cf3b2e7757cb07eb8962f"), looks := false }, kinds := [], alts := [], laidByText := true, laidKinds := [.data], laidTests := true, laidLooks := .later }
def FnTonaryJoinUptoCardSaid : Prop := Claim7.holds Tryd.pinned (.plain (OpenSpec.upto fnTonaryJoinSpec)) fnTonaryJoinUptoCard
end Rows
end Go.Proofs.YtmacedbpdhkagaaDoor

/-
  DERIVED. GIVEN WITH THE SEED: THE CARDS: each row of YtomglbjcfcijkaaDoorRows.lean that lists a variable, with what it lists TIED to the program's text (the seventh form; the later family's looks); each row that meets fmt, with fmt's text TOLD by the authors' own Lean function (tested against real Go, not proved from fmt's source: count such statements apart). THE CARD IS WHAT COUNTS. Prove the row's statement (the work); the ties are given (YtomglbjcfcijkaaDoorTie.lean); close each card by the builder's one call (the guide's Derived/Test/ToyasCard.lean, 'card_holds'). Laid BY PROGRAM, IN A SANDBOX (cutbox-door.mjs). By AI agents, Wed Nov 11 2026. No macro, syntax, notation, axiom, sorry.
-/
import Derived.Test.YtomglbjcfcijkaaDoorRows
import GoSem.ClaimSeven
namespace Go.Proofs.YtomglbjcfcijkaaDoor
namespace Rows

/-- THE TIED CARD OF 'sizarlaw09.LexSpec'. -/
def lexSpecCard : Claim7 := { stood := { row := lexSpecRow, standIns := [], harness := (true, "ae60ee85bae1412e4cc9c73726323c87789b3eb36cc3db7c69b93d92b3735f87"), looks := true }, kinds := [], alts := [], laidByText := true, laidKinds := [.data, .data, .data, .sentinel, .sentinel], laidTests := true, laidLooks := .later }
def LexSpecCardSaid : Prop := Claim7.holds Tryd.pinned (.plain (OpenSpec.ofChange lexSpecSpec)) lexSpecCard

/-- THE TIED CARD OF 'sizarlaw09.LexTextSpec'. -/
def lexTextSpecCard : Claim7 := { stood := { row := lexTextSpecRow, standIns := [], harness := (true, "ae60ee85bae1412e4cc9c73726323c87789b3eb36cc3db7c69b93d92b3735f87"), looks := true }, kinds := [], alts := [], laidByText := true, laidKinds := [.data, .data, .data, .sentinel, .sentinel], laidTests := true, laidLooks := .later }
def LexTextSpecCardSaid : Prop := Claim7.holds Tryd.pinned (.plain (OpenSpec.ofChange lexTextSpecSpec)) lexTextSpecCard

/-- THE TIED CARD OF 'sizarlaw09.LexBack'. -/
def lexBackCard : Claim7 := { stood := { row := lexBackRow, standIns := [], harness := (true, "ae60ee85bae1412e4cc9c73726323c87789b3eb36cc3db7c69b93d92b3735f87"), looks := true }, kinds := [], alts := [], laidByText := true, laidKinds := [.data, .data, .data, .sentinel, .sentinel], laidTests := true, laidLooks := .later }
def LexBackCardSaid : Prop := Claim7.holds Tryd.pinned (.plain (OpenSpec.ofChange lexBackSpec)) lexBackCard

/-- THE TIED CARD OF 'sizarlaw09.LexPlaces'. -/
def lexPlacesCard : Claim7 := { stood := { row := lexPlacesRow, standIns := [], harness := (true, "ae60ee85bae1412e4cc9c73726323c87789b3eb36cc3db7c69b93d92b3735f87"), looks := true }, kinds := [], alts := [], laidByText := true, laidKinds := [.data, .data, .data, .sentinel, .sentinel], laidTests := true, laidLooks := .later }
def LexPlacesCardSaid : Prop := Claim7.holds Tryd.pinned (.plain (OpenSpec.ofChange lexPlacesSpec)) lexPlacesCard

/-- THE TIED CARD OF 'sizarlaw09.LexSpaces'. -/
def lexSpacesCard : Claim7 := { stood := { row := lexSpacesRow, standIns := [], harness := (true, "ae60ee85bae1412e4cc9c73726323c87789b3eb36cc3db7c69b93d92b3735f87"), looks := true }, kinds := [], alts := [], laidByText := true, laidKinds := [.data, .data, .data, .sentinel, .sentinel], laidTests := true, laidLooks := .later }
def LexSpacesCardSaid : Prop := Claim7.holds Tryd.pinned (.plain (OpenSpec.ofChange lexSpacesSpec)) lexSpacesCard

/-- THE TIED CARD OF 'sizarlaw09.LexWrong'. -/
def lexWrongCard : Claim7 := { stood := { row := lexWrongRow, standIns := [], harness := (true, "ae60ee85bae1412e4cc9c73726323c87789b3eb36cc3db7c69b93d92b3735f87"), looks := true }, kinds := [], alts := [], laidByText := true, laidKinds := [.data, .data, .data, .sentinel, .sentinel], laidTests := true, laidLooks := .later }
def LexWrongCardSaid : Prop := Claim7.holds Tryd.pinned (.plain (OpenSpec.ofChange lexWrongSpec)) lexWrongCard

/-- THE TIED CARD OF 'sizarlaw09.LexNames'. -/
def lexNamesCard : Claim7 := { stood := { row := lexNamesRow, standIns := [], harness := (true, "ae60ee85bae1412e4cc9c73726323c87789b3eb36cc3db7c69b93d92b3735f87"), looks := true }, kinds := [], alts := [], laidByText := true, laidKinds := [.data, .data, .data, .sentinel, .sentinel], laidTests := true, laidLooks := .later }
def LexNamesCardSaid : Prop := Claim7.holds Tryd.pinned (.plain (OpenSpec.ofChange lexNamesSpec)) lexNamesCard

/-- THE TIED CARD OF 'sizarlaw50.QueryBack'. -/
def queryBackCard : Claim7 := { stood := { row := queryBackRow, standIns := [], harness := (true, "ae60ee85bae1412e4cc9c73726323c87789b3eb36cc3db7c69b93d92b3735f87"), looks := true }, kinds := [], alts := [], laidByText := true, laidKinds := [.data, .data, .data, .sentinel, .sentinel, .data], laidTests := true, laidLooks := .later }
def QueryBackCardSaid : Prop := Claim7.holds Tryd.pinned (.plain (OpenSpec.ofChange queryBackSpec)) queryBackCard

/-- THE TIED CARD OF 'sizarlaw50.QueryAgain'. -/
def queryAgainCard : Claim7 := { stood := { row := queryAgainRow, standIns := [], harness := (true, "ae60ee85bae1412e4cc9c73726323c87789b3eb36cc3db7c69b93d92b3735f87"), looks := true }, kinds := [], alts := [], laidByText := true, laidKinds := [.data, .data, .data, .sentinel, .sentinel, .data], laidTests := true, laidLooks := .later }
def QueryAgainCardSaid : Prop := Claim7.holds Tryd.pinned (.plain (OpenSpec.ofChange queryAgainSpec)) queryAgainCard

/-- THE TIED CARD OF 'sizarlaw50.QueryPlaces'. -/
def queryPlacesCard : Claim7 := { stood := { row := queryPlacesRow, standIns := [], harness := (true, "ae60ee85bae1412e4cc9c73726323c87789b3eb36cc3db7c69b93d92b3735f87"), looks := true }, kinds := [], alts := [], laidByText := true, laidKinds := [.data, .data, .data, .sentinel, .sentinel, .data], laidTests := true, laidLooks := .later }
def QueryPlacesCardSaid : Prop := Claim7.holds Tryd.pinned (.plain (OpenSpec.ofChange queryPlacesSpec)) queryPlacesCard

/-- THE TIED CARD OF 'sizarlaw50.QueryMixed'. -/
def queryMixedCard : Claim7 := { stood := { row := queryMixedRow, standIns := [], harness := (true, "ae60ee85bae1412e4cc9c73726323c87789b3eb36cc3db7c69b93d92b3735f87"), looks := true }, kinds := [], alts := [], laidByText := true, laidKinds := [.data, .data, .data, .sentinel, .sentinel, .data], laidTests := true, laidLooks := .later }
def QueryMixedCardSaid : Prop := Claim7.holds Tryd.pinned (.plain (OpenSpec.ofChange queryMixedSpec)) queryMixedCard

/-- THE SECOND FORM's CARD OF 'sizarlaw09.LexSpec'. -/
def lexSpecUptoCard : Claim7 := { stood := { row := lexSpecUptoRow, standIns := [], harness := (true, "ae60ee85bae1412e4cc9c73726323c87789b3eb36cc3db7c69b93d92b3735f87"), looks := true }, kinds := [], alts := [], laidByText := true, laidKinds := [.data, .data, .data, .sentinel, .sentinel], laidTests := true, laidLooks := .later }
def LexSpecUptoCardSaid : Prop := Claim7.holds Tryd.pinned (.plain (OpenSpec.upto lexSpecSpec)) lexSpecUptoCard

/-- THE SECOND FORM's CARD OF 'sizarlaw09.LexTextSpec'. -/
def lexTextSpecUptoCard : Claim7 := { stood := { row := lexTextSpecUptoRow, standIns := [], harness := (true, "ae60ee85bae1412e4cc9c73726323c87789b3eb36cc3db7c69b93d92b3735f87"), looks := true }, kinds := [], alts := [], laidByText := true, laidKinds := [.data, .data, .data, .sentinel, .sentinel], laidTests := true, laidLooks := .later }
def LexTextSpecUptoCardSaid : Prop := Claim7.holds Tryd.pinned (.plain (OpenSpec.upto lexTextSpecSpec)) lexTextSpecUptoCard

/-- THE SECOND FORM's CARD OF 'sizarlaw09.LexBack'. -/
def lexBackUptoCard : Claim7 := { stood := { row := lexBackUptoRow, standIns := [], harness := (true, "ae60ee85bae1412e4cc9c73726323c87789b3eb36cc3db7c69b93d92b3735f87"), looks := true }, kinds := [], alts := [], laidByText := true, laidKinds := [.data, .data, .data, .sentinel, .sentinel], laidTests := true, laidLooks := .later }
def LexBackUptoCardSaid : Prop := Claim7.holds Tryd.pinned (.plain (OpenSpec.upto lexBackSpec)) lexBackUptoCard

/-- THE SECOND FORM's CARD OF 'sizarlaw09.LexPlaces'. -/
def lexPlacesUptoCard : Claim7 := { stood := { row := lexPlacesUptoRow, standIns := [], harness := (true, "ae60ee85bae1412e4cc9c73726323c87789b3eb36cc3db7c69b93d92b3735f87"), looks := true }, kinds := [], alts := [], laidByText := true, laidKinds := [.data, .data, .data, .sentinel, .sentinel], laidTests := true, laidLooks := .later }
def LexPlacesUptoCardSaid : Prop := Claim7.holds Tryd.pinned (.plain (OpenSpec.upto lexPlacesSpec)) lexPlacesUptoCard

/-- THE SECOND FORM's CARD OF 'sizarlaw09.LexSpaces'. -/
def lexSpacesUptoCard : Claim7 := { stood := { row := lexSpacesUptoRow, standIns := [], harness := (true, "ae60ee85bae1412e4cc9c73726323c87789b3eb36cc3db7c69b93d92b3735f87"), looks := true }, kinds := [], alts := [], laidByText := true, laidKinds := [.data, .data, .data, .sentinel, .sentinel], laidTests := true, laidLooks := .later }
def LexSpacesUptoCardSaid : Prop := Claim7.holds Tryd.pinned (.plain (OpenSpec.upto lexSpacesSpec)) lexSpacesUptoCard

/-- THE SECOND FORM's CARD OF 'sizarlaw09.LexWrong'. -/
def lexWrongUptoCard : Claim7 := { stood := { row := lexWrongUptoRow, standIns := [], harness := (true, "ae60ee85bae1412e4cc9c73726323c87789b3eb36cc3db7c69b93d92b3735f87"), looks := true }, kinds := [], alts := [], laidByText := true, laidKinds := [.data, .data, .data, .sentinel, .sentinel], laidTests := true, laidLooks := .later }
def LexWrongUptoCardSaid : Prop := Claim7.holds Tryd.pinned (.plain (OpenSpec.upto lexWrongSpec)) lexWrongUptoCard

/-- THE SECOND FORM's CARD OF 'sizarlaw09.LexNames'. -/
def lexNamesUptoCard : Claim7 := { stood := { row := lexNamesUptoRow, standIns := [], harness := (true, "ae60ee85bae1412e4cc9c73726323c87789b3eb36cc3db7c69b93d92b3735f87"), looks := true }, kinds := [], alts := [], laidByText := true, laidKinds := [.data, .data, .data, .sentinel, .sentinel], laidTests := true, laidLooks := .later }
def LexNamesUptoCardSaid : Prop := Claim7.holds Tryd.pinned (.plain (OpenSpec.upto lexNamesSpec)) lexNamesUptoCard

/-- THE SECOND FORM's CARD OF 'sizarlaw50.QueryBack'. -/
def queryBackUptoCard : Claim7 := { stood := { row := queryBackUptoRow, standIns := [], harness := (true, "ae60ee85bae1412e4cc9c73726323c87789b3eb36cc3db7c69b93d92b3735f87"), looks := true }, kinds := [], alts := [], laidByText := true, laidKinds := [.data, .data, .data, .sentinel, .sentinel, .data], laidTests := true, laidLooks := .later }
def QueryBackUptoCardSaid : Prop := Claim7.holds Tryd.pinned (.plain (OpenSpec.upto queryBackSpec)) queryBackUptoCard

/-- THE SECOND FORM's CARD OF 'sizarlaw50.QueryAgain'. -/
def queryAgainUptoCard : Claim7 := { stood := { row := queryAgainUptoRow, standIns := [], harness := (true, "ae60ee85bae1412e4cc9c73726323c87789b3eb36cc3db7c69b93d92b3735f87"), looks := true }, kinds := [], alts := [], laidByText := true, laidKinds := [.data, .data, .data, .sentinel, .sentinel, .data], laidTests := true, laidLooks := .later }
def QueryAgainUptoCardSaid : Prop := Claim7.holds Tryd.pinned (.plain (OpenSpec.upto queryAgainSpec)) queryAgainUptoCard

/-- THE SECOND FORM's CARD OF 'sizarlaw50.QueryPlaces'. -/
def queryPlacesUptoCard : Claim7 := { stood := { row := queryPlacesUptoRow, standIns := [], harness := (true, "ae60ee85bae1412e4cc9c73726323c87789b3eb36cc3db7c69b93d92b3735f87"), looks := true }, kinds := [], alts := [], laidByText := true, laidKinds := [.data, .data, .data, .sentinel, .sentinel, .data], laidTests := true, laidLooks := .later }
def QueryPlacesUptoCardSaid : Prop := Claim7.holds Tryd.pinned (.plain (OpenSpec.upto queryPlacesSpec)) queryPlacesUptoCard

/-- THE SECOND FORM's CARD OF 'sizarlaw50.QueryMixed'. -/
def queryMixedUptoCard : Claim7 := { stood := { row := queryMixedUptoRow, standIns := [], harness := (true, "ae60ee85bae1412e4cc9c73726323c87789b3eb36cc3db7c69b93d92b3735f87"), looks := true }, kinds := [], alts := [], laidByText := true, laidKinds := [.data, .data, .data, .sentinel, .sentinel, .data], laidTests := true, laidLooks := .later }
def QueryMixedUptoCardSaid : Prop := Claim7.holds Tryd.pinned (.plain (OpenSpec.upto queryMixedSpec)) queryMixedUptoCard
end Rows
end Go.Proofs.YtomglbjcfcijkaaDoor

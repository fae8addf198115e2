/-
  DERIVED. GIVEN WITH THE SEED: THE CARDS: each row of YtokecnkjgoghhaaDoorRows.lean that lists a variable, with what it lists TIED to the program's text (the seventh form; the later family's looks); each row that meets fmt, with fmt's text TOLD by the authors' own Lean function (tested against real Go, not proved from fmt's source: count such statements apart). THE CARD IS WHAT COUNTS. Prove the row's statement (the work); the ties are given (YtokecnkjgoghhaaDoorTie.lean); close each card by the builder's one call (the guide's Derived/Test/ToyasCard.lean, 'card_holds'). Laid BY PROGRAM, IN A SANDBOX (cutbox-door.mjs). By AI agents, Wed Nov 11 2026. No macro, syntax, notation, axiom, sorry.
-/
import Derived.Test.YtokecnkjgoghhaaDoorRows
import GoSem.ClaimSeven
namespace Go.Proofs.YtokecnkjgoghhaaDoor
namespace Rows

/-- THE TIED CARD OF 'rafterlaw08.CommuteThree'. -/
def commuteThreeCard : Claim7 := { stood := { row := commuteThreeRow, standIns := [], harness := (true, "73416f2d3df1c56c36e1c9476fe8971cfc44bb27ebb779bb315383b756477ad1"), looks := true }, kinds := [], alts := [], laidByText := true, laidKinds := [.data, .pinned], laidTests := true, laidLooks := .later }
def CommuteThreeCardSaid : Prop := Claim7.holds Tryd.pinned (.plain (OpenSpec.ofChange commuteThreeSpec)) commuteThreeCard

/-- THE TIED CARD OF 'rafterlaw09.FusePairs'. -/
def fusePairsCard : Claim7 := { stood := { row := fusePairsRow, standIns := [], harness := (true, "73416f2d3df1c56c36e1c9476fe8971cfc44bb27ebb779bb315383b756477ad1"), looks := true }, kinds := [], alts := [], laidByText := true, laidKinds := [.data, .pinned], laidTests := true, laidLooks := .later }
def FusePairsCardSaid : Prop := Claim7.holds Tryd.pinned (.plain (OpenSpec.ofChange fusePairsSpec)) fusePairsCard

/-- THE TIED CARD OF 'rafterlaw09.FuseAll'. -/
def fuseAllCard : Claim7 := { stood := { row := fuseAllRow, standIns := [], harness := (true, "73416f2d3df1c56c36e1c9476fe8971cfc44bb27ebb779bb315383b756477ad1"), looks := true }, kinds := [], alts := [], laidByText := true, laidKinds := [.data, .pinned], laidTests := true, laidLooks := .later }
def FuseAllCardSaid : Prop := Claim7.holds Tryd.pinned (.plain (OpenSpec.ofChange fuseAllSpec)) fuseAllCard

/-- THE TIED CARD OF 'rafterlaw32.IntentTexts'. -/
def intentTextsCard : Claim7 := { stood := { row := intentTextsRow, standIns := [], harness := (true, "73416f2d3df1c56c36e1c9476fe8971cfc44bb27ebb779bb315383b756477ad1"), looks := true }, kinds := [], alts := [], laidByText := true, laidKinds := [.data, .pinned], laidTests := true, laidLooks := .later }
def IntentTextsCardSaid : Prop := Claim7.holds Tryd.pinned (.plain (OpenSpec.ofChange intentTextsSpec)) intentTextsCard

/-- THE TIED CARD OF 'rafterlaw06.TreeDoes'. -/
def treeDoesCard : Claim7 := { stood := { row := treeDoesRow, standIns := [], harness := (true, "73416f2d3df1c56c36e1c9476fe8971cfc44bb27ebb779bb315383b756477ad1"), looks := true }, kinds := [], alts := [], laidByText := true, laidKinds := [.data, .pinned], laidTests := true, laidLooks := .later }
def TreeDoesCardSaid : Prop := Claim7.holds Tryd.pinned (.plain (OpenSpec.ofChange treeDoesSpec)) treeDoesCard

/-- THE TIED CARD OF 'rafterlaw10.SeqRows'. -/
def seqRowsCard : Claim7 := { stood := { row := seqRowsRow, standIns := [], harness := (true, "73416f2d3df1c56c36e1c9476fe8971cfc44bb27ebb779bb315383b756477ad1"), looks := true }, kinds := [], alts := [], laidByText := true, laidKinds := [.data, .pinned], laidTests := true, laidLooks := .later }
def SeqRowsCardSaid : Prop := Claim7.holds Tryd.pinned (.plain (OpenSpec.ofChange seqRowsSpec)) seqRowsCard

/-- THE TIED CARD OF 'rafterlaw10.SeqNeeds'. -/
def seqNeedsCard : Claim7 := { stood := { row := seqNeedsRow, standIns := [], harness := (true, "73416f2d3df1c56c36e1c9476fe8971cfc44bb27ebb779bb315383b756477ad1"), looks := true }, kinds := [], alts := [], laidByText := true, laidKinds := [.data, .pinned], laidTests := true, laidLooks := .later }
def SeqNeedsCardSaid : Prop := Claim7.holds Tryd.pinned (.plain (OpenSpec.ofChange seqNeedsSpec)) seqNeedsCard

/-- THE SECOND FORM's CARD OF 'rafterlaw08.CommuteThree'. -/
def commuteThreeUptoCard : Claim7 := { stood := { row := commuteThreeUptoRow, standIns := [], harness := (true, "73416f2d3df1c56c36e1c9476fe8971cfc44bb27ebb779bb315383b756477ad1"), looks := true }, kinds := [], alts := [], laidByText := true, laidKinds := [.data, .pinned], laidTests := true, laidLooks := .later }
def CommuteThreeUptoCardSaid : Prop := Claim7.holds Tryd.pinned (.plain (OpenSpec.upto commuteThreeSpec)) commuteThreeUptoCard

/-- THE SECOND FORM's CARD OF 'rafterlaw09.FusePairs'. -/
def fusePairsUptoCard : Claim7 := { stood := { row := fusePairsUptoRow, standIns := [], harness := (true, "73416f2d3df1c56c36e1c9476fe8971cfc44bb27ebb779bb315383b756477ad1"), looks := true }, kinds := [], alts := [], laidByText := true, laidKinds := [.data, .pinned], laidTests := true, laidLooks := .later }
def FusePairsUptoCardSaid : Prop := Claim7.holds Tryd.pinned (.plain (OpenSpec.upto fusePairsSpec)) fusePairsUptoCard

/-- THE SECOND FORM's CARD OF 'rafterlaw09.FuseAll'. -/
def fuseAllUptoCard : Claim7 := { stood := { row := fuseAllUptoRow, standIns := [], harness := (true, "73416f2d3df1c56c36e1c9476fe8971cfc44bb27ebb779bb315383b756477ad1"), looks := true }, kinds := [], alts := [], laidByText := true, laidKinds := [.data, .pinned], laidTests := true, laidLooks := .later }
def FuseAllUptoCardSaid : Prop := Claim7.holds Tryd.pinned (.plain (OpenSpec.upto fuseAllSpec)) fuseAllUptoCard

/-- THE SECOND FORM's CARD OF 'rafterlaw32.IntentTexts'. -/
def intentTextsUptoCard : Claim7 := { stood := { row := intentTextsUptoRow, standIns := [], harness := (true, "73416f2d3df1c56c36e1c9476fe8971cfc44bb27ebb779bb315383b756477ad1"), looks := true }, kinds := [], alts := [], laidByText := true, laidKinds := [.data, .pinned], laidTests := true, laidLooks := .later }
def IntentTextsUptoCardSaid : Prop := Claim7.holds Tryd.pinned (.plain (OpenSpec.upto intentTextsSpec)) intentTextsUptoCard

/-- THE SECOND FORM's CARD OF 'rafterlaw06.TreeDoes'. -/
def treeDoesUptoCard : Claim7 := { stood := { row := treeDoesUptoRow, standIns := [], harness := (true, "73416f2d3df1c56c36e1c9476fe8971cfc44bb27ebb779bb315383b756477ad1"), looks := true }, kinds := [], alts := [], laidByText := true, laidKinds := [.data, .pinned], laidTests := true, laidLooks := .later }
def TreeDoesUptoCardSaid : Prop := Claim7.holds Tryd.pinned (.plain (OpenSpec.upto treeDoesSpec)) treeDoesUptoCard

/-- THE SECOND FORM's CARD OF 'rafterlaw10.SeqRows'. -/
def seqRowsUptoCard : Claim7 := { stood := { row := seqRowsUptoRow, standIns := [], harness := (true, "73416f2d3df1c56c36e1c9476fe8971cfc44bb27ebb779bb315383b756477ad1"), looks := true }, kinds := [], alts := [], laidByText := true, laidKinds := [.data, .pinned], laidTests := true, laidLooks := .later }
def SeqRowsUptoCardSaid : Prop := Claim7.holds Tryd.pinned (.plain (OpenSpec.upto seqRowsSpec)) seqRowsUptoCard

/-- THE SECOND FORM's CARD OF 'rafterlaw10.SeqNeeds'. -/
def seqNeedsUptoCard : Claim7 := { stood := { row := seqNeedsUptoRow, standIns := [], harness := (true, "73416f2d3df1c56c36e1c9476fe8971cfc44bb27ebb779bb315383b756477ad1"), looks := true }, kinds := [], alts := [], laidByText := true, laidKinds := [.data, .pinned], laidTests := true, laidLooks := .later }
def SeqNeedsUptoCardSaid : Prop := Claim7.holds Tryd.pinned (.plain (OpenSpec.upto seqNeedsSpec)) seqNeedsUptoCard
end Rows
end Go.Proofs.YtokecnkjgoghhaaDoor

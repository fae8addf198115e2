/-
  DERIVED. GIVEN WITH THE SEED: THE CARDS: each row of YtabhngbpkfdeiaaGreatDoorRows.lean that lists a variable, with what it lists TIED to the program's text (the seventh form; the later family's looks); each row that meets fmt, with fmt's text TOLD by the authors' own Lean function (tested against real Go, not proved from fmt's source: count such statements apart). THE CARD IS WHAT COUNTS. Prove the row's statement (the work); the ties are given (YtabhngbpkfdeiaaGreatDoorTie.lean); close each card by the builder's one call (the guide's Derived/Test/ToyasCard.lean, 'card_holds'). Laid BY PROGRAM, IN A SANDBOX (cutbox-door.mjs). By AI agents, Wed Nov 11 2026. No macro, syntax, notation, axiom, sorry.
-/
import Derived.Test.YtabhngbpkfdeiaaGreatDoorRows
import GoSem.ClaimSeven
namespace Go.Proofs.YtabhngbpkfdeiaaGreatDoor
namespace Rows

/-- THE TIED CARD OF 'rafterlaw07.PrimHunks'. -/
def primHunksCard : Claim7 := { stood := { row := primHunksRow, standIns := [], harness := (true, "8a91decc21e1fcc3d99e0bcec95dbc6e0110ff854582465a4fbba0de7792fe7f"), looks := false }, kinds := [], alts := [], laidByText := true, laidKinds := [.data, .pinned], laidTests := true, laidLooks := .later }
def PrimHunksCardSaid : Prop := Claim7.holds Tryz.pinned (.plain (OpenSpec.ofChange primHunksSpec)) primHunksCard

/-- THE TIED CARD OF 'rafterlaw07.PrimAll'. -/
def primAllCard : Claim7 := { stood := { row := primAllRow, standIns := [], harness := (true, "8a91decc21e1fcc3d99e0bcec95dbc6e0110ff854582465a4fbba0de7792fe7f"), looks := false }, kinds := [], alts := [], laidByText := true, laidKinds := [.data, .pinned], laidTests := true, laidLooks := .later }
def PrimAllCardSaid : Prop := Claim7.holds Tryz.pinned (.plain (OpenSpec.ofChange primAllSpec)) primAllCard

/-- THE TIED CARD OF 'rafterlaw08.CommuteSame'. -/
def commuteSameCard : Claim7 := { stood := { row := commuteSameRow, standIns := [], harness := (true, "8a91decc21e1fcc3d99e0bcec95dbc6e0110ff854582465a4fbba0de7792fe7f"), looks := false }, kinds := [], alts := [], laidByText := true, laidKinds := [.data, .pinned], laidTests := true, laidLooks := .later }
def CommuteSameCardSaid : Prop := Claim7.holds Tryz.pinned (.plain (OpenSpec.ofChange commuteSameSpec)) commuteSameCard

/-- THE TIED CARD OF 'rafterlaw09.FuseSame'. -/
def fuseSameCard : Claim7 := { stood := { row := fuseSameRow, standIns := [], harness := (true, "8a91decc21e1fcc3d99e0bcec95dbc6e0110ff854582465a4fbba0de7792fe7f"), looks := false }, kinds := [], alts := [], laidByText := true, laidKinds := [.data, .pinned], laidTests := true, laidLooks := .later }
def FuseSameCardSaid : Prop := Claim7.holds Tryz.pinned (.plain (OpenSpec.ofChange fuseSameSpec)) fuseSameCard

/-- THE TIED CARD OF 'rafterlaw10.SeqSame'. -/
def seqSameCard : Claim7 := { stood := { row := seqSameRow, standIns := [], harness := (true, "8a91decc21e1fcc3d99e0bcec95dbc6e0110ff854582465a4fbba0de7792fe7f"), looks := false }, kinds := [], alts := [], laidByText := true, laidKinds := [.data, .pinned], laidTests := true, laidLooks := .later }
def SeqSameCardSaid : Prop := Claim7.holds Tryz.pinned (.plain (OpenSpec.ofChange seqSameSpec)) seqSameCard

/-- THE SECOND FORM's CARD OF 'rafterlaw07.PrimHunks'. -/
def primHunksUptoCard : Claim7 := { stood := { row := primHunksUptoRow, standIns := [], harness := (true, "8a91decc21e1fcc3d99e0bcec95dbc6e0110ff854582465a4fbba0de7792fe7f"), looks := false }, kinds := [], alts := [], laidByText := true, laidKinds := [.data, .pinned], laidTests := true, laidLooks := .later }
def PrimHunksUptoCardSaid : Prop := Claim7.holds Tryz.pinned (.plain (OpenSpec.upto primHunksSpec)) primHunksUptoCard

/-- THE SECOND FORM's CARD OF 'rafterlaw07.PrimAll'. -/
def primAllUptoCard : Claim7 := { stood := { row := primAllUptoRow, standIns := [], harness := (true, "8a91decc21e1fcc3d99e0bcec95dbc6e0110ff854582465a4fbba0de7792fe7f"), looks := false }, kinds := [], alts := [], laidByText := true, laidKinds := [.data, .pinned], laidTests := true, laidLooks := .later }
def PrimAllUptoCardSaid : Prop := Claim7.holds Tryz.pinned (.plain (OpenSpec.upto primAllSpec)) primAllUptoCard

/-- THE SECOND FORM's CARD OF 'rafterlaw08.CommuteSame'. -/
def commuteSameUptoCard : Claim7 := { stood := { row := commuteSameUptoRow, standIns := [], harness := (true, "8a91decc21e1fcc3d99e0bcec95dbc6e0110ff854582465a4fbba0de7792fe7f"), looks := false }, kinds := [], alts := [], laidByText := true, laidKinds := [.data, .pinned], laidTests := true, laidLooks := .later }
def CommuteSameUptoCardSaid : Prop := Claim7.holds Tryz.pinned (.plain (OpenSpec.upto commuteSameSpec)) commuteSameUptoCard

/-- THE SECOND FORM's CARD OF 'rafterlaw09.FuseSame'. -/
def fuseSameUptoCard : Claim7 := { stood := { row := fuseSameUptoRow, standIns := [], harness := (true, "8a91decc21e1fcc3d99e0bcec95dbc6e0110ff854582465a4fbba0de7792fe7f"), looks := false }, kinds := [], alts := [], laidByText := true, laidKinds := [.data, .pinned], laidTests := true, laidLooks := .later }
def FuseSameUptoCardSaid : Prop := Claim7.holds Tryz.pinned (.plain (OpenSpec.upto fuseSameSpec)) fuseSameUptoCard

/-- THE SECOND FORM's CARD OF 'rafterlaw10.SeqSame'. -/
def seqSameUptoCard : Claim7 := { stood := { row := seqSameUptoRow, standIns := [], harness := (true, "8a91decc21e1fcc3d99e0bcec95dbc6e0110ff854582465a4fbba0de7792fe7f"), looks := false }, kinds := [], alts := [], laidByText := true, laidKinds := [.data, .pinned], laidTests := true, laidLooks := .later }
def SeqSameUptoCardSaid : Prop := Claim7.holds Tryz.pinned (.plain (OpenSpec.upto seqSameSpec)) seqSameUptoCard
end Rows
end Go.Proofs.YtabhngbpkfdeiaaGreatDoor

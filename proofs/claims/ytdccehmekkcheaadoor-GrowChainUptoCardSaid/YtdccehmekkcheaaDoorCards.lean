/-
  DERIVED. GIVEN WITH THE SEED: THE CARDS: each row of YtdccehmekkcheaaDoorRows.lean that lists a variable, with what it lists TIED to the program's text (the seventh form; the later family's looks); each row that meets fmt, with fmt's text TOLD by the authors' own Lean function (tested against real Go, not proved from fmt's source: count such statements apart). THE CARD IS WHAT COUNTS. Prove the row's statement (the work); the ties are given (YtdccehmekkcheaaDoorTie.lean); close each card by the builder's one call (the guide's Derived/Test/ToyasCard.lean, 'card_holds'). Laid BY PROGRAM, IN A SANDBOX (cutbox-door.mjs). By AI agents, Wed Nov 11 2026. No macro, syntax, notation, axiom, sorry.
-/
import Derived.Test.YtdccehmekkcheaaDoorRows
import GoSem.ClaimSeven
namespace Go.Proofs.YtdccehmekkcheaaDoor
namespace Rows

/-- THE TIED CARD OF 'beaconlaw11.TreeRoots'. -/
def treeRootsCard : Claim7 := { stood := { row := treeRootsRow, standIns := [], harness := (true, "9a57f9fd979394206873210b5d864362344a6fe499f1eecf8993e216bfaadae2"), looks := false }, kinds := [], alts := [], laidByText := true, laidKinds := [.data], laidTests := true, laidLooks := .later }
def TreeRootsCardSaid : Prop := Claim7.holds Tryd.pinned (.plain (OpenSpec.ofChange treeRootsSpec)) treeRootsCard

/-- THE TIED CARD OF 'beaconlaw11.TreeParts'. -/
def treePartsCard : Claim7 := { stood := { row := treePartsRow, standIns := [], harness := (true, "9a57f9fd979394206873210b5d864362344a6fe499f1eecf8993e216bfaadae2"), looks := false }, kinds := [], alts := [], laidByText := true, laidKinds := [.data], laidTests := true, laidLooks := .later }
def TreePartsCardSaid : Prop := Claim7.holds Tryd.pinned (.plain (OpenSpec.ofChange treePartsSpec)) treePartsCard

/-- THE TIED CARD OF 'beaconlaw11.TreeNodes'. -/
def treeNodesCard : Claim7 := { stood := { row := treeNodesRow, standIns := [], harness := (true, "9a57f9fd979394206873210b5d864362344a6fe499f1eecf8993e216bfaadae2"), looks := false }, kinds := [], alts := [], laidByText := true, laidKinds := [.data], laidTests := true, laidLooks := .later }
def TreeNodesCardSaid : Prop := Claim7.holds Tryd.pinned (.plain (OpenSpec.ofChange treeNodesSpec)) treeNodesCard

/-- THE TIED CARD OF 'beaconlaw11.TreeFinds'. -/
def treeFindsCard : Claim7 := { stood := { row := treeFindsRow, standIns := [], harness := (true, "9a57f9fd979394206873210b5d864362344a6fe499f1eecf8993e216bfaadae2"), looks := false }, kinds := [], alts := [], laidByText := true, laidKinds := [.data], laidTests := true, laidLooks := .later }
def TreeFindsCardSaid : Prop := Claim7.holds Tryd.pinned (.plain (OpenSpec.ofChange treeFindsSpec)) treeFindsCard

/-- THE TIED CARD OF 'beaconlaw11.TreeOpens'. -/
def treeOpensCard : Claim7 := { stood := { row := treeOpensRow, standIns := [], harness := (true, "9a57f9fd979394206873210b5d864362344a6fe499f1eecf8993e216bfaadae2"), looks := false }, kinds := [], alts := [], laidByText := true, laidKinds := [.data], laidTests := true, laidLooks := .later }
def TreeOpensCardSaid : Prop := Claim7.holds Tryd.pinned (.plain (OpenSpec.ofChange treeOpensSpec)) treeOpensCard

/-- THE TIED CARD OF 'beaconlaw12.GrowStays'. -/
def growStaysCard : Claim7 := { stood := { row := growStaysRow, standIns := [], harness := (true, "9a57f9fd979394206873210b5d864362344a6fe499f1eecf8993e216bfaadae2"), looks := false }, kinds := [], alts := [], laidByText := true, laidKinds := [.data], laidTests := true, laidLooks := .later }
def GrowStaysCardSaid : Prop := Claim7.holds Tryd.pinned (.plain (OpenSpec.ofChange growStaysSpec)) growStaysCard

/-- THE TIED CARD OF 'beaconlaw12.GrowChecks'. -/
def growChecksCard : Claim7 := { stood := { row := growChecksRow, standIns := [], harness := (true, "9a57f9fd979394206873210b5d864362344a6fe499f1eecf8993e216bfaadae2"), looks := false }, kinds := [], alts := [], laidByText := true, laidKinds := [.data], laidTests := true, laidLooks := .later }
def GrowChecksCardSaid : Prop := Claim7.holds Tryd.pinned (.plain (OpenSpec.ofChange growChecksSpec)) growChecksCard

/-- THE TIED CARD OF 'beaconlaw12.GrowAccepts'. -/
def growAcceptsCard : Claim7 := { stood := { row := growAcceptsRow, standIns := [], harness := (true, "9a57f9fd979394206873210b5d864362344a6fe499f1eecf8993e216bfaadae2"), looks := false }, kinds := [], alts := [], laidByText := true, laidKinds := [.data], laidTests := true, laidLooks := .later }
def GrowAcceptsCardSaid : Prop := Claim7.holds Tryd.pinned (.plain (OpenSpec.ofChange growAcceptsSpec)) growAcceptsCard

/-- THE TIED CARD OF 'beaconlaw12.GrowLeast'. -/
def growLeastCard : Claim7 := { stood := { row := growLeastRow, standIns := [], harness := (true, "9a57f9fd979394206873210b5d864362344a6fe499f1eecf8993e216bfaadae2"), looks := false }, kinds := [], alts := [], laidByText := true, laidKinds := [.data], laidTests := true, laidLooks := .later }
def GrowLeastCardSaid : Prop := Claim7.holds Tryd.pinned (.plain (OpenSpec.ofChange growLeastSpec)) growLeastCard

/-- THE TIED CARD OF 'beaconlaw12.GrowChain'. -/
def growChainCard : Claim7 := { stood := { row := growChainRow, standIns := [], harness := (true, "9a57f9fd979394206873210b5d864362344a6fe499f1eecf8993e216bfaadae2"), looks := false }, kinds := [], alts := [], laidByText := true, laidKinds := [.data], laidTests := true, laidLooks := .later }
def GrowChainCardSaid : Prop := Claim7.holds Tryd.pinned (.plain (OpenSpec.ofChange growChainSpec)) growChainCard

/-- THE TIED CARD OF 'beaconlaw12.GrowKeeps'. -/
def growKeepsCard : Claim7 := { stood := { row := growKeepsRow, standIns := [], harness := (true, "9a57f9fd979394206873210b5d864362344a6fe499f1eecf8993e216bfaadae2"), looks := false }, kinds := [], alts := [], laidByText := true, laidKinds := [.data], laidTests := true, laidLooks := .later }
def GrowKeepsCardSaid : Prop := Claim7.holds Tryd.pinned (.plain (OpenSpec.ofChange growKeepsSpec)) growKeepsCard

/-- THE TIED CARD OF 'beaconlaw11.TreeBack'. -/
def treeBackCard : Claim7 := { stood := { row := treeBackRow, standIns := [], harness := (true, "9a57f9fd979394206873210b5d864362344a6fe499f1eecf8993e216bfaadae2"), looks := false }, kinds := [], alts := [], laidByText := true, laidKinds := [.data], laidTests := true, laidLooks := .later }
def TreeBackCardSaid : Prop := Claim7.holds Tryd.pinned (.plain (OpenSpec.ofChange treeBackSpec)) treeBackCard

/-- THE TIED CARD OF 'beaconlaw11.TreeKeeps'. -/
def treeKeepsCard : Claim7 := { stood := { row := treeKeepsRow, standIns := [], harness := (true, "9a57f9fd979394206873210b5d864362344a6fe499f1eecf8993e216bfaadae2"), looks := false }, kinds := [], alts := [], laidByText := true, laidKinds := [.data], laidTests := true, laidLooks := .later }
def TreeKeepsCardSaid : Prop := Claim7.holds Tryd.pinned (.plain (OpenSpec.ofChange treeKeepsSpec)) treeKeepsCard

/-- THE TIED CARD OF 'beaconlaw12.GrowRelinks'. -/
def growRelinksCard : Claim7 := { stood := { row := growRelinksRow, standIns := [], harness := (true, "9a57f9fd979394206873210b5d864362344a6fe499f1eecf8993e216bfaadae2"), looks := false }, kinds := [], alts := [], laidByText := true, laidKinds := [.data], laidTests := true, laidLooks := .later }
def GrowRelinksCardSaid : Prop := Claim7.holds Tryd.pinned (.plain (OpenSpec.ofChange growRelinksSpec)) growRelinksCard

/-- THE SECOND FORM's CARD OF 'beaconlaw11.TreeRoots'. -/
def treeRootsUptoCard : Claim7 := { stood := { row := treeRootsUptoRow, standIns := [], harness := (true, "9a57f9fd979394206873210b5d864362344a6fe499f1eecf8993e216bfaadae2"), looks := false }, kinds := [], alts := [], laidByText := true, laidKinds := [.data], laidTests := true, laidLooks := .later }
def TreeRootsUptoCardSaid : Prop := Claim7.holds Tryd.pinned (.plain (OpenSpec.upto treeRootsSpec)) treeRootsUptoCard

/-- THE SECOND FORM's CARD OF 'beaconlaw11.TreeParts'. -/
def treePartsUptoCard : Claim7 := { stood := { row := treePartsUptoRow, standIns := [], harness := (true, "9a57f9fd979394206873210b5d864362344a6fe499f1eecf8993e216bfaadae2"), looks := false }, kinds := [], alts := [], laidByText := true, laidKinds := [.data], laidTests := true, laidLooks := .later }
def TreePartsUptoCardSaid : Prop := Claim7.holds Tryd.pinned (.plain (OpenSpec.upto treePartsSpec)) treePartsUptoCard

/-- THE SECOND FORM's CARD OF 'beaconlaw11.TreeNodes'. -/
def treeNodesUptoCard : Claim7 := { stood := { row := treeNodesUptoRow, standIns := [], harness := (true, "9a57f9fd979394206873210b5d864362344a6fe499f1eecf8993e216bfaadae2"), looks := false }, kinds := [], alts := [], laidByText := true, laidKinds := [.data], laidTests := true, laidLooks := .later }
def TreeNodesUptoCardSaid : Prop := Claim7.holds Tryd.pinned (.plain (OpenSpec.upto treeNodesSpec)) treeNodesUptoCard

/-- THE SECOND FORM's CARD OF 'beaconlaw11.TreeFinds'. -/
def treeFindsUptoCard : Claim7 := { stood := { row := treeFindsUptoRow, standIns := [], harness := (true, "9a57f9fd979394206873210b5d864362344a6fe499f1eecf8993e216bfaadae2"), looks := false }, kinds := [], alts := [], laidByText := true, laidKinds := [.data], laidTests := true, laidLooks := .later }
def TreeFindsUptoCardSaid : Prop := Claim7.holds Tryd.pinned (.plain (OpenSpec.upto treeFindsSpec)) treeFindsUptoCard

/-- THE SECOND FORM's CARD OF 'beaconlaw11.TreeOpens'. -/
def treeOpensUptoCard : Claim7 := { stood := { row := treeOpensUptoRow, standIns := [], harness := (true, "9a57f9fd979394206873210b5d864362344a6fe499f1eecf8993e216bfaadae2"), looks := false }, kinds := [], alts := [], laidByText := true, laidKinds := [.data], laidTests := true, laidLooks := .later }
def TreeOpensUptoCardSaid : Prop := Claim7.holds Tryd.pinned (.plain (OpenSpec.upto treeOpensSpec)) treeOpensUptoCard

/-- THE SECOND FORM's CARD OF 'beaconlaw12.GrowStays'. -/
def growStaysUptoCard : Claim7 := { stood := { row := growStaysUptoRow, standIns := [], harness := (true, "9a57f9fd979394206873210b5d864362344a6fe499f1eecf8993e216bfaadae2"), looks := false }, kinds := [], alts := [], laidByText := true, laidKinds := [.data], laidTests := true, laidLooks := .later }
def GrowStaysUptoCardSaid : Prop := Claim7.holds Tryd.pinned (.plain (OpenSpec.upto growStaysSpec)) growStaysUptoCard

/-- THE SECOND FORM's CARD OF 'beaconlaw12.GrowChecks'. -/
def growChecksUptoCard : Claim7 := { stood := { row := growChecksUptoRow, standIns := [], harness := (true, "9a57f9fd979394206873210b5d864362344a6fe499f1eecf8993e216bfaadae2"), looks := false }, kinds := [], alts := [], laidByText := true, laidKinds := [.data], laidTests := true, laidLooks := .later }
def GrowChecksUptoCardSaid : Prop := Claim7.holds Tryd.pinned (.plain (OpenSpec.upto growChecksSpec)) growChecksUptoCard

/-- THE SECOND FORM's CARD OF 'beaconlaw12.GrowAccepts'. -/
def growAcceptsUptoCard : Claim7 := { stood := { row := growAcceptsUptoRow, standIns := [], harness := (true, "9a57f9fd979394206873210b5d864362344a6fe499f1eecf8993e216bfaadae2"), looks := false }, kinds := [], alts := [], laidByText := true, laidKinds := [.data], laidTests := true, laidLooks := .later }
def GrowAcceptsUptoCardSaid : Prop := Claim7.holds Tryd.pinned (.plain (OpenSpec.upto growAcceptsSpec)) growAcceptsUptoCard

/-- THE SECOND FORM's CARD OF 'beaconlaw12.GrowLeast'. -/
def growLeastUptoCard : Claim7 := { stood := { row := growLeastUptoRow, standIns := [], harness := (true, "9a57f9fd979394206873210b5d864362344a6fe499f1eecf8993e216bfaadae2"), looks := false }, kinds := [], alts := [], laidByText := true, laidKinds := [.data], laidTests := true, laidLooks := .later }
def GrowLeastUptoCardSaid : Prop := Claim7.holds Tryd.pinned (.plain (OpenSpec.upto growLeastSpec)) growLeastUptoCard

/-- THE SECOND FORM's CARD OF 'beaconlaw12.GrowChain'. -/
def growChainUptoCard : Claim7 := { stood := { row := growChainUptoRow, standIns := [], harness := (true, "9a57f9fd979394206873210b5d864362344a6fe499f1eecf8993e216bfaadae2"), looks := false }, kinds := [], alts := [], laidByText := true, laidKinds := [.data], laidTests := true, laidLooks := .later }
def GrowChainUptoCardSaid : Prop := Claim7.holds Tryd.pinned (.plain (OpenSpec.upto growChainSpec)) growChainUptoCard

/-- THE SECOND FORM's CARD OF 'beaconlaw12.GrowKeeps'. -/
def growKeepsUptoCard : Claim7 := { stood := { row := growKeepsUptoRow, standIns := [], harness := (true, "9a57f9fd979394206873210b5d864362344a6fe499f1eecf8993e216bfaadae2"), looks := false }, kinds := [], alts := [], laidByText := true, laidKinds := [.data], laidTests := true, laidLooks := .later }
def GrowKeepsUptoCardSaid : Prop := Claim7.holds Tryd.pinned (.plain (OpenSpec.upto growKeepsSpec)) growKeepsUptoCard

/-- THE SECOND FORM's CARD OF 'beaconlaw11.TreeBack'. -/
def treeBackUptoCard : Claim7 := { stood := { row := treeBackUptoRow, standIns := [], harness := (true, "9a57f9fd979394206873210b5d864362344a6fe499f1eecf8993e216bfaadae2"), looks := false }, kinds := [], alts := [], laidByText := true, laidKinds := [.data], laidTests := true, laidLooks := .later }
def TreeBackUptoCardSaid : Prop := Claim7.holds Tryd.pinned (.plain (OpenSpec.upto treeBackSpec)) treeBackUptoCard

/-- THE SECOND FORM's CARD OF 'beaconlaw11.TreeKeeps'. -/
def treeKeepsUptoCard : Claim7 := { stood := { row := treeKeepsUptoRow, standIns := [], harness := (true, "9a57f9fd979394206873210b5d864362344a6fe499f1eecf8993e216bfaadae2"), looks := false }, kinds := [], alts := [], laidByText := true, laidKinds := [.data], laidTests := true, laidLooks := .later }
def TreeKeepsUptoCardSaid : Prop := Claim7.holds Tryd.pinned (.plain (OpenSpec.upto treeKeepsSpec)) treeKeepsUptoCard

/-- THE SECOND FORM's CARD OF 'beaconlaw12.GrowRelinks'. -/
def growRelinksUptoCard : Claim7 := { stood := { row := growRelinksUptoRow, standIns := [], harness := (true, "9a57f9fd979394206873210b5d864362344a6fe499f1eecf8993e216bfaadae2"), looks := false }, kinds := [], alts := [], laidByText := true, laidKinds := [.data], laidTests := true, laidLooks := .later }
def GrowRelinksUptoCardSaid : Prop := Claim7.holds Tryd.pinned (.plain (OpenSpec.upto growRelinksSpec)) growRelinksUptoCard
end Rows
end Go.Proofs.YtdccehmekkcheaaDoor

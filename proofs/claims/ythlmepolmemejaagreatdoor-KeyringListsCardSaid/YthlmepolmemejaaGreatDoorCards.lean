/-
  DERIVED. GIVEN WITH THE SEED: THE CARDS: each row of YthlmepolmemejaaGreatDoorRows.lean that lists a variable, with what it lists TIED to the program's text (the seventh form; the later family's looks); each row that meets fmt, with fmt's text TOLD by the authors' own Lean function (tested against real Go, not proved from fmt's source: count such statements apart). THE CARD IS WHAT COUNTS. Prove the row's statement (the work); the ties are given (YthlmepolmemejaaGreatDoorTie.lean); close each card by the builder's one call (the guide's Derived/Test/ToyasCard.lean, 'card_holds'). Laid BY PROGRAM, IN A SANDBOX (cutbox-door.mjs). By AI agents, Wed Nov 11 2026. No macro, syntax, notation, axiom, sorry.
-/
import Derived.Test.YthlmepolmemejaaGreatDoorRows
import GoSem.ClaimSeven
namespace Go.Proofs.YthlmepolmemejaaGreatDoor
namespace Rows

/-- THE TIED CARD OF 'beaconlaw14.KeyringChains'. -/
def keyringChainsCard : Claim7 := { stood := { row := keyringChainsRow, standIns := [], harness := (true, "8d8a8e4175b4b81e0fdd1f044758942b3b82051a8677997592ce012129dc71f5"), looks := false }, kinds := [], alts := [], laidByText := true, laidKinds := [.wider, .data, .data], laidTests := true, laidLooks := .later }
def KeyringChainsCardSaid : Prop := Claim7.holds Tryz.pinned (.plain (OpenSpec.ofChange keyringChainsSpec)) keyringChainsCard

/-- THE TIED CARD OF 'beaconlaw14.KeyringLists'. -/
def keyringListsCard : Claim7 := { stood := { row := keyringListsRow, standIns := [], harness := (true, "8d8a8e4175b4b81e0fdd1f044758942b3b82051a8677997592ce012129dc71f5"), looks := false }, kinds := [], alts := [], laidByText := true, laidKinds := [.wider, .data, .data], laidTests := true, laidLooks := .later }
def KeyringListsCardSaid : Prop := Claim7.holds Tryz.pinned (.plain (OpenSpec.ofChange keyringListsSpec)) keyringListsCard

/-- THE TIED CARD OF 'beaconlaw14.KeyringKeeps'. -/
def keyringKeepsCard : Claim7 := { stood := { row := keyringKeepsRow, standIns := [], harness := (true, "8d8a8e4175b4b81e0fdd1f044758942b3b82051a8677997592ce012129dc71f5"), looks := false }, kinds := [], alts := [], laidByText := true, laidKinds := [.wider, .data, .data], laidTests := true, laidLooks := .later }
def KeyringKeepsCardSaid : Prop := Claim7.holds Tryz.pinned (.plain (OpenSpec.ofChange keyringKeepsSpec)) keyringKeepsCard

/-- THE SECOND FORM's CARD OF 'beaconlaw14.KeyringChains'. -/
def keyringChainsUptoCard : Claim7 := { stood := { row := keyringChainsUptoRow, standIns := [], harness := (true, "8d8a8e4175b4b81e0fdd1f044758942b3b82051a8677997592ce012129dc71f5"), looks := false }, kinds := [], alts := [], laidByText := true, laidKinds := [.wider, .data, .data], laidTests := true, laidLooks := .later }
def KeyringChainsUptoCardSaid : Prop := Claim7.holds Tryz.pinned (.plain (OpenSpec.upto keyringChainsSpec)) keyringChainsUptoCard

/-- THE SECOND FORM's CARD OF 'beaconlaw14.KeyringLists'. -/
def keyringListsUptoCard : Claim7 := { stood := { row := keyringListsUptoRow, standIns := [], harness := (true, "8d8a8e4175b4b81e0fdd1f044758942b3b82051a8677997592ce012129dc71f5"), looks := false }, kinds := [], alts := [], laidByText := true, laidKinds := [.wider, .data, .data], laidTests := true, laidLooks := .later }
def KeyringListsUptoCardSaid : Prop := Claim7.holds Tryz.pinned (.plain (OpenSpec.upto keyringListsSpec)) keyringListsUptoCard

/-- THE SECOND FORM's CARD OF 'beaconlaw14.KeyringKeeps'. -/
def keyringKeepsUptoCard : Claim7 := { stood := { row := keyringKeepsUptoRow, standIns := [], harness := (true, "8d8a8e4175b4b81e0fdd1f044758942b3b82051a8677997592ce012129dc71f5"), looks := false }, kinds := [], alts := [], laidByText := true, laidKinds := [.wider, .data, .data], laidTests := true, laidLooks := .later }
def KeyringKeepsUptoCardSaid : Prop := Claim7.holds Tryz.pinned (.plain (OpenSpec.upto keyringKeepsSpec)) keyringKeepsUptoCard
end Rows
end Go.Proofs.YthlmepolmemejaaGreatDoor

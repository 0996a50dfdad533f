/-
  DERIVED. GIVEN WITH THE SEED: THE CARDS: each row of YtbfndladaldajaaGreatDoorRows.lean that lists a variable, with what it lists TIED to the program's text (the seventh form; the later family's looks); each row that meets fmt, with fmt's text TOLD by the authors' own Lean function (tested against real Go, not proved from fmt's source: count such statements apart). THE CARD IS WHAT COUNTS. Prove the row's statement (the work); the ties are given (YtbfndladaldajaaGreatDoorTie.lean); close each card by the builder's one call (the guide's Derived/Test/ToyasCard.lean, 'card_holds'). Laid BY PROGRAM, IN A SANDBOX (cutbox-door.mjs). By AI agents, Wed Nov 11 2026. No macro, syntax, notation, axiom, sorry.
-/
import Derived.Test.YtbfndladaldajaaGreatDoorRows
import GoSem.ClaimSeven
namespace Go.Proofs.YtbfndladaldajaaGreatDoor
namespace Rows

/-- THE TIED CARD OF 'beaconlaw14.KeyringMakes'. -/
def keyringMakesCard : Claim7 := { stood := { row := keyringMakesRow, standIns := [], harness := (true, "388823fa82d4d015628e2bd6e2d5a7b9c8efe39bfb6db3e5de6e345447dec0ca"), looks := false }, kinds := [], alts := [], laidByText := true, laidKinds := [.wider, .data, .data], laidTests := true, laidLooks := .later }
def KeyringMakesCardSaid : Prop := Claim7.holds Tryz.pinned (.plain (OpenSpec.ofChange keyringMakesSpec)) keyringMakesCard

/-- THE TIED CARD OF 'beaconlaw13.LabelChecks'. -/
def labelChecksCard : Claim7 := { stood := { row := labelChecksRow, standIns := [], harness := (true, "388823fa82d4d015628e2bd6e2d5a7b9c8efe39bfb6db3e5de6e345447dec0ca"), looks := false }, kinds := [], alts := [], laidByText := true, laidKinds := [.wider, .data], laidTests := true, laidLooks := .later }
def LabelChecksCardSaid : Prop := Claim7.holds Tryz.pinned (.plain (OpenSpec.ofChange labelChecksSpec)) labelChecksCard

/-- THE TIED CARD OF 'beaconlaw06.VrfTurned'. -/
def vrfTurnedCard : Claim7 := { stood := { row := vrfTurnedRow, standIns := [], harness := (true, "388823fa82d4d015628e2bd6e2d5a7b9c8efe39bfb6db3e5de6e345447dec0ca"), looks := false }, kinds := [], alts := [], laidByText := true, laidKinds := [.wider, .data], laidTests := true, laidLooks := .later }
def VrfTurnedCardSaid : Prop := Claim7.holds Tryz.pinned (.plain (OpenSpec.ofChange vrfTurnedSpec)) vrfTurnedCard

/-- THE TIED CARD OF 'beaconlaw06.VrfVerifies'. -/
def vrfVerifiesCard : Claim7 := { stood := { row := vrfVerifiesRow, standIns := [], harness := (true, "388823fa82d4d015628e2bd6e2d5a7b9c8efe39bfb6db3e5de6e345447dec0ca"), looks := false }, kinds := [], alts := [], laidByText := true, laidKinds := [.wider, .data], laidTests := true, laidLooks := .later }
def VrfVerifiesCardSaid : Prop := Claim7.holds Tryz.pinned (.plain (OpenSpec.ofChange vrfVerifiesSpec)) vrfVerifiesCard

/-- THE TIED CARD OF 'beaconlaw13.LabelMakes'. -/
def labelMakesCard : Claim7 := { stood := { row := labelMakesRow, standIns := [], harness := (true, "388823fa82d4d015628e2bd6e2d5a7b9c8efe39bfb6db3e5de6e345447dec0ca"), looks := false }, kinds := [], alts := [], laidByText := true, laidKinds := [.wider, .data], laidTests := true, laidLooks := .later }
def LabelMakesCardSaid : Prop := Claim7.holds Tryz.pinned (.plain (OpenSpec.ofChange labelMakesSpec)) labelMakesCard

/-- THE TIED CARD OF 'beaconlaw14.KeyringCerts'. -/
def keyringCertsCard : Claim7 := { stood := { row := keyringCertsRow, standIns := [], harness := (true, "388823fa82d4d015628e2bd6e2d5a7b9c8efe39bfb6db3e5de6e345447dec0ca"), looks := false }, kinds := [], alts := [], laidByText := true, laidKinds := [.wider, .data, .data], laidTests := true, laidLooks := .later }
def KeyringCertsCardSaid : Prop := Claim7.holds Tryz.pinned (.plain (OpenSpec.ofChange keyringCertsSpec)) keyringCertsCard

/-- THE TIED CARD OF 'beaconlaw14.KeyringChains'. -/
def keyringChainsCard : Claim7 := { stood := { row := keyringChainsRow, standIns := [], harness := (true, "388823fa82d4d015628e2bd6e2d5a7b9c8efe39bfb6db3e5de6e345447dec0ca"), looks := false }, kinds := [], alts := [], laidByText := true, laidKinds := [.wider, .data, .data], laidTests := true, laidLooks := .later }
def KeyringChainsCardSaid : Prop := Claim7.holds Tryz.pinned (.plain (OpenSpec.ofChange keyringChainsSpec)) keyringChainsCard

/-- THE TIED CARD OF 'beaconlaw14.KeyringLists'. -/
def keyringListsCard : Claim7 := { stood := { row := keyringListsRow, standIns := [], harness := (true, "388823fa82d4d015628e2bd6e2d5a7b9c8efe39bfb6db3e5de6e345447dec0ca"), looks := false }, kinds := [], alts := [], laidByText := true, laidKinds := [.wider, .data, .data], laidTests := true, laidLooks := .later }
def KeyringListsCardSaid : Prop := Claim7.holds Tryz.pinned (.plain (OpenSpec.ofChange keyringListsSpec)) keyringListsCard

/-- THE TIED CARD OF 'beaconlaw14.KeyringKeeps'. -/
def keyringKeepsCard : Claim7 := { stood := { row := keyringKeepsRow, standIns := [], harness := (true, "388823fa82d4d015628e2bd6e2d5a7b9c8efe39bfb6db3e5de6e345447dec0ca"), looks := false }, kinds := [], alts := [], laidByText := true, laidKinds := [.wider, .data, .data], laidTests := true, laidLooks := .later }
def KeyringKeepsCardSaid : Prop := Claim7.holds Tryz.pinned (.plain (OpenSpec.ofChange keyringKeepsSpec)) keyringKeepsCard

/-- THE TIED CARD OF 'beaconlaw14.KeyringRoots'. -/
def keyringRootsCard : Claim7 := { stood := { row := keyringRootsRow, standIns := [], harness := (true, "388823fa82d4d015628e2bd6e2d5a7b9c8efe39bfb6db3e5de6e345447dec0ca"), looks := false }, kinds := [], alts := [], laidByText := true, laidKinds := [.wider, .data, .data], laidTests := true, laidLooks := .later }
def KeyringRootsCardSaid : Prop := Claim7.holds Tryz.pinned (.plain (OpenSpec.ofChange keyringRootsSpec)) keyringRootsCard

/-- THE SECOND FORM's CARD OF 'beaconlaw14.KeyringMakes'. -/
def keyringMakesUptoCard : Claim7 := { stood := { row := keyringMakesUptoRow, standIns := [], harness := (true, "388823fa82d4d015628e2bd6e2d5a7b9c8efe39bfb6db3e5de6e345447dec0ca"), looks := false }, kinds := [], alts := [], laidByText := true, laidKinds := [.wider, .data, .data], laidTests := true, laidLooks := .later }
def KeyringMakesUptoCardSaid : Prop := Claim7.holds Tryz.pinned (.plain (OpenSpec.upto keyringMakesSpec)) keyringMakesUptoCard

/-- THE SECOND FORM's CARD OF 'beaconlaw13.LabelChecks'. -/
def labelChecksUptoCard : Claim7 := { stood := { row := labelChecksUptoRow, standIns := [], harness := (true, "388823fa82d4d015628e2bd6e2d5a7b9c8efe39bfb6db3e5de6e345447dec0ca"), looks := false }, kinds := [], alts := [], laidByText := true, laidKinds := [.wider, .data], laidTests := true, laidLooks := .later }
def LabelChecksUptoCardSaid : Prop := Claim7.holds Tryz.pinned (.plain (OpenSpec.upto labelChecksSpec)) labelChecksUptoCard

/-- THE SECOND FORM's CARD OF 'beaconlaw06.VrfTurned'. -/
def vrfTurnedUptoCard : Claim7 := { stood := { row := vrfTurnedUptoRow, standIns := [], harness := (true, "388823fa82d4d015628e2bd6e2d5a7b9c8efe39bfb6db3e5de6e345447dec0ca"), looks := false }, kinds := [], alts := [], laidByText := true, laidKinds := [.wider, .data], laidTests := true, laidLooks := .later }
def VrfTurnedUptoCardSaid : Prop := Claim7.holds Tryz.pinned (.plain (OpenSpec.upto vrfTurnedSpec)) vrfTurnedUptoCard

/-- THE SECOND FORM's CARD OF 'beaconlaw06.VrfVerifies'. -/
def vrfVerifiesUptoCard : Claim7 := { stood := { row := vrfVerifiesUptoRow, standIns := [], harness := (true, "388823fa82d4d015628e2bd6e2d5a7b9c8efe39bfb6db3e5de6e345447dec0ca"), looks := false }, kinds := [], alts := [], laidByText := true, laidKinds := [.wider, .data], laidTests := true, laidLooks := .later }
def VrfVerifiesUptoCardSaid : Prop := Claim7.holds Tryz.pinned (.plain (OpenSpec.upto vrfVerifiesSpec)) vrfVerifiesUptoCard

/-- THE SECOND FORM's CARD OF 'beaconlaw13.LabelMakes'. -/
def labelMakesUptoCard : Claim7 := { stood := { row := labelMakesUptoRow, standIns := [], harness := (true, "388823fa82d4d015628e2bd6e2d5a7b9c8efe39bfb6db3e5de6e345447dec0ca"), looks := false }, kinds := [], alts := [], laidByText := true, laidKinds := [.wider, .data], laidTests := true, laidLooks := .later }
def LabelMakesUptoCardSaid : Prop := Claim7.holds Tryz.pinned (.plain (OpenSpec.upto labelMakesSpec)) labelMakesUptoCard

/-- THE SECOND FORM's CARD OF 'beaconlaw14.KeyringCerts'. -/
def keyringCertsUptoCard : Claim7 := { stood := { row := keyringCertsUptoRow, standIns := [], harness := (true, "388823fa82d4d015628e2bd6e2d5a7b9c8efe39bfb6db3e5de6e345447dec0ca"), looks := false }, kinds := [], alts := [], laidByText := true, laidKinds := [.wider, .data, .data], laidTests := true, laidLooks := .later }
def KeyringCertsUptoCardSaid : Prop := Claim7.holds Tryz.pinned (.plain (OpenSpec.upto keyringCertsSpec)) keyringCertsUptoCard

/-- THE SECOND FORM's CARD OF 'beaconlaw14.KeyringChains'. -/
def keyringChainsUptoCard : Claim7 := { stood := { row := keyringChainsUptoRow, standIns := [], harness := (true, "388823fa82d4d015628e2bd6e2d5a7b9c8efe39bfb6db3e5de6e345447dec0ca"), looks := false }, kinds := [], alts := [], laidByText := true, laidKinds := [.wider, .data, .data], laidTests := true, laidLooks := .later }
def KeyringChainsUptoCardSaid : Prop := Claim7.holds Tryz.pinned (.plain (OpenSpec.upto keyringChainsSpec)) keyringChainsUptoCard

/-- THE SECOND FORM's CARD OF 'beaconlaw14.KeyringLists'. -/
def keyringListsUptoCard : Claim7 := { stood := { row := keyringListsUptoRow, standIns := [], harness := (true, "388823fa82d4d015628e2bd6e2d5a7b9c8efe39bfb6db3e5de6e345447dec0ca"), looks := false }, kinds := [], alts := [], laidByText := true, laidKinds := [.wider, .data, .data], laidTests := true, laidLooks := .later }
def KeyringListsUptoCardSaid : Prop := Claim7.holds Tryz.pinned (.plain (OpenSpec.upto keyringListsSpec)) keyringListsUptoCard

/-- THE SECOND FORM's CARD OF 'beaconlaw14.KeyringKeeps'. -/
def keyringKeepsUptoCard : Claim7 := { stood := { row := keyringKeepsUptoRow, standIns := [], harness := (true, "388823fa82d4d015628e2bd6e2d5a7b9c8efe39bfb6db3e5de6e345447dec0ca"), looks := false }, kinds := [], alts := [], laidByText := true, laidKinds := [.wider, .data, .data], laidTests := true, laidLooks := .later }
def KeyringKeepsUptoCardSaid : Prop := Claim7.holds Tryz.pinned (.plain (OpenSpec.upto keyringKeepsSpec)) keyringKeepsUptoCard

/-- THE SECOND FORM's CARD OF 'beaconlaw14.KeyringRoots'. -/
def keyringRootsUptoCard : Claim7 := { stood := { row := keyringRootsUptoRow, standIns := [], harness := (true, "388823fa82d4d015628e2bd6e2d5a7b9c8efe39bfb6db3e5de6e345447dec0ca"), looks := false }, kinds := [], alts := [], laidByText := true, laidKinds := [.wider, .data, .data], laidTests := true, laidLooks := .later }
def KeyringRootsUptoCardSaid : Prop := Claim7.holds Tryz.pinned (.plain (OpenSpec.upto keyringRootsSpec)) keyringRootsUptoCard
end Rows
end Go.Proofs.YtbfndladaldajaaGreatDoor

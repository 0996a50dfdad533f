/-
  DERIVED. GIVEN WITH THE SEED: THE CARDS: each row of YthbhmmndggkmaaaGreatDoorRows.lean that lists a variable, with what it lists TIED to the program's text (the seventh form; the later family's looks); each row that meets fmt, with fmt's text TOLD by the authors' own Lean function (tested against real Go, not proved from fmt's source: count such statements apart). THE CARD IS WHAT COUNTS. Prove the row's statement (the work); the ties are given (YthbhmmndggkmaaaGreatDoorTie.lean); close each card by the builder's one call (the guide's Derived/Test/ToyasCard.lean, 'card_holds'). Laid BY PROGRAM, IN A SANDBOX (cutbox-door.mjs). By AI agents, Wed Nov 11 2026. No macro, syntax, notation, axiom, sorry.
-/
import Derived.Test.YthbhmmndggkmaaaGreatDoorRows
import GoSem.ClaimSeven
namespace Go.Proofs.YthbhmmndggkmaaaGreatDoor
namespace Rows

/-- THE TIED CARD OF 'beaconlaw05.EddsaVerifies'. -/
def eddsaVerifiesCard : Claim7 := { stood := { row := eddsaVerifiesRow, standIns := [], harness := (true, "345b25b4321426883a86ed3f65f0040f78cdb427801640ccce768b370625379c"), looks := false }, kinds := [], alts := [], laidByText := true, laidKinds := [.wider, .data], laidTests := true, laidLooks := .later }
def EddsaVerifiesCardSaid : Prop := Claim7.holds Tryz.pinned (.plain (OpenSpec.ofChange eddsaVerifiesSpec)) eddsaVerifiesCard

/-- THE TIED CARD OF 'beaconlaw05.EddsaTurned'. -/
def eddsaTurnedCard : Claim7 := { stood := { row := eddsaTurnedRow, standIns := [], harness := (true, "345b25b4321426883a86ed3f65f0040f78cdb427801640ccce768b370625379c"), looks := false }, kinds := [], alts := [], laidByText := true, laidKinds := [.wider, .data], laidTests := true, laidLooks := .later }
def EddsaTurnedCardSaid : Prop := Claim7.holds Tryz.pinned (.plain (OpenSpec.ofChange eddsaTurnedSpec)) eddsaTurnedCard

/-- THE TIED CARD OF 'beaconlaw06.VrfProves'. -/
def vrfProvesCard : Claim7 := { stood := { row := vrfProvesRow, standIns := [], harness := (true, "345b25b4321426883a86ed3f65f0040f78cdb427801640ccce768b370625379c"), looks := false }, kinds := [], alts := [], laidByText := true, laidKinds := [.wider, .data], laidTests := true, laidLooks := .later }
def VrfProvesCardSaid : Prop := Claim7.holds Tryz.pinned (.plain (OpenSpec.ofChange vrfProvesSpec)) vrfProvesCard

/-- THE TIED CARD OF 'beaconlaw06.VrfTurned'. -/
def vrfTurnedCard : Claim7 := { stood := { row := vrfTurnedRow, standIns := [], harness := (true, "345b25b4321426883a86ed3f65f0040f78cdb427801640ccce768b370625379c"), looks := false }, kinds := [], alts := [], laidByText := true, laidKinds := [.wider, .data], laidTests := true, laidLooks := .later }
def VrfTurnedCardSaid : Prop := Claim7.holds Tryz.pinned (.plain (OpenSpec.ofChange vrfTurnedSpec)) vrfTurnedCard

/-- THE TIED CARD OF 'beaconlaw06.VrfVerifies'. -/
def vrfVerifiesCard : Claim7 := { stood := { row := vrfVerifiesRow, standIns := [], harness := (true, "345b25b4321426883a86ed3f65f0040f78cdb427801640ccce768b370625379c"), looks := false }, kinds := [], alts := [], laidByText := true, laidKinds := [.wider, .data], laidTests := true, laidLooks := .later }
def VrfVerifiesCardSaid : Prop := Claim7.holds Tryz.pinned (.plain (OpenSpec.ofChange vrfVerifiesSpec)) vrfVerifiesCard

/-- THE SECOND FORM's CARD OF 'beaconlaw05.EddsaVerifies'. -/
def eddsaVerifiesUptoCard : Claim7 := { stood := { row := eddsaVerifiesUptoRow, standIns := [], harness := (true, "345b25b4321426883a86ed3f65f0040f78cdb427801640ccce768b370625379c"), looks := false }, kinds := [], alts := [], laidByText := true, laidKinds := [.wider, .data], laidTests := true, laidLooks := .later }
def EddsaVerifiesUptoCardSaid : Prop := Claim7.holds Tryz.pinned (.plain (OpenSpec.upto eddsaVerifiesSpec)) eddsaVerifiesUptoCard

/-- THE SECOND FORM's CARD OF 'beaconlaw05.EddsaTurned'. -/
def eddsaTurnedUptoCard : Claim7 := { stood := { row := eddsaTurnedUptoRow, standIns := [], harness := (true, "345b25b4321426883a86ed3f65f0040f78cdb427801640ccce768b370625379c"), looks := false }, kinds := [], alts := [], laidByText := true, laidKinds := [.wider, .data], laidTests := true, laidLooks := .later }
def EddsaTurnedUptoCardSaid : Prop := Claim7.holds Tryz.pinned (.plain (OpenSpec.upto eddsaTurnedSpec)) eddsaTurnedUptoCard

/-- THE SECOND FORM's CARD OF 'beaconlaw06.VrfProves'. -/
def vrfProvesUptoCard : Claim7 := { stood := { row := vrfProvesUptoRow, standIns := [], harness := (true, "345b25b4321426883a86ed3f65f0040f78cdb427801640ccce768b370625379c"), looks := false }, kinds := [], alts := [], laidByText := true, laidKinds := [.wider, .data], laidTests := true, laidLooks := .later }
def VrfProvesUptoCardSaid : Prop := Claim7.holds Tryz.pinned (.plain (OpenSpec.upto vrfProvesSpec)) vrfProvesUptoCard

/-- THE SECOND FORM's CARD OF 'beaconlaw06.VrfTurned'. -/
def vrfTurnedUptoCard : Claim7 := { stood := { row := vrfTurnedUptoRow, standIns := [], harness := (true, "345b25b4321426883a86ed3f65f0040f78cdb427801640ccce768b370625379c"), looks := false }, kinds := [], alts := [], laidByText := true, laidKinds := [.wider, .data], laidTests := true, laidLooks := .later }
def VrfTurnedUptoCardSaid : Prop := Claim7.holds Tryz.pinned (.plain (OpenSpec.upto vrfTurnedSpec)) vrfTurnedUptoCard

/-- THE SECOND FORM's CARD OF 'beaconlaw06.VrfVerifies'. -/
def vrfVerifiesUptoCard : Claim7 := { stood := { row := vrfVerifiesUptoRow, standIns := [], harness := (true, "345b25b4321426883a86ed3f65f0040f78cdb427801640ccce768b370625379c"), looks := false }, kinds := [], alts := [], laidByText := true, laidKinds := [.wider, .data], laidTests := true, laidLooks := .later }
def VrfVerifiesUptoCardSaid : Prop := Claim7.holds Tryz.pinned (.plain (OpenSpec.upto vrfVerifiesSpec)) vrfVerifiesUptoCard
end Rows
end Go.Proofs.YthbhmmndggkmaaaGreatDoor

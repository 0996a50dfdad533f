/-
  DERIVED. GIVEN WITH THE SEED: THE CARDS: each row of YthbhmmndggkmaaaDoorRows.lean that lists a variable, with what it lists TIED to the program's text (the seventh form; the later family's looks); each row that meets fmt, with fmt's text TOLD by the authors' own Lean function (tested against real Go, not proved from fmt's source: count such statements apart). THE CARD IS WHAT COUNTS. Prove the row's statement (the work); the ties are given (YthbhmmndggkmaaaDoorTie.lean); close each card by the builder's one call (the guide's Derived/Test/ToyasCard.lean, 'card_holds'). Laid BY PROGRAM, IN A SANDBOX (cutbox-door.mjs). By AI agents, Wed Nov 11 2026. No macro, syntax, notation, axiom, sorry.
-/
import Derived.Test.YthbhmmndggkmaaaDoorRows
import GoSem.ClaimSeven
namespace Go.Proofs.YthbhmmndggkmaaaDoor
namespace Rows

/-- THE TIED CARD OF 'beaconlaw05.EddsaSigns'. -/
def eddsaSignsCard : Claim7 := { stood := { row := eddsaSignsRow, standIns := [], harness := (true, "f0cb9b1ddd8860d4436f32e5ba1f71c6f86887aa1ba52ff5c4ae186056a35b7b"), looks := false }, kinds := [], alts := [], laidByText := true, laidKinds := [.wider, .data], laidTests := true, laidLooks := .later }
def EddsaSignsCardSaid : Prop := Claim7.holds Tryd.pinned (.plain (OpenSpec.ofChange eddsaSignsSpec)) eddsaSignsCard

/-- THE TIED CARD OF 'beaconlaw05.EddsaAccepts'. -/
def eddsaAcceptsCard : Claim7 := { stood := { row := eddsaAcceptsRow, standIns := [], harness := (true, "f0cb9b1ddd8860d4436f32e5ba1f71c6f86887aa1ba52ff5c4ae186056a35b7b"), looks := false }, kinds := [], alts := [], laidByText := true, laidKinds := [.wider, .data], laidTests := true, laidLooks := .later }
def EddsaAcceptsCardSaid : Prop := Claim7.holds Tryd.pinned (.plain (OpenSpec.ofChange eddsaAcceptsSpec)) eddsaAcceptsCard

/-- THE TIED CARD OF 'beaconlaw05.EddsaLarge'. -/
def eddsaLargeCard : Claim7 := { stood := { row := eddsaLargeRow, standIns := [], harness := (true, "f0cb9b1ddd8860d4436f32e5ba1f71c6f86887aa1ba52ff5c4ae186056a35b7b"), looks := false }, kinds := [], alts := [], laidByText := true, laidKinds := [.wider, .data], laidTests := true, laidLooks := .later }
def EddsaLargeCardSaid : Prop := Claim7.holds Tryd.pinned (.plain (OpenSpec.ofChange eddsaLargeSpec)) eddsaLargeCard

/-- THE TIED CARD OF 'beaconlaw05.EddsaKeeps'. -/
def eddsaKeepsCard : Claim7 := { stood := { row := eddsaKeepsRow, standIns := [], harness := (true, "f0cb9b1ddd8860d4436f32e5ba1f71c6f86887aa1ba52ff5c4ae186056a35b7b"), looks := false }, kinds := [], alts := [], laidByText := true, laidKinds := [.wider, .data], laidTests := true, laidLooks := .later }
def EddsaKeepsCardSaid : Prop := Claim7.holds Tryd.pinned (.plain (OpenSpec.ofChange eddsaKeepsSpec)) eddsaKeepsCard

/-- THE TIED CARD OF 'beaconlaw06.VrfKnown'. -/
def vrfKnownCard : Claim7 := { stood := { row := vrfKnownRow, standIns := [], harness := (true, "f0cb9b1ddd8860d4436f32e5ba1f71c6f86887aa1ba52ff5c4ae186056a35b7b"), looks := false }, kinds := [], alts := [], laidByText := true, laidKinds := [.wider, .data], laidTests := true, laidLooks := .later }
def VrfKnownCardSaid : Prop := Claim7.holds Tryd.pinned (.plain (OpenSpec.ofChange vrfKnownSpec)) vrfKnownCard

/-- THE TIED CARD OF 'beaconlaw06.VrfKeeps'. -/
def vrfKeepsCard : Claim7 := { stood := { row := vrfKeepsRow, standIns := [], harness := (true, "f0cb9b1ddd8860d4436f32e5ba1f71c6f86887aa1ba52ff5c4ae186056a35b7b"), looks := false }, kinds := [], alts := [], laidByText := true, laidKinds := [.wider, .data], laidTests := true, laidLooks := .later }
def VrfKeepsCardSaid : Prop := Claim7.holds Tryd.pinned (.plain (OpenSpec.ofChange vrfKeepsSpec)) vrfKeepsCard

/-- THE TIED CARD OF 'beaconlaw06.VrfAccepts'. -/
def vrfAcceptsCard : Claim7 := { stood := { row := vrfAcceptsRow, standIns := [], harness := (true, "f0cb9b1ddd8860d4436f32e5ba1f71c6f86887aa1ba52ff5c4ae186056a35b7b"), looks := false }, kinds := [], alts := [], laidByText := true, laidKinds := [.wider, .data], laidTests := true, laidLooks := .later }
def VrfAcceptsCardSaid : Prop := Claim7.holds Tryd.pinned (.plain (OpenSpec.ofChange vrfAcceptsSpec)) vrfAcceptsCard

/-- THE SECOND FORM's CARD OF 'beaconlaw05.EddsaSigns'. -/
def eddsaSignsUptoCard : Claim7 := { stood := { row := eddsaSignsUptoRow, standIns := [], harness := (true, "f0cb9b1ddd8860d4436f32e5ba1f71c6f86887aa1ba52ff5c4ae186056a35b7b"), looks := false }, kinds := [], alts := [], laidByText := true, laidKinds := [.wider, .data], laidTests := true, laidLooks := .later }
def EddsaSignsUptoCardSaid : Prop := Claim7.holds Tryd.pinned (.plain (OpenSpec.upto eddsaSignsSpec)) eddsaSignsUptoCard

/-- THE SECOND FORM's CARD OF 'beaconlaw05.EddsaAccepts'. -/
def eddsaAcceptsUptoCard : Claim7 := { stood := { row := eddsaAcceptsUptoRow, standIns := [], harness := (true, "f0cb9b1ddd8860d4436f32e5ba1f71c6f86887aa1ba52ff5c4ae186056a35b7b"), looks := false }, kinds := [], alts := [], laidByText := true, laidKinds := [.wider, .data], laidTests := true, laidLooks := .later }
def EddsaAcceptsUptoCardSaid : Prop := Claim7.holds Tryd.pinned (.plain (OpenSpec.upto eddsaAcceptsSpec)) eddsaAcceptsUptoCard

/-- THE SECOND FORM's CARD OF 'beaconlaw05.EddsaLarge'. -/
def eddsaLargeUptoCard : Claim7 := { stood := { row := eddsaLargeUptoRow, standIns := [], harness := (true, "f0cb9b1ddd8860d4436f32e5ba1f71c6f86887aa1ba52ff5c4ae186056a35b7b"), looks := false }, kinds := [], alts := [], laidByText := true, laidKinds := [.wider, .data], laidTests := true, laidLooks := .later }
def EddsaLargeUptoCardSaid : Prop := Claim7.holds Tryd.pinned (.plain (OpenSpec.upto eddsaLargeSpec)) eddsaLargeUptoCard

/-- THE SECOND FORM's CARD OF 'beaconlaw05.EddsaKeeps'. -/
def eddsaKeepsUptoCard : Claim7 := { stood := { row := eddsaKeepsUptoRow, standIns := [], harness := (true, "f0cb9b1ddd8860d4436f32e5ba1f71c6f86887aa1ba52ff5c4ae186056a35b7b"), looks := false }, kinds := [], alts := [], laidByText := true, laidKinds := [.wider, .data], laidTests := true, laidLooks := .later }
def EddsaKeepsUptoCardSaid : Prop := Claim7.holds Tryd.pinned (.plain (OpenSpec.upto eddsaKeepsSpec)) eddsaKeepsUptoCard

/-- THE SECOND FORM's CARD OF 'beaconlaw06.VrfKnown'. -/
def vrfKnownUptoCard : Claim7 := { stood := { row := vrfKnownUptoRow, standIns := [], harness := (true, "f0cb9b1ddd8860d4436f32e5ba1f71c6f86887aa1ba52ff5c4ae186056a35b7b"), looks := false }, kinds := [], alts := [], laidByText := true, laidKinds := [.wider, .data], laidTests := true, laidLooks := .later }
def VrfKnownUptoCardSaid : Prop := Claim7.holds Tryd.pinned (.plain (OpenSpec.upto vrfKnownSpec)) vrfKnownUptoCard

/-- THE SECOND FORM's CARD OF 'beaconlaw06.VrfKeeps'. -/
def vrfKeepsUptoCard : Claim7 := { stood := { row := vrfKeepsUptoRow, standIns := [], harness := (true, "f0cb9b1ddd8860d4436f32e5ba1f71c6f86887aa1ba52ff5c4ae186056a35b7b"), looks := false }, kinds := [], alts := [], laidByText := true, laidKinds := [.wider, .data], laidTests := true, laidLooks := .later }
def VrfKeepsUptoCardSaid : Prop := Claim7.holds Tryd.pinned (.plain (OpenSpec.upto vrfKeepsSpec)) vrfKeepsUptoCard

/-- THE SECOND FORM's CARD OF 'beaconlaw06.VrfAccepts'. -/
def vrfAcceptsUptoCard : Claim7 := { stood := { row := vrfAcceptsUptoRow, standIns := [], harness := (true, "f0cb9b1ddd8860d4436f32e5ba1f71c6f86887aa1ba52ff5c4ae186056a35b7b"), looks := false }, kinds := [], alts := [], laidByText := true, laidKinds := [.wider, .data], laidTests := true, laidLooks := .later }
def VrfAcceptsUptoCardSaid : Prop := Claim7.holds Tryd.pinned (.plain (OpenSpec.upto vrfAcceptsSpec)) vrfAcceptsUptoCard
end Rows
end Go.Proofs.YthbhmmndggkmaaaDoor

/-
  DERIVED. GIVEN WITH THE SEED: THE CARDS: each row of YtbfndladaldajaaDoorRows.lean that lists a variable, with what it lists TIED to the program's text (the seventh form; the later family's looks); each row that meets fmt, with fmt's text TOLD by the authors' own Lean function (tested against real Go, not proved from fmt's source: count such statements apart). THE CARD IS WHAT COUNTS. Prove the row's statement (the work); the ties are given (YtbfndladaldajaaDoorTie.lean); close each card by the builder's one call (the guide's Derived/Test/ToyasCard.lean, 'card_holds'). Laid BY PROGRAM, IN A SANDBOX (cutbox-door.mjs). By AI agents, Wed Nov 11 2026. No macro, syntax, notation, axiom, sorry.
-/
import Derived.Test.YtbfndladaldajaaDoorRows
import GoSem.ClaimSeven
namespace Go.Proofs.YtbfndladaldajaaDoor
namespace Rows

/-- THE TIED CARD OF 'beaconlaw13.LabelValues'. -/
def labelValuesCard : Claim7 := { stood := { row := labelValuesRow, standIns := [], harness := (true, "9d03e59281d1f0979a335111110ad80f2a67499d9c70ec0af76ddb1404a930e1"), looks := false }, kinds := [], alts := [], laidByText := true, laidKinds := [.data], laidTests := true, laidLooks := .later }
def LabelValuesCardSaid : Prop := Claim7.holds Tryd.pinned (.plain (OpenSpec.ofChange labelValuesSpec)) labelValuesCard

/-- THE TIED CARD OF 'beaconlaw13.LabelAccepts'. -/
def labelAcceptsCard : Claim7 := { stood := { row := labelAcceptsRow, standIns := [], harness := (true, "9d03e59281d1f0979a335111110ad80f2a67499d9c70ec0af76ddb1404a930e1"), looks := false }, kinds := [], alts := [], laidByText := true, laidKinds := [.wider, .data], laidTests := true, laidLooks := .later }
def LabelAcceptsCardSaid : Prop := Claim7.holds Tryd.pinned (.plain (OpenSpec.ofChange labelAcceptsSpec)) labelAcceptsCard

/-- THE SECOND FORM's CARD OF 'beaconlaw13.LabelValues'. -/
def labelValuesUptoCard : Claim7 := { stood := { row := labelValuesUptoRow, standIns := [], harness := (true, "9d03e59281d1f0979a335111110ad80f2a67499d9c70ec0af76ddb1404a930e1"), looks := false }, kinds := [], alts := [], laidByText := true, laidKinds := [.data], laidTests := true, laidLooks := .later }
def LabelValuesUptoCardSaid : Prop := Claim7.holds Tryd.pinned (.plain (OpenSpec.upto labelValuesSpec)) labelValuesUptoCard

/-- THE SECOND FORM's CARD OF 'beaconlaw13.LabelAccepts'. -/
def labelAcceptsUptoCard : Claim7 := { stood := { row := labelAcceptsUptoRow, standIns := [], harness := (true, "9d03e59281d1f0979a335111110ad80f2a67499d9c70ec0af76ddb1404a930e1"), looks := false }, kinds := [], alts := [], laidByText := true, laidKinds := [.wider, .data], laidTests := true, laidLooks := .later }
def LabelAcceptsUptoCardSaid : Prop := Claim7.holds Tryd.pinned (.plain (OpenSpec.upto labelAcceptsSpec)) labelAcceptsUptoCard
end Rows
end Go.Proofs.YtbfndladaldajaaDoor

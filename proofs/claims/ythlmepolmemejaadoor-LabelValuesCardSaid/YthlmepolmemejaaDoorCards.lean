/-
  DERIVED. GIVEN WITH THE SEED: THE CARDS: each row of YthlmepolmemejaaDoorRows.lean that lists a variable, with what it lists TIED to the program's text (the seventh form; the later family's looks); each row that meets fmt, with fmt's text TOLD by the authors' own Lean function (tested against real Go, not proved from fmt's source: count such statements apart). THE CARD IS WHAT COUNTS. Prove the row's statement (the work); the ties are given (YthlmepolmemejaaDoorTie.lean); close each card by the builder's one call (the guide's Derived/Test/ToyasCard.lean, 'card_holds'). Laid BY PROGRAM, IN A SANDBOX (cutbox-door.mjs). By AI agents, Wed Nov 11 2026. No macro, syntax, notation, axiom, sorry.
-/
import Derived.Test.YthlmepolmemejaaDoorRows
import GoSem.ClaimSeven
namespace Go.Proofs.YthlmepolmemejaaDoor
namespace Rows

/-- THE TIED CARD OF 'beaconlaw13.LabelValues'. -/
def labelValuesCard : Claim7 := { stood := { row := labelValuesRow, standIns := [], harness := (true, "0db4020417ddbf6c55ddcf8dd833979eb768a0d3e82004c7ae826bda3d95fdc2"), looks := false }, kinds := [], alts := [], laidByText := true, laidKinds := [.data], laidTests := true, laidLooks := .later }
def LabelValuesCardSaid : Prop := Claim7.holds Tryd.pinned (.plain (OpenSpec.ofChange labelValuesSpec)) labelValuesCard

/-- THE SECOND FORM's CARD OF 'beaconlaw13.LabelValues'. -/
def labelValuesUptoCard : Claim7 := { stood := { row := labelValuesUptoRow, standIns := [], harness := (true, "0db4020417ddbf6c55ddcf8dd833979eb768a0d3e82004c7ae826bda3d95fdc2"), looks := false }, kinds := [], alts := [], laidByText := true, laidKinds := [.data], laidTests := true, laidLooks := .later }
def LabelValuesUptoCardSaid : Prop := Claim7.holds Tryd.pinned (.plain (OpenSpec.upto labelValuesSpec)) labelValuesUptoCard
end Rows
end Go.Proofs.YthlmepolmemejaaDoor

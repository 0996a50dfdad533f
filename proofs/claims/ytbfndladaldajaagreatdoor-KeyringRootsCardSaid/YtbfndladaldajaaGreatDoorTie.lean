/-
  DERIVED. GIVEN WITH THE SEED: THE PROGRAM's TIES (one call each: nine closed facts by the kernel) AND EACH ROW's TIE, after the 31st guide's Derived/Test/Toyas{Tie, Card}.lean. No idea stands in it: it is a product of the set-up. Laid BY PROGRAM, IN A SANDBOX (cutbox-door.mjs). By AI agents, Wed Nov 11 2026. No macro, syntax, notation, axiom, sorry.
-/
import Derived.Test.YtbfndladaldajaaGreatDoorRows
import Derived.LaidByTextLater
import Derived.SevenTiedAt
import Derived.LaidSub
import Derived.LaidOnce
namespace Go.Proofs.YtbfndladaldajaaGreatDoor
open Go
set_option maxRecDepth 100000
theorem seatTie1 : Tryz.prog.laidByTextLater [("beacon/scalar.order", Rows.laid_beacon_scalar_order), ("beacon/sha2.k256", Rows.laid_beacon_sha2_k256), ("beacon/sha2.k512", Rows.laid_beacon_sha2_k512)] [.wider, .data, .data] true :=
  Program.laidByTextLater_by_one 24 8 81 (by kernel_rfl) (by kernel_rfl) (by kernel_rfl) (by kernel_rfl) (by kernel_rfl) (by kernel_rfl) (fun _ _ => by kernel_rfl)
theorem noOwnUnsafe : Tryz.pinned.checked.prog.headLifts.contains "ownunsafe" = false := by kernel_rfl
theorem tie : Tryz.prog.laidByTextLater [("beacon/scalar.order", Rows.laid_beacon_scalar_order), ("beacon/sha2.k256", Rows.laid_beacon_sha2_k256), ("beacon/sha2.k512", Rows.laid_beacon_sha2_k512)] [.wider, .data, .data] true :=
  Program.laidByTextLater.sub seatTie1 ["beacon/scalar.order", "beacon/sha2.k256", "beacon/sha2.k512"] (by kernel_rfl) (by kernel_rfl)
theorem keyringMakes_row_tie : Rows.keyringMakesRow.laidByTextAt .later Tryz.pinned [.wider, .data, .data] true :=
  OpenClaim.laidByTextAt_later rfl rfl tie noOwnUnsafe
theorem keyringCerts_row_tie : Rows.keyringCertsRow.laidByTextAt .later Tryz.pinned [.wider, .data, .data] true :=
  OpenClaim.laidByTextAt_later rfl rfl tie noOwnUnsafe
theorem keyringChains_row_tie : Rows.keyringChainsRow.laidByTextAt .later Tryz.pinned [.wider, .data, .data] true :=
  OpenClaim.laidByTextAt_later rfl rfl tie noOwnUnsafe
theorem keyringLists_row_tie : Rows.keyringListsRow.laidByTextAt .later Tryz.pinned [.wider, .data, .data] true :=
  OpenClaim.laidByTextAt_later rfl rfl tie noOwnUnsafe
theorem keyringKeeps_row_tie : Rows.keyringKeepsRow.laidByTextAt .later Tryz.pinned [.wider, .data, .data] true :=
  OpenClaim.laidByTextAt_later rfl rfl tie noOwnUnsafe
theorem keyringRoots_row_tie : Rows.keyringRootsRow.laidByTextAt .later Tryz.pinned [.wider, .data, .data] true :=
  OpenClaim.laidByTextAt_later rfl rfl tie noOwnUnsafe
theorem tie2 : Tryz.prog.laidByTextLater [("beacon/scalar.order", Rows.laid_beacon_scalar_order), ("beacon/sha2.k512", Rows.laid_beacon_sha2_k512)] [.wider, .data] true :=
  Program.laidByTextLater.sub seatTie1 ["beacon/scalar.order", "beacon/sha2.k512"] (by kernel_rfl) (by kernel_rfl)
theorem labelChecks_row_tie : Rows.labelChecksRow.laidByTextAt .later Tryz.pinned [.wider, .data] true :=
  OpenClaim.laidByTextAt_later rfl rfl tie2 noOwnUnsafe
theorem vrfTurned_row_tie : Rows.vrfTurnedRow.laidByTextAt .later Tryz.pinned [.wider, .data] true :=
  OpenClaim.laidByTextAt_later rfl rfl tie2 noOwnUnsafe
theorem vrfVerifies_row_tie : Rows.vrfVerifiesRow.laidByTextAt .later Tryz.pinned [.wider, .data] true :=
  OpenClaim.laidByTextAt_later rfl rfl tie2 noOwnUnsafe
theorem labelMakes_row_tie : Rows.labelMakesRow.laidByTextAt .later Tryz.pinned [.wider, .data] true :=
  OpenClaim.laidByTextAt_later rfl rfl tie2 noOwnUnsafe
theorem keyringMakesUpto_row_tie : Rows.keyringMakesUptoRow.laidByTextAt .later Tryz.pinned [.wider, .data, .data] true :=
  OpenClaim.laidByTextAt_later rfl rfl tie noOwnUnsafe
theorem labelChecksUpto_row_tie : Rows.labelChecksUptoRow.laidByTextAt .later Tryz.pinned [.wider, .data] true :=
  OpenClaim.laidByTextAt_later rfl rfl tie2 noOwnUnsafe
theorem vrfTurnedUpto_row_tie : Rows.vrfTurnedUptoRow.laidByTextAt .later Tryz.pinned [.wider, .data] true :=
  OpenClaim.laidByTextAt_later rfl rfl tie2 noOwnUnsafe
theorem vrfVerifiesUpto_row_tie : Rows.vrfVerifiesUptoRow.laidByTextAt .later Tryz.pinned [.wider, .data] true :=
  OpenClaim.laidByTextAt_later rfl rfl tie2 noOwnUnsafe
theorem labelMakesUpto_row_tie : Rows.labelMakesUptoRow.laidByTextAt .later Tryz.pinned [.wider, .data] true :=
  OpenClaim.laidByTextAt_later rfl rfl tie2 noOwnUnsafe
theorem keyringCertsUpto_row_tie : Rows.keyringCertsUptoRow.laidByTextAt .later Tryz.pinned [.wider, .data, .data] true :=
  OpenClaim.laidByTextAt_later rfl rfl tie noOwnUnsafe
theorem keyringChainsUpto_row_tie : Rows.keyringChainsUptoRow.laidByTextAt .later Tryz.pinned [.wider, .data, .data] true :=
  OpenClaim.laidByTextAt_later rfl rfl tie noOwnUnsafe
theorem keyringListsUpto_row_tie : Rows.keyringListsUptoRow.laidByTextAt .later Tryz.pinned [.wider, .data, .data] true :=
  OpenClaim.laidByTextAt_later rfl rfl tie noOwnUnsafe
theorem keyringKeepsUpto_row_tie : Rows.keyringKeepsUptoRow.laidByTextAt .later Tryz.pinned [.wider, .data, .data] true :=
  OpenClaim.laidByTextAt_later rfl rfl tie noOwnUnsafe
theorem keyringRootsUpto_row_tie : Rows.keyringRootsUptoRow.laidByTextAt .later Tryz.pinned [.wider, .data, .data] true :=
  OpenClaim.laidByTextAt_later rfl rfl tie noOwnUnsafe
end Go.Proofs.YtbfndladaldajaaGreatDoor

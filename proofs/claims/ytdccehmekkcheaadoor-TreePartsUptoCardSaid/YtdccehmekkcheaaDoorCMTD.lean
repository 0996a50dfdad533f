/- Package tree: Around: facts of the walk. -/
import Derived.Test.YtdccehmekkcheaaDoorCMTC
namespace Go.Proofs.YtdccehmekkcheaaDoor
open Go Go.Eng Go.RowKit
set_option linter.unusedVariables false
set_option linter.unusedSimpArgs false
set_option maxRecDepth 100000
def AllB (l : List B32) : Prop := ∀ x ∈ l, BOk x
def aroV (H : Nd → Nd → B32) (own : Bool) (l : List Nd) (ks : List B32) : List Nd := aroF H own l.length l ks
def witV (H : Nd → Nd → B32) (own : Bool) (l : List Nd) (ks : List B32) : List Nd := witF H own l.length l ks
end Go.Proofs.YtdccehmekkcheaaDoor
/- Package beaconref11: Without: facts of the walk. -/
/- Around, Without: what they answer. Plain. -/
namespace Go.Proofs.YtdccehmekkcheaaDoor
open Go Go.Eng Go.RowKit
set_option linter.unusedVariables false
set_option linter.unusedSimpArgs false
set_option maxRecDepth 100000
theorem AllB.at {l : List B32} (h : AllB l) {i : Nat} (hi : i < l.length) : BOk (l.getD i zB) := h _ (getD_mem hi _)
theorem AllB.filter {l : List B32} (h : AllB l) (p : B32 → Bool) : AllB (l.filter p) := fun x hx => h x (List.mem_filter.1 hx).1
section
variable (H : Nd → Nd → B32)
variable (hH : ∀ a b, BOk (H a b))
include hH
theorem aroV_wit (own : Bool) {l : List Nd} (h : Ap l) (ks : List B32) : aroV H own l ks = witV H own l ks := aro_wit H hH own _ l ks ks h fun _ _ => Iff.rfl
theorem witV_spec (own : Bool) {l : List Nd} (h : Ap l) (h0 : l ≠ []) (ks : List B32) : Wit H own l l ks (witV H own l ks) := wit_spec H hH own h ks _ l (full_self H hH h h0) (Nat.le_refl _)
end
end Go.Proofs.YtdccehmekkcheaaDoor

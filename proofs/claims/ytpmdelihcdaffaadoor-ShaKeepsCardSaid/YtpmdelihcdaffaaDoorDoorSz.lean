/- Rows without a bound: what the form's own reach says of a slice's length. -/
import Derived.Test.YtpmdelihcdaffaaDoorDoorUp
import Derived.SizedLaws
namespace Go.Proofs.YtpmdelihcdaffaaDoor
open Go Go.Eng Go.ChangeShapes Go.WideShapes Go.ChangeAt Go.RowKit
set_option linter.unusedVariables false
set_option maxRecDepth 100000

theorem sarg_reach {H : Type} {P : Program} {ts : List TypeId} {ds : List (DataW H)} {x : SArg} {d : DataW H} {j : Nat} {t e : TypeId} (h : x.ints = [] ∨ ∃ el sp, d = .slice el sp ∧ el.length = x.ints.length) (hz : (DataW.weightsEach P ts ds).all (· ≤ reachBytes) = true)
    (ht : ts[j]? = some t) (hd : ds[j]? = some d) (hu : P.underlying t = some (.slice e)) (hb : P.bytesOf e = 1) : x.ints.length ≤ 140737488351232 := by
  rcases h with h | ⟨el, sp, rfl, h⟩
  · rw [h]; exact Nat.zero_le _
  · have := sized_slice hz ht hd hu
    rw [hb] at this
    unfold reachBytes at this
    omega
theorem bytesU8 : Tryd.prog.bytesOf 5 = 1 := by kernel_rfl
end Go.Proofs.YtpmdelihcdaffaaDoor

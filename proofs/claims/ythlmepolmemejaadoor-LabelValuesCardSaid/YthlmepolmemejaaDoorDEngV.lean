/- Engine: a row told otherwise; a window of values that are numbers, told as numbers. -/
import Derived.Test.YthlmepolmemejaaDoorDEngZ
namespace Go.Eng
open Go Go.RowKit
set_option linter.unusedVariables false
set_option maxRecDepth 100000
section
variable {P : Program} {G : Glob} {F : Nat} {c : Code} {tm : List SV} {mem : List Blk} {Post : Ex → List SV → List Blk → Prop}
theorem Runs.rowW (k : Nat) {own : Bool} {ty : TypeId} {r : Row} (r' : Row) (hb : mem[k]? = some ⟨own, ty, r⟩) (hr' : ∀ β n C, r.is β n C → r'.is β n C) (hi : r'.ids = [])
    (h1 : RunsF P G F c tm (mem.set k ⟨own, ty, r'⟩) Post) : RunsF P G F c tm mem Post := by
  intro N w0 β ac w Q hF hr hQ
  have hk : k < mem.length := by
    rcases Nat.lt_or_ge k mem.length with h' | h'
    · exact h'
    · rw [List.getElem?_eq_none h'] at hb; cases hb
  have hset : ∀ (j : Nat), (mem.set k ⟨own, ty, r'⟩)[j]? = if j = k then some ({ (⟨own, ty, r⟩ : Blk) with row := r' }) else mem[j]? := fun j => by
    rw [List.getElem?_set]
    by_cases e : k = j
    · subst e; simp [hk]
    · rw [if_neg e, if_neg (fun ee => e ee.symm)]
  exact h1 N w0 β ac w Q hF ⟨hr.tmps, hr.defers, hr.mem.row hb hset (fun C hC => hr' _ _ C hC) (by intro j hj; rw [hi] at hj; cases hj), by simpa using hr.ids⟩ hQ
end
end Go.Eng

/- Rows that list the tables and bound what they read: the bound, the witness's world (turned from the kit's worked toy of such a row). -/
import Derived.Test.YtpmdelihcdaffaaDoorDoor
import Derived.Test.YtpmdelihcdaffaaDoorRShaC
import Derived.Deep.DeepHandedRow
namespace Go.Proofs.YtpmdelihcdaffaaDoor
open Go Go.Eng Go.ChangeShapes Go.WideShapes Go.ChangeAt Go.RowKit
set_option linter.unusedVariables false
set_option maxRecDepth 100000

theorem bulk_one {H : Type} (d : DataW H) : 1 ≤ Rows.uptoBulk d := by
  cases d with
  | lit l => cases l <;> simp [Rows.uptoBulk]
  | nil => simp [Rows.uptoBulk]
  | ptr d => simp [Rows.uptoBulk]
  | slice elems spare => simp [Rows.uptoBulk]
  | agg parts => simp [Rows.uptoBulk]
  | iface t d => simp [Rows.uptoBulk]
  | map entries => simp [Rows.uptoBulk]
  | held h => simp [Rows.uptoBulk]
theorem bulk_length {H : Type} (l : List (DataW H)) : l.length ≤ Rows.uptoBulkAll l := by
  induction l with
  | nil => simp [Rows.uptoBulkAll]
  | cons x r ih => have := bulk_one x; simp only [Rows.uptoBulkAll, List.length_cons]; omega
theorem bulk_part {H : Type} {d : DataW H} {l : List (DataW H)} (h : d ∈ l) : Rows.uptoBulk d ≤ Rows.uptoBulkAll l := by
  induction l with
  | nil => cases h
  | cons x r ih =>
    simp only [Rows.uptoBulkAll]
    cases List.mem_cons.1 h with
    | inl e => subst e; omega
    | inr e => have := ih e; omega
theorem bulk_bound {H : Type} {l : List (DataW H)} (hk : Rows.uptoSmall H l = true) : Rows.uptoBulkAll l ≤ 1048576 := of_decide_eq_true hk
/-- What a slice's reading says of its length. -/
theorem sarg_len {H : Type} {enc : TypeId × Value → H} {P : Program} {W : World} {base : Nat} {held : Bool} {t e : TypeId} {kd : IntKind} {x : SArg} {d : DataW H} {ps : List MemPlace}
    (ht : P.underlying t = some (.slice e)) (he : P.underlying e = some (.int kd)) (hc : P.cellsOf e = 1) (hx : x.ok kd W) (hd : DataW.Trod enc P W base (fun _ => true) held t x.val d ps) :
    x.ints = [] ∨ ∃ el sp, d = .slice el sp ∧ el.length = x.ints.length := by
  cases x with
  | none a => exact .inl rfl
  | win ys n c ty l =>
    right
    obtain ⟨fuel, hf⟩ := hd
    rcases ChangeShapes.open_ints ht he hc hf with ⟨hcs, _⟩ | ⟨a, len', cap', zs, hcs, _, hl, hm, hz, hdd, hcell, hwz⟩
    · simp [SArg.val, Value.cells] at hcs
    · simp only [SArg.val, Value.cells, List.cons.injEq, Value.slice.injEq, and_true] at hcs
      simp only [Prod.mk.injEq] at hdd
      simp only [if_true] at hz
      obtain ⟨h1, _⟩ := hx
      refine ⟨_, _, hdd.1, ?_⟩
      show (lits kd (zs.take len')).length = ys.length
      unfold lits
      rw [List.length_map, List.length_take, h1]
      omega
theorem sarg_bound {H : Type} {x : SArg} {d : DataW H} {l : List (DataW H)} (h : x.ints = [] ∨ ∃ el sp, d = .slice el sp ∧ el.length = x.ints.length) (hd : d ∈ l) (hk : Rows.uptoSmall H l = true) : x.ints.length ≤ 1048576 := by
  rcases h with h | ⟨el, sp, rfl, h⟩
  · rw [h]; exact Nat.zero_le _
  · have h1 := bulk_part hd
    have h2 := bulk_bound hk
    have h3 := bulk_length el
    simp only [Rows.uptoBulk] at h1
    omega
theorem sarg_byt {W : World} {x : SArg} (hx : x.ok .u8 W) : ∀ y ∈ x.ints, Byt y := by
  intro y hy
  cases x with
  | none a => cases hy
  | win ys n c ty l =>
    obtain ⟨_, _, _, _, h, _⟩ := hx
    have := h y hy
    simp [Lit.wf, IntKind.min, IntKind.max, IntKind.signed, IntKind.bits] at this
    exact ⟨this.1, by omega⟩
/-- A world for the witness: the settled one, the table (block 0) holding what its initialiser lays. -/
noncomputable def laidWorld (os : Os) : World :=
  { World.holding Tryd.prog os ⟨#[], #[], []⟩ with heap := (World.holding Tryd.prog os ⟨#[], #[], []⟩).heap.modify 0 fun
      | .cells _ t frozen => .cells (k256L.map (Value.int .u32)).toArray t frozen
      | o => o }
end Go.Proofs.YtpmdelihcdaffaaDoor

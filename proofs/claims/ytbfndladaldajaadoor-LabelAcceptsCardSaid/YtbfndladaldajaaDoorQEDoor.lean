/- The two listed variables, as the walks ask for them; a world that holds them as the program's own start lays them; laws over rows of bytes and slices. -/
import Derived.Test.YtbfndladaldajaaDoorQMA
import Derived.Test.YtbfndladaldajaaDoorQMC
import Derived.Test.YtbfndladaldajaaDoorQMF
import Derived.Lib.LaidTab
import Derived.LaidMore
import Derived.LaidOnce
import Derived.Stop.Joined
import Derived.SizedLaws
namespace Go.Proofs.YtbfndladaldajaaDoor
open Go Go.Eng Go.ChangeShapes Go.WideShapes Go.ChangeAt Go.RowKit
set_option linter.unusedVariables false
set_option maxRecDepth 100000
theorem own : ownKnob Tryd.prog.godebug = none := by kernel_rfl
theorem laidOut : laidOutB Tryd.prog = true := by kernel_rfl
abbrev laid2 : List (String × DataW Unit) := [("beacon/scalar.order", Rows.laid_beacon_scalar_order), ("beacon/sha2.k512", Rows.laid_beacon_sha2_k512)]
theorem gord : Tryd.prog.globalNamed "beacon/scalar.order" = some 2 := by kernel_rfl
theorem g512 : Tryd.prog.globalNamed "beacon/sha2.k512" = some 3 := by kernel_rfl
theorem tord : (Tryd.prog.globals[2]?).map (·.type) = some 106 := by kernel_rfl
theorem t512 : (Tryd.prog.globals[3]?).map (·.type) = some 119 := by kernel_rfl
theorem laidOrd : (Rows.laid_beacon_scalar_order : DataW Unit) = Lib.tabData .u64 orderL := by kernel_rfl
theorem laid512 : (Rows.laid_beacon_sha2_k512 : DataW Unit) = Lib.tabData .u64 k512L := by kernel_rfl
theorem cellsOrd : Tryd.prog.cellsOf 106 = 4 := by kernel_rfl
theorem cells512 : Tryd.prog.cellsOf 119 = 80 := by kernel_rfl
theorem cellsU64 : Tryd.prog.cellsOf 30 = 1 := by kernel_rfl
theorem door_met2 (os : Os) (args : Array Value) : laidMetH Tryd.prog laid2 ((World.doorLaid Tryd.prog 400 os).forCall (fun _ _ => 0) ⟨#[], args, []⟩).memory :=
  laidMetH_of_parts3 (fuel := 8) (laidMet_of_run' 8 (by kernel_rfl) (by kernel_rfl)) (by kernel_rfl) (by kernel_rfl)
theorem row_of_tab {W : World} {name : String} {k : IntKind} {zs : List Int} {g : Nat} (hg : Tryd.prog.globalNamed name = some g) (hT : Lib.TabIs Tryd.prog W name k zs) :
    g < W.heap.size ∧ ∃ e fr, W.heap[g]? = some (.cells ((zs.map fun n => Value.int k n)).toArray e fr) := by
  unfold Lib.TabIs World.var? at hT
  rw [hg] at hT
  simp only [Option.bind_some] at hT
  split at hT
  · rename_i cs' elem fr hh
    cases hT
    refine ⟨?_, elem, fr, hh⟩
    rcases Nat.lt_or_ge g W.heap.size with h' | h'
    · exact h'
    · rw [Array.getElem?_eq_none h'] at hh; cases hh
  · cases hT
theorem tab2_of_laid {W : World} (h : laidMet Tryd.prog laid2 W) : Lib.TabIs Tryd.prog W "beacon/sha2.k512" .u64 k512L := by
  unfold laid2 at h
  rw [laid512] at h
  obtain ⟨ps, ⟨_, _, _, _, _, _, _, _, _, _, ⟨g', t', cs, fuel, p, q, hg', ht', hvar, hd, _, _⟩, _⟩, _⟩ := h
  obtain rfl := Option.some.inj (g512.symm.trans hg')
  obtain rfl := Option.some.inj (t512.symm.trans ht')
  unfold Lib.TabIs
  rw [hvar, ← Lib.cells_of_tab Tryd.underlying119 Tryd.underlying30 cellsU64 cells512 hd]
theorem glob_of_laid2 {W : World} (h : laidMet Tryd.prog laid2 W) : GlobOk G2 W := by
  have h2 := tab2_of_laid h
  unfold laid2 at h
  rw [laidOrd] at h
  have h1 := Lib.tabIs_of_head gord tord Tryd.underlying106 Tryd.underlying30 cellsU64 cellsOrd h
  intro g cs hg
  unfold G2 at hg
  split at hg <;> cases hg
  · obtain ⟨q1, ty, fr, q2⟩ := row_of_tab gord h1
    refine ⟨q1, idsAll_ints _ _, ty, fr, ?_⟩
    rw [q2]
    congr 2
  · obtain ⟨q1, ty, fr, q2⟩ := row_of_tab g512 h2
    refine ⟨q1, idsAll_ints _ _, ty, fr, ?_⟩
    rw [q2]
    congr 2
def lam0 : Nat → Eng.Loc := fun _ => ⟨0, 0, 0⟩
end Go.Proofs.YtbfndladaldajaaDoor

/- The listed tables, as the walks ask for them; a world that holds them as the program's own start lays them. -/
import Derived.Test.YtpmdelihcdaffaaDoorOpenArr
import Derived.Test.YtpmdelihcdaffaaDoorShaI
import Derived.Lib.LaidTab
import Derived.LaidMore
import Derived.LaidOnce
import Derived.Stop.Joined
namespace Go.Proofs.YtpmdelihcdaffaaDoor
open Go Go.Eng Go.ChangeShapes Go.WideShapes Go.ChangeAt Go.RowKit
set_option linter.unusedVariables false
set_option maxRecDepth 100000

theorem own : ownKnob Tryd.prog.godebug = none := by kernel_rfl
theorem laidOut : laidOutB Tryd.prog = true := by kernel_rfl
abbrev laid1 : List (String × DataW Unit) := [("beacon/sha2.k256", Rows.laid_beacon_sha2_k256)]
theorem g256 : Tryd.prog.globalNamed "beacon/sha2.k256" = some 0 := by kernel_rfl
theorem t256 : (Tryd.prog.globals[0]?).map (·.type) = some 53 := by kernel_rfl
theorem laid256 : (Rows.laid_beacon_sha2_k256 : DataW Unit) = Lib.tabData .u32 k256L := by kernel_rfl
theorem cells256 : Tryd.prog.cellsOf 53 = 64 := by kernel_rfl
theorem cellsU32 : Tryd.prog.cellsOf 46 = 1 := by kernel_rfl
/-- The door's own heap meets the condition. -/
theorem door_met (os : Os) (args : Array Value) : laidMetH Tryd.prog laid1 ((World.doorLaid Tryd.prog 400 os).forCall (fun _ _ => 0) ⟨#[], args, []⟩).memory :=
  laidMetH_of_parts3 (fuel := 8) (laidMet_of_run' 8 (by kernel_rfl) (by kernel_rfl)) (by kernel_rfl) (by kernel_rfl)
/-- What the condition gives the walks. -/
theorem glob_of_laid {rest : List (String × DataW Unit)} {W : World} (h : laidMet Tryd.prog (("beacon/sha2.k256", Rows.laid_beacon_sha2_k256) :: rest) W) : GlobOk Gs W := by
  rw [laid256] at h
  have hT := Lib.tabIs_of_head g256 t256 Tryd.underlying53 Tryd.underlying46 cellsU32 cells256 h
  unfold Lib.TabIs World.var? at hT
  rw [g256] at hT
  simp only [Option.bind_some] at hT
  intro g cs hg
  unfold Gs at hg
  split at hg <;> cases hg
  split at hT
  · rename_i cs' elem fr hh
    cases hT
    refine ⟨?_, idsAll_ints _ _, elem, fr, ?_⟩
    · rcases Nat.lt_or_ge 0 W.heap.size with h' | h'
      · exact h'
      · rw [Array.getElem?_eq_none h'] at hh; cases hh
    · rw [hh]
      congr 2
  · cases hT
end Go.Proofs.YtpmdelihcdaffaaDoor

/- The two listed variables, as the walks ask for them; a world that holds them as the program's own start lays them; laws over rows of bytes and slices. -/
import Derived.Test.YthlmepolmemejaaGreatDoorLMA
import Derived.Test.YthlmepolmemejaaGreatDoorLMC
import Derived.Test.YthlmepolmemejaaGreatDoorLMF
import Derived.Lib.LaidTab
import Derived.LaidMore
import Derived.LaidOnce
import Derived.Stop.Joined
import Derived.SizedLaws
set_option linter.unusedVariables false
namespace Go.Proofs.YthlmepolmemejaaGreatDoor
open Go Go.Eng Go.ChangeShapes Go.WideShapes Go.ChangeAt Go.RowKit
set_option maxRecDepth 100000
theorem own:ownKnob Tryz.prog.godebug=none:=by kernel_rfl
theorem laidOut:laidOutB Tryz.prog=true:=by kernel_rfl
theorem gord:Tryz.prog.globalNamed "beacon/scalar.order" =some 1:=by kernel_rfl
theorem g512:Tryz.prog.globalNamed "beacon/sha2.k512" =some 0:=by kernel_rfl
theorem tord:(Tryz.prog.globals[1]?).map (·.type)=some 110:=by kernel_rfl
theorem t512:(Tryz.prog.globals[0]?).map (·.type)=some 134:=by kernel_rfl
theorem laidOrd:(Rows.laid_beacon_scalar_order:DataW Unit)=Lib.tabData .u64 orderL:=by kernel_rfl
theorem laid512:(Rows.laid_beacon_sha2_k512:DataW Unit)=Lib.tabData .u64 mY:=by kernel_rfl
theorem cellsOrd:Tryz.prog.cellsOf 110=4:=by kernel_rfl
theorem cells512:Tryz.prog.cellsOf 134=80:=by kernel_rfl
theorem cellsU64:Tryz.prog.cellsOf 24=1:=by kernel_rfl
theorem yC {W:World} {name:String} {k:IntKind} {zs:List Int} {g:Nat} (hg:Tryz.prog.globalNamed name=some g) (hT:Lib.TabIs Tryz.prog W name k zs):
  g<W.heap.size∧∃e fr,W.heap[g]? =some (.cells ((zs.map fun n=>Value.int k n)).toArray e fr):=by
 unfold Lib.TabIs World.var? at hT
 rw[hg] at hT
 simp only[Option.bind_some] at hT
 split at hT
 ·rename_i cs' elem fr hh
  cases hT
  refine⟨?_,elem,fr,hh⟩
  rcases Nat.lt_or_ge g W.heap.size with h' | h'
  ·exact h'
  ·rw[Array.getElem?_eq_none h'] at hh;cases hh
 ·cases hT
end Go.Proofs.YthlmepolmemejaaGreatDoor

/- Keys, certificates and roots among a law's arguments; the three listed variables, as the walks ask for them. -/
import Derived.Test.YthlmepolmemejaaGreatDoorLKeyK
import Derived.Test.YthlmepolmemejaaGreatDoorLOpenFlat
import Derived.Test.YthlmepolmemejaaGreatDoorLMW
import Derived.Test.YthlmepolmemejaaGreatDoorLEDoor
set_option linter.unusedVariables false
namespace Go.Proofs.YthlmepolmemejaaGreatDoor
open Go Go.Eng Go.ChangeShapes Go.WideShapes Go.ChangeAt Go.RowKit
set_option maxRecDepth 100000
theorem wfK_rep {k:IntKind}:∀{n:Nat} {xs:List Int},xs.length=n→WfK (List.replicate n k) xs→∀z∈xs,(Lit.int k z).wf=true
 | 0,[],_,_,z,hz=>by cases hz
 | n+1,x::xs,hl,h,z,hz=>by
  rcases List.mem_cons.1 hz with rfl | hz
  ·exact h.1
  ·exact wfK_rep (by simpa using hl) h.2 z hz
theorem row32 {zs:List Int} (hl:zs.length=32) (h:WfK (List.replicate 32 .u8) zs):∃b:B32,zs=b.to∧BOk b:=b32_of_list zs hl (wfK_rep hl h)
theorem u64_wf {n:Int} (h:(Lit.int .u64 n).wf=true):U64 n:=by
 simp[Lit.wf,IntKind.min,IntKind.max,IntKind.signed,IntKind.bits] at h
 exact⟨h.1,by omega⟩
section
variable {H:Type} {enc:TypeId × Value→H} {w:World} {base:Nat} {spare:Nat→Bool} {held:Bool} {r:Reach} {b0:Nat} {v:Value} {d:DataW H} {ps:List MemPlace}
end
abbrev laid3:List (String × DataW Unit):=[("beacon/scalar.order",Rows.laid_beacon_scalar_order),("beacon/sha2.k256",Rows.laid_beacon_sha2_k256),("beacon/sha2.k512",Rows.laid_beacon_sha2_k512)]
theorem g256:Tryz.prog.globalNamed "beacon/sha2.k256" =some 2:=by kernel_rfl
theorem t256:(Tryz.prog.globals[2]?).map (·.type)=some 94:=by kernel_rfl
theorem laid256:(Rows.laid_beacon_sha2_k256:DataW Unit)=Lib.tabData .u32 S3.kH:=by kernel_rfl
theorem cells256:Tryz.prog.cellsOf 94=64:=by kernel_rfl
theorem cellsU32:Tryz.prog.cellsOf 92=1:=by kernel_rfl
theorem door_met3 (os:Os) (args:Array Value):laidMetH Tryz.prog laid3 ((World.doorLaid Tryz.prog 400 os).forCall (fun _ _=>0) ⟨#[],args,[]⟩).memory:=
 laidMetH_of_parts3 (fuel:=8) (laidMet_of_run' 8 (by kernel_rfl) (by kernel_rfl)) (by kernel_rfl) (by kernel_rfl)
theorem tabs_of_laid {W:World} (h:laidMet Tryz.prog laid3 W):Lib.TabIs Tryz.prog W "beacon/sha2.k256" .u32 S3.kH∧Lib.TabIs Tryz.prog W "beacon/sha2.k512" .u64 mY:=by
 unfold laid3 at h
 rw[laid512,laid256] at h
 obtain⟨ps,⟨_,_,_,_,_,_,_,_,_,_,⟨g1,t1,cs1,f1,p1,q1,hg1,ht1,hv1,hd1,⟨g2,t2,cs2,f2,p2,q2,hg2,ht2,hv2,hd2,_,_⟩,_⟩,_⟩,_⟩:=h
 obtain rfl:=Option.some.inj (g256.symm.trans hg1)
 obtain rfl:=Option.some.inj (t256.symm.trans ht1)
 obtain rfl:=Option.some.inj (g512.symm.trans hg2)
 obtain rfl:=Option.some.inj (t512.symm.trans ht2)
 constructor
 ·unfold Lib.TabIs
  rw[hv1,←Lib.cells_of_tab Tryz.underlying94 Tryz.underlying92 cellsU32 cells256 hd1]
 ·unfold Lib.TabIs
  rw[hv2,←Lib.cells_of_tab Tryz.underlying134 Tryz.underlying24 cellsU64 cells512 hd2]
theorem glob_of_laid3 {W:World} (h:laidMet Tryz.prog laid3 W):GlobOk G3 W:=by
 obtain⟨h3,h2⟩:=tabs_of_laid h
 unfold laid3 at h
 rw[laidOrd] at h
 have h1:=Lib.tabIs_of_head gord tord Tryz.underlying110 Tryz.underlying24 cellsU64 cellsOrd h
 intro g cs hg
 unfold G3 at hg
 split at hg<;>cases hg
 ·obtain⟨q1,ty,fr,q2⟩:=yC gord h1
  refine⟨q1,iy _ _,ty,fr,?_⟩
  rw[q2]
  congr 2
 ·obtain⟨q1,ty,fr,q2⟩:=yC g512 h2
  refine⟨q1,iy _ _,ty,fr,?_⟩
  rw[q2]
  congr 2
 ·obtain⟨q1,ty,fr,q2⟩:=yC g256 h3
  refine⟨q1,iy _ _,ty,fr,?_⟩
  rw[q2]
  congr 2
end Go.Proofs.YthlmepolmemejaaGreatDoor

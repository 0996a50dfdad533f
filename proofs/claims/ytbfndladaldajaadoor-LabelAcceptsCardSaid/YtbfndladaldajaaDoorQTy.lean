/- The engine's table of types, by program (gen_ty.py) out of the seat's translation, and that it agrees with the program. -/
import Derived.Test.YtbfndladaldajaaDoorChecked
import Derived.Test.YtbfndladaldajaaDoorQEngY
namespace Go.Proofs.YtbfndladaldajaaDoor
open Go.Eng
set_option maxRecDepth 100000
def ti2 : TI := ⟨1, [(.v (.int .i64 0))], .plain (.int .i64), false⟩
theorem ti2_ok : TI.ok Tryd.prog 2 ti2 := ⟨by kernel_rfl, by kernel_rfl, by kernel_rfl, by kernel_rfl, (fun _ => rfl), ⟨Tryd.underlying2, trivial⟩, (fun h => by cases h)⟩
def ti3 : TI := ⟨1, [(.v (.int .i64 0))], .plain (.int .i64), false⟩
theorem ti3_ok : TI.ok Tryd.prog 3 ti3 := ⟨by kernel_rfl, by kernel_rfl, by kernel_rfl, by kernel_rfl, (fun _ => rfl), ⟨Tryd.underlying3, trivial⟩, (fun h => by cases h)⟩
def ti4 : TI := ⟨1, [(.v (.bool false))], .plain (.bool), false⟩
theorem ti4_ok : TI.ok Tryd.prog 4 ti4 := ⟨by kernel_rfl, by kernel_rfl, by kernel_rfl, by kernel_rfl, (fun _ => rfl), ⟨Tryd.underlying4, trivial⟩, (fun h => by cases h)⟩
def ti5 : TI := ⟨1, [(.v (.int .u8 0))], .plain (.int .u8), false⟩
theorem ti5_ok : TI.ok Tryd.prog 5 ti5 := ⟨by kernel_rfl, by kernel_rfl, by kernel_rfl, by kernel_rfl, (fun _ => rfl), ⟨Tryd.underlying5, trivial⟩, (fun h => by cases h)⟩
def ti9 : TI := ⟨1, [(.v (.string ⟨#[]⟩))], .plain (.string), false⟩
theorem ti9_ok : TI.ok Tryd.prog 9 ti9 := ⟨by kernel_rfl, by kernel_rfl, by kernel_rfl, by kernel_rfl, (fun _ => rfl), ⟨Tryd.underlying9, trivial⟩, (fun h => by cases h)⟩
def ti12 : TI := ⟨1, [(.v (.int .u64 0))], .plain (.int .u64), false⟩
theorem ti12_ok : TI.ok Tryd.prog 12 ti12 := ⟨by kernel_rfl, by kernel_rfl, by kernel_rfl, by kernel_rfl, (fun _ => rfl), ⟨Tryd.underlying12, trivial⟩, (fun h => by cases h)⟩
def ti21 : TI := ⟨1, [(.v (.int .i32 0))], .plain (.int .i32), false⟩
theorem ti21_ok : TI.ok Tryd.prog 21 ti21 := ⟨by kernel_rfl, by kernel_rfl, by kernel_rfl, by kernel_rfl, (fun _ => rfl), ⟨Tryd.underlying21, trivial⟩, (fun h => by cases h)⟩
def ti22 : TI := ⟨1, [(.v (.slice none 0 0))], .plain (.slice 24), false⟩
theorem ti22_ok : TI.ok Tryd.prog 22 ti22 := ⟨by kernel_rfl, by kernel_rfl, by kernel_rfl, by kernel_rfl, (fun _ => rfl), ⟨Tryd.underlying22, trivial⟩, (fun h => by cases h)⟩
def ti24 : TI := ⟨32, List.replicate 32 (.v (.int .u8 0)), .arr 32 5, true⟩
theorem ti24_ok : TI.ok Tryd.prog 24 ti24 := ⟨by kernel_rfl, by kernel_rfl, by kernel_rfl, by kernel_rfl, (fun h => by cases h), Tryd.underlying24, (fun _ => Tryd.eqGuardType24)⟩
def ti25 : TI := ⟨1, [(.v (.int .i64 0))], .plain (.int .i64), false⟩
theorem ti25_ok : TI.ok Tryd.prog 25 ti25 := ⟨by kernel_rfl, by kernel_rfl, by kernel_rfl, by kernel_rfl, (fun _ => rfl), ⟨Tryd.underlying25, trivial⟩, (fun h => by cases h)⟩
def ti30 : TI := ⟨1, [(.v (.int .u64 0))], .plain (.int .u64), false⟩
theorem ti30_ok : TI.ok Tryd.prog 30 ti30 := ⟨by kernel_rfl, by kernel_rfl, by kernel_rfl, by kernel_rfl, (fun _ => rfl), ⟨Tryd.underlying30, trivial⟩, (fun h => by cases h)⟩
def ti31 : TI := ⟨80, List.replicate 80 (.v (.int .u8 0)), .arr 80 5, true⟩
theorem ti31_ok : TI.ok Tryd.prog 31 ti31 := ⟨by kernel_rfl, by kernel_rfl, by kernel_rfl, by kernel_rfl, (fun h => by cases h), Tryd.underlying31, (fun _ => Tryd.eqGuardType31)⟩
def ti37 : TI := ⟨1, [(.v (.slice none 0 0))], .plain (.slice 5), false⟩
theorem ti37_ok : TI.ok Tryd.prog 37 ti37 := ⟨by kernel_rfl, by kernel_rfl, by kernel_rfl, by kernel_rfl, (fun _ => rfl), ⟨Tryd.underlying37, trivial⟩, (fun h => by cases h)⟩
def ti43 : TI := ⟨1, [(.v (.slice none 0 0))], .plain (.slice 37), false⟩
theorem ti43_ok : TI.ok Tryd.prog 43 ti43 := ⟨by kernel_rfl, by kernel_rfl, by kernel_rfl, by kernel_rfl, (fun _ => rfl), ⟨Tryd.underlying43, trivial⟩, (fun h => by cases h)⟩
def ti46 : TI := ⟨64, List.replicate 64 (.v (.int .u8 0)), .arr 64 5, true⟩
theorem ti46_ok : TI.ok Tryd.prog 46 ti46 := ⟨by kernel_rfl, by kernel_rfl, by kernel_rfl, by kernel_rfl, (fun h => by cases h), Tryd.underlying46, (fun _ => Tryd.eqGuardType46)⟩
def ti55 : TI := ⟨1, [(.v (.pointer none))], .plain (.pointer 99), false⟩
theorem ti55_ok : TI.ok Tryd.prog 55 ti55 := ⟨by kernel_rfl, by kernel_rfl, by kernel_rfl, by kernel_rfl, (fun _ => rfl), ⟨Tryd.underlying55, trivial⟩, (fun h => by cases h)⟩
def ti59 : TI := ⟨1, [(.v (.int .u32 0))], .plain (.int .u32), false⟩
theorem ti59_ok : TI.ok Tryd.prog 59 ti59 := ⟨by kernel_rfl, by kernel_rfl, by kernel_rfl, by kernel_rfl, (fun _ => rfl), ⟨Tryd.underlying59, trivial⟩, (fun h => by cases h)⟩
def ti60 : TI := ⟨8, List.replicate 8 (.v (.int .u32 0)), .arr 8 59, true⟩
theorem ti60_ok : TI.ok Tryd.prog 60 ti60 := ⟨by kernel_rfl, by kernel_rfl, by kernel_rfl, by kernel_rfl, (fun h => by cases h), Tryd.underlying60, (fun _ => Tryd.eqGuardType60)⟩
def ti61 : TI := ⟨64, List.replicate 64 (.v (.int .u32 0)), .arr 64 59, true⟩
theorem ti61_ok : TI.ok Tryd.prog 61 ti61 := ⟨by kernel_rfl, by kernel_rfl, by kernel_rfl, by kernel_rfl, (fun h => by cases h), Tryd.underlying61, (fun _ => Tryd.eqGuardType61)⟩
def ti64 : TI := ⟨1, [(.v (.int .u64 0))], .plain (.int .u64), false⟩
theorem ti64_ok : TI.ok Tryd.prog 64 ti64 := ⟨by kernel_rfl, by kernel_rfl, by kernel_rfl, by kernel_rfl, (fun _ => rfl), ⟨Tryd.underlying64, trivial⟩, (fun h => by cases h)⟩
def ti68 : TI := ⟨96, List.replicate 96 (.v (.int .u8 0)), .str [(0, 24), (32, 24), (64, 24)], false⟩
theorem ti68_ok : TI.ok Tryd.prog 68 ti68 := ⟨by kernel_rfl, by kernel_rfl, by kernel_rfl, by kernel_rfl, (fun h => by cases h), ⟨_, Tryd.underlying68, rfl⟩, (fun h => by cases h)⟩
def ti69 : TI := ⟨96, List.replicate 96 (.v (.int .u8 0)), .str [(0, 24), (32, 24), (64, 24)], false⟩
theorem ti69_ok : TI.ok Tryd.prog 69 ti69 := ⟨by kernel_rfl, by kernel_rfl, by kernel_rfl, by kernel_rfl, (fun h => by cases h), ⟨_, Tryd.underlying69, rfl⟩, (fun h => by cases h)⟩
def ti71 : TI := ⟨5, List.replicate 5 (.v (.int .u64 0)), .arr 5 30, true⟩
theorem ti71_ok : TI.ok Tryd.prog 71 ti71 := ⟨by kernel_rfl, by kernel_rfl, by kernel_rfl, by kernel_rfl, (fun h => by cases h), Tryd.underlying71, (fun _ => Tryd.eqGuardType71)⟩
def ti72 : TI := ⟨5, List.replicate 5 (.v (.int .u64 0)), .arr 5 30, true⟩
theorem ti72_ok : TI.ok Tryd.prog 72 ti72 := ⟨by kernel_rfl, by kernel_rfl, by kernel_rfl, by kernel_rfl, (fun h => by cases h), Tryd.underlying72, (fun _ => Tryd.eqGuardType72)⟩
def ti73 : TI := ⟨20, List.replicate 20 (.v (.int .u64 0)), .str [(0, 72), (5, 72), (10, 72), (15, 72)], false⟩
theorem ti73_ok : TI.ok Tryd.prog 73 ti73 := ⟨by kernel_rfl, by kernel_rfl, by kernel_rfl, by kernel_rfl, (fun h => by cases h), ⟨_, Tryd.underlying73, rfl⟩, (fun h => by cases h)⟩
def ti74 : TI := ⟨20, List.replicate 20 (.v (.int .u64 0)), .str [(0, 72), (5, 72), (10, 72), (15, 72)], false⟩
theorem ti74_ok : TI.ok Tryd.prog 74 ti74 := ⟨by kernel_rfl, by kernel_rfl, by kernel_rfl, by kernel_rfl, (fun h => by cases h), ⟨_, Tryd.underlying74, rfl⟩, (fun h => by cases h)⟩
def ti88 : TI := ⟨4, [(.v (.int .u64 0)), (.v (.int .u64 0)), (.v (.int .u64 0)), (.v (.int .u64 0))], .arr 4 30, true⟩
theorem ti88_ok : TI.ok Tryd.prog 88 ti88 := ⟨by kernel_rfl, by kernel_rfl, by kernel_rfl, by kernel_rfl, (fun h => by cases h), Tryd.underlying88, (fun _ => Tryd.eqGuardType88)⟩
def ti89 : TI := ⟨4, [(.v (.int .u64 0)), (.v (.int .u64 0)), (.v (.int .u64 0)), (.v (.int .u64 0))], .arr 4 30, true⟩
theorem ti89_ok : TI.ok Tryd.prog 89 ti89 := ⟨by kernel_rfl, by kernel_rfl, by kernel_rfl, by kernel_rfl, (fun h => by cases h), Tryd.underlying89, (fun _ => Tryd.eqGuardType89)⟩
def ti90 : TI := ⟨16, List.replicate 16 (.v (.int .u64 0)), .str [(0, 89), (4, 89), (8, 89), (12, 89)], false⟩
theorem ti90_ok : TI.ok Tryd.prog 90 ti90 := ⟨by kernel_rfl, by kernel_rfl, by kernel_rfl, by kernel_rfl, (fun h => by cases h), ⟨_, Tryd.underlying90, rfl⟩, (fun h => by cases h)⟩
def ti91 : TI := ⟨16, List.replicate 16 (.v (.int .u64 0)), .str [(0, 89), (4, 89), (8, 89), (12, 89)], false⟩
theorem ti91_ok : TI.ok Tryd.prog 91 ti91 := ⟨by kernel_rfl, by kernel_rfl, by kernel_rfl, by kernel_rfl, (fun h => by cases h), ⟨_, Tryd.underlying91, rfl⟩, (fun h => by cases h)⟩
def ti96 : TI := ⟨8, List.replicate 8 (.v (.int .u32 0)), .arr 8 59, true⟩
theorem ti96_ok : TI.ok Tryd.prog 96 ti96 := ⟨by kernel_rfl, by kernel_rfl, by kernel_rfl, by kernel_rfl, (fun h => by cases h), Tryd.underlying96, (fun _ => Tryd.eqGuardType96)⟩
def ti98 : TI := ⟨73, [(.v (.int .u32 0)), (.v (.int .u32 0)), (.v (.int .u32 0)), (.v (.int .u32 0)), (.v (.int .u32 0)), (.v (.int .u32 0)), (.v (.int .u32 0)), (.v (.int .u32 0)), (.v (.int .u8 0)), (.v (.int .u8 0)), (.v (.int .u8 0)), (.v (.int .u8 0)), (.v (.int .u8 0)), (.v (.int .u8 0)), (.v (.int .u8 0)), (.v (.int .u8 0)), (.v (.int .u8 0)), (.v (.int .u8 0)), (.v (.int .u8 0)), (.v (.int .u8 0)), (.v (.int .u8 0)), (.v (.int .u8 0)), (.v (.int .u8 0)), (.v (.int .u8 0)), (.v (.int .u8 0)), (.v (.int .u8 0)), (.v (.int .u8 0)), (.v (.int .u8 0)), (.v (.int .u8 0)), (.v (.int .u8 0)), (.v (.int .u8 0)), (.v (.int .u8 0)), (.v (.int .u8 0)), (.v (.int .u8 0)), (.v (.int .u8 0)), (.v (.int .u8 0)), (.v (.int .u8 0)), (.v (.int .u8 0)), (.v (.int .u8 0)), (.v (.int .u8 0)), (.v (.int .u8 0)), (.v (.int .u8 0)), (.v (.int .u8 0)), (.v (.int .u8 0)), (.v (.int .u8 0)), (.v (.int .u8 0)), (.v (.int .u8 0)), (.v (.int .u8 0)), (.v (.int .u8 0)), (.v (.int .u8 0)), (.v (.int .u8 0)), (.v (.int .u8 0)), (.v (.int .u8 0)), (.v (.int .u8 0)), (.v (.int .u8 0)), (.v (.int .u8 0)), (.v (.int .u8 0)), (.v (.int .u8 0)), (.v (.int .u8 0)), (.v (.int .u8 0)), (.v (.int .u8 0)), (.v (.int .u8 0)), (.v (.int .u8 0)), (.v (.int .u8 0)), (.v (.int .u8 0)), (.v (.int .u8 0)), (.v (.int .u8 0)), (.v (.int .u8 0)), (.v (.int .u8 0)), (.v (.int .u8 0)), (.v (.int .u8 0)), (.v (.int .u8 0)), (.v (.int .u64 0))], .str [(0, 96), (8, 46), (72, 30)], false⟩
theorem ti98_ok : TI.ok Tryd.prog 98 ti98 := ⟨by kernel_rfl, by kernel_rfl, by kernel_rfl, by kernel_rfl, (fun h => by cases h), ⟨_, Tryd.underlying98, rfl⟩, (fun h => by cases h)⟩
def ti99 : TI := ⟨73, [(.v (.int .u32 0)), (.v (.int .u32 0)), (.v (.int .u32 0)), (.v (.int .u32 0)), (.v (.int .u32 0)), (.v (.int .u32 0)), (.v (.int .u32 0)), (.v (.int .u32 0)), (.v (.int .u8 0)), (.v (.int .u8 0)), (.v (.int .u8 0)), (.v (.int .u8 0)), (.v (.int .u8 0)), (.v (.int .u8 0)), (.v (.int .u8 0)), (.v (.int .u8 0)), (.v (.int .u8 0)), (.v (.int .u8 0)), (.v (.int .u8 0)), (.v (.int .u8 0)), (.v (.int .u8 0)), (.v (.int .u8 0)), (.v (.int .u8 0)), (.v (.int .u8 0)), (.v (.int .u8 0)), (.v (.int .u8 0)), (.v (.int .u8 0)), (.v (.int .u8 0)), (.v (.int .u8 0)), (.v (.int .u8 0)), (.v (.int .u8 0)), (.v (.int .u8 0)), (.v (.int .u8 0)), (.v (.int .u8 0)), (.v (.int .u8 0)), (.v (.int .u8 0)), (.v (.int .u8 0)), (.v (.int .u8 0)), (.v (.int .u8 0)), (.v (.int .u8 0)), (.v (.int .u8 0)), (.v (.int .u8 0)), (.v (.int .u8 0)), (.v (.int .u8 0)), (.v (.int .u8 0)), (.v (.int .u8 0)), (.v (.int .u8 0)), (.v (.int .u8 0)), (.v (.int .u8 0)), (.v (.int .u8 0)), (.v (.int .u8 0)), (.v (.int .u8 0)), (.v (.int .u8 0)), (.v (.int .u8 0)), (.v (.int .u8 0)), (.v (.int .u8 0)), (.v (.int .u8 0)), (.v (.int .u8 0)), (.v (.int .u8 0)), (.v (.int .u8 0)), (.v (.int .u8 0)), (.v (.int .u8 0)), (.v (.int .u8 0)), (.v (.int .u8 0)), (.v (.int .u8 0)), (.v (.int .u8 0)), (.v (.int .u8 0)), (.v (.int .u8 0)), (.v (.int .u8 0)), (.v (.int .u8 0)), (.v (.int .u8 0)), (.v (.int .u8 0)), (.v (.int .u64 0))], .str [(0, 96), (8, 46), (72, 30)], false⟩
theorem ti99_ok : TI.ok Tryd.prog 99 ti99 := ⟨by kernel_rfl, by kernel_rfl, by kernel_rfl, by kernel_rfl, (fun h => by cases h), ⟨_, Tryd.underlying99, rfl⟩, (fun h => by cases h)⟩
def ti103 : TI := ⟨320, List.replicate 320 (.v (.int .u64 0)), .arr 16 74, true⟩
theorem ti103_ok : TI.ok Tryd.prog 103 ti103 := ⟨by kernel_rfl, by kernel_rfl, by kernel_rfl, by kernel_rfl, (fun h => by cases h), Tryd.underlying103, (fun _ => Tryd.eqGuardType103)⟩
def ti104 : TI := ⟨2, [(.v (.int .u8 0)), (.v (.int .u8 0))], .arr 2 5, true⟩
theorem ti104_ok : TI.ok Tryd.prog 104 ti104 := ⟨by kernel_rfl, by kernel_rfl, by kernel_rfl, by kernel_rfl, (fun h => by cases h), Tryd.underlying104, (fun _ => Tryd.eqGuardType104)⟩
def ti106 : TI := ⟨4, [(.v (.int .u64 0)), (.v (.int .u64 0)), (.v (.int .u64 0)), (.v (.int .u64 0))], .arr 4 30, true⟩
theorem ti106_ok : TI.ok Tryd.prog 106 ti106 := ⟨by kernel_rfl, by kernel_rfl, by kernel_rfl, by kernel_rfl, (fun h => by cases h), Tryd.underlying106, (fun _ => Tryd.eqGuardType106)⟩
def ti108 : TI := ⟨8, List.replicate 8 (.v (.int .u64 0)), .arr 8 30, true⟩
theorem ti108_ok : TI.ok Tryd.prog 108 ti108 := ⟨by kernel_rfl, by kernel_rfl, by kernel_rfl, by kernel_rfl, (fun h => by cases h), Tryd.underlying108, (fun _ => Tryd.eqGuardType108)⟩
def ti119 : TI := ⟨80, List.replicate 80 (.v (.int .u64 0)), .arr 80 30, true⟩
theorem ti119_ok : TI.ok Tryd.prog 119 ti119 := ⟨by kernel_rfl, by kernel_rfl, by kernel_rfl, by kernel_rfl, (fun h => by cases h), Tryd.underlying119, (fun _ => Tryd.eqGuardType119)⟩
def ti132 : TI := ⟨1, [(.v (.pointer none))], .plain (.pointer 96), false⟩
theorem ti132_ok : TI.ok Tryd.prog 132 ti132 := ⟨by kernel_rfl, by kernel_rfl, by kernel_rfl, by kernel_rfl, (fun _ => rfl), ⟨Tryd.underlying132, trivial⟩, (fun h => by cases h)⟩
def ti135 : TI := ⟨8, List.replicate 8 (.v (.int .u64 0)), .arr 8 30, true⟩
theorem ti135_ok : TI.ok Tryd.prog 135 ti135 := ⟨by kernel_rfl, by kernel_rfl, by kernel_rfl, by kernel_rfl, (fun h => by cases h), Tryd.underlying135, (fun _ => Tryd.eqGuardType135)⟩
def ti139 : TI := ⟨2, [(.v (.int .u64 0)), (.v (.int .u64 0))], .str [(0, 30), (1, 30)], false⟩
theorem ti139_ok : TI.ok Tryd.prog 139 ti139 := ⟨by kernel_rfl, by kernel_rfl, by kernel_rfl, by kernel_rfl, (fun h => by cases h), ⟨_, Tryd.underlying139, rfl⟩, (fun h => by cases h)⟩
def ti140 : TI := ⟨2, [(.v (.int .u64 0)), (.v (.int .u64 0))], .str [(0, 30), (1, 30)], false⟩
theorem ti140_ok : TI.ok Tryd.prog 140 ti140 := ⟨by kernel_rfl, by kernel_rfl, by kernel_rfl, by kernel_rfl, (fun h => by cases h), ⟨_, Tryd.underlying140, rfl⟩, (fun h => by cases h)⟩
def ti142 : TI := ⟨10, List.replicate 10 (.v (.int .u64 0)), .arr 5 140, true⟩
theorem ti142_ok : TI.ok Tryd.prog 142 ti142 := ⟨by kernel_rfl, by kernel_rfl, by kernel_rfl, by kernel_rfl, (fun h => by cases h), Tryd.underlying142, (fun _ => Tryd.eqGuardType142)⟩
def ti144 : TI := ⟨1, [(.v (.slice none 0 0))], .plain (.slice 30), false⟩
theorem ti144_ok : TI.ok Tryd.prog 144 ti144 := ⟨by kernel_rfl, by kernel_rfl, by kernel_rfl, by kernel_rfl, (fun _ => rfl), ⟨Tryd.underlying144, trivial⟩, (fun h => by cases h)⟩
def ti151 : TI := ⟨1, [(.v (.pointer none))], .plain (.pointer 135), false⟩
theorem ti151_ok : TI.ok Tryd.prog 151 ti151 := ⟨by kernel_rfl, by kernel_rfl, by kernel_rfl, by kernel_rfl, (fun _ => rfl), ⟨Tryd.underlying151, trivial⟩, (fun h => by cases h)⟩
def ti163 : TI := ⟨1, [(.v (.pointer none))], .plain (.pointer 5), false⟩
theorem ti163_ok : TI.ok Tryd.prog 163 ti163 := ⟨by kernel_rfl, by kernel_rfl, by kernel_rfl, by kernel_rfl, (fun _ => rfl), ⟨Tryd.underlying163, trivial⟩, (fun h => by cases h)⟩
def tys : Ty := [(2, ti2), (3, ti3), (4, ti4), (5, ti5), (9, ti9), (12, ti12), (21, ti21), (22, ti22), (24, ti24), (25, ti25), (30, ti30), (31, ti31), (37, ti37), (43, ti43), (46, ti46), (55, ti55), (59, ti59), (60, ti60), (61, ti61), (64, ti64), (68, ti68), (69, ti69), (71, ti71), (72, ti72), (73, ti73), (74, ti74), (88, ti88), (89, ti89), (90, ti90), (91, ti91), (96, ti96), (98, ti98), (99, ti99), (103, ti103), (104, ti104), (106, ti106), (108, ti108), (119, ti119), (132, ti132), (135, ti135), (139, ti139), (140, ti140), (142, ti142), (144, ti144), (151, ti151), (163, ti163)]
theorem tys_ok : tys.ok Tryd.prog := ⟨ti2_ok, ⟨ti3_ok, ⟨ti4_ok, ⟨ti5_ok, ⟨ti9_ok, ⟨ti12_ok, ⟨ti21_ok, ⟨ti22_ok, ⟨ti24_ok, ⟨ti25_ok, ⟨ti30_ok, ⟨ti31_ok, ⟨ti37_ok, ⟨ti43_ok, ⟨ti46_ok, ⟨ti55_ok, ⟨ti59_ok, ⟨ti60_ok, ⟨ti61_ok, ⟨ti64_ok, ⟨ti68_ok, ⟨ti69_ok, ⟨ti71_ok, ⟨ti72_ok, ⟨ti73_ok, ⟨ti74_ok, ⟨ti88_ok, ⟨ti89_ok, ⟨ti90_ok, ⟨ti91_ok, ⟨ti96_ok, ⟨ti98_ok, ⟨ti99_ok, ⟨ti103_ok, ⟨ti104_ok, ⟨ti106_ok, ⟨ti108_ok, ⟨ti119_ok, ⟨ti132_ok, ⟨ti135_ok, ⟨ti139_ok, ⟨ti140_ok, ⟨ti142_ok, ⟨ti144_ok, ⟨ti151_ok, ⟨ti163_ok, trivial⟩⟩⟩⟩⟩⟩⟩⟩⟩⟩⟩⟩⟩⟩⟩⟩⟩⟩⟩⟩⟩⟩⟩⟩⟩⟩⟩⟩⟩⟩⟩⟩⟩⟩⟩⟩⟩⟩⟩⟩⟩⟩⟩⟩⟩⟩
theorem mixed : Tryd.prog.follows .mixedOrders = true := by kernel_rfl
end Go.Proofs.YtbfndladaldajaaDoor

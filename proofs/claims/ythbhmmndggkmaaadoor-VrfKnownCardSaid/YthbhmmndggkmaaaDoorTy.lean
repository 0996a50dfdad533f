/- The engine's table of types, by program (gen_ty.py) out of the seat's translation, and that it agrees with the program. -/
import Derived.Test.YthbhmmndggkmaaaDoorChecked
import Derived.Test.YthbhmmndggkmaaaDoorEngY
namespace Go.Proofs.YthbhmmndggkmaaaDoor
open Go.Eng
set_option maxRecDepth 100000

def ti2 : TI := ⟨1, [(.v (.int .i64 0))], .plain (.int .i64), false⟩
theorem ti2_ok : TI.ok Tryd.prog 2 ti2 := ⟨by kernel_rfl, by kernel_rfl, by kernel_rfl, by kernel_rfl, (fun _ => rfl), ⟨Tryd.underlying2, trivial⟩, (fun h => by cases h)⟩
def ti3 : TI := ⟨1, [(.v (.int .i64 0))], .plain (.int .i64), false⟩
theorem ti3_ok : TI.ok Tryd.prog 3 ti3 := ⟨by kernel_rfl, by kernel_rfl, by kernel_rfl, by kernel_rfl, (fun _ => rfl), ⟨Tryd.underlying3, trivial⟩, (fun h => by cases h)⟩
def ti4 : TI := ⟨1, [(.v (.bool false))], .plain (.bool), false⟩
theorem ti4_ok : TI.ok Tryd.prog 4 ti4 := ⟨by kernel_rfl, by kernel_rfl, by kernel_rfl, by kernel_rfl, (fun _ => rfl), ⟨Tryd.underlying4, trivial⟩, (fun h => by cases h)⟩
def ti5 : TI := ⟨1, [(.v (.int .u8 0))], .plain (.int .u8), false⟩
theorem ti5_ok : TI.ok Tryd.prog 5 ti5 := ⟨by kernel_rfl, by kernel_rfl, by kernel_rfl, by kernel_rfl, (fun _ => rfl), ⟨Tryd.underlying5, trivial⟩, (fun h => by cases h)⟩
def ti9 : TI := ⟨1, [(.v (.string ⟨#[]⟩))], .plain (.string), false⟩
theorem ti9_ok : TI.ok Tryd.prog 9 ti9 := ⟨by kernel_rfl, by kernel_rfl, by kernel_rfl, by kernel_rfl, (fun _ => rfl), ⟨Tryd.underlying9, trivial⟩, (fun h => by cases h)⟩
def ti12 : TI := ⟨1, [(.v (.int .u64 0))], .plain (.int .u64), false⟩
theorem ti12_ok : TI.ok Tryd.prog 12 ti12 := ⟨by kernel_rfl, by kernel_rfl, by kernel_rfl, by kernel_rfl, (fun _ => rfl), ⟨Tryd.underlying12, trivial⟩, (fun h => by cases h)⟩
def ti21 : TI := ⟨1, [(.v (.int .i32 0))], .plain (.int .i32), false⟩
theorem ti21_ok : TI.ok Tryd.prog 21 ti21 := ⟨by kernel_rfl, by kernel_rfl, by kernel_rfl, by kernel_rfl, (fun _ => rfl), ⟨Tryd.underlying21, trivial⟩, (fun h => by cases h)⟩
def ti22 : TI := ⟨32, List.replicate 32 (.v (.int .u8 0)), .arr 32 5, true⟩
theorem ti22_ok : TI.ok Tryd.prog 22 ti22 := ⟨by kernel_rfl, by kernel_rfl, by kernel_rfl, by kernel_rfl, (fun h => by cases h), Tryd.underlying22, (fun _ => Tryd.eqGuardType22)⟩
def ti23 : TI := ⟨1, [(.v (.slice none 0 0))], .plain (.slice 5), false⟩
theorem ti23_ok : TI.ok Tryd.prog 23 ti23 := ⟨by kernel_rfl, by kernel_rfl, by kernel_rfl, by kernel_rfl, (fun _ => rfl), ⟨Tryd.underlying23, trivial⟩, (fun h => by cases h)⟩
def ti26 : TI := ⟨64, List.replicate 64 (.v (.int .u8 0)), .arr 64 5, true⟩
theorem ti26_ok : TI.ok Tryd.prog 26 ti26 := ⟨by kernel_rfl, by kernel_rfl, by kernel_rfl, by kernel_rfl, (fun h => by cases h), Tryd.underlying26, (fun _ => Tryd.eqGuardType26)⟩
def ti29 : TI := ⟨1, [(.v (.int .i64 0))], .plain (.int .i64), false⟩
theorem ti29_ok : TI.ok Tryd.prog 29 ti29 := ⟨by kernel_rfl, by kernel_rfl, by kernel_rfl, by kernel_rfl, (fun _ => rfl), ⟨Tryd.underlying29, trivial⟩, (fun h => by cases h)⟩
def ti31 : TI := ⟨1, [(.v (.int .u64 0))], .plain (.int .u64), false⟩
theorem ti31_ok : TI.ok Tryd.prog 31 ti31 := ⟨by kernel_rfl, by kernel_rfl, by kernel_rfl, by kernel_rfl, (fun _ => rfl), ⟨Tryd.underlying31, trivial⟩, (fun h => by cases h)⟩
def ti32 : TI := ⟨80, List.replicate 80 (.v (.int .u8 0)), .arr 80 5, true⟩
theorem ti32_ok : TI.ok Tryd.prog 32 ti32 := ⟨by kernel_rfl, by kernel_rfl, by kernel_rfl, by kernel_rfl, (fun h => by cases h), Tryd.underlying32, (fun _ => Tryd.eqGuardType32)⟩
def ti39 : TI := ⟨96, List.replicate 96 (.v (.int .u8 0)), .str [(0, 22), (32, 22), (64, 22)], false⟩
theorem ti39_ok : TI.ok Tryd.prog 39 ti39 := ⟨by kernel_rfl, by kernel_rfl, by kernel_rfl, by kernel_rfl, (fun h => by cases h), ⟨_, Tryd.underlying39, rfl⟩, (fun h => by cases h)⟩
def ti40 : TI := ⟨96, List.replicate 96 (.v (.int .u8 0)), .str [(0, 22), (32, 22), (64, 22)], false⟩
theorem ti40_ok : TI.ok Tryd.prog 40 ti40 := ⟨by kernel_rfl, by kernel_rfl, by kernel_rfl, by kernel_rfl, (fun h => by cases h), ⟨_, Tryd.underlying40, rfl⟩, (fun h => by cases h)⟩
def ti46 : TI := ⟨1, [(.v (.int .u64 0))], .plain (.int .u64), false⟩
theorem ti46_ok : TI.ok Tryd.prog 46 ti46 := ⟨by kernel_rfl, by kernel_rfl, by kernel_rfl, by kernel_rfl, (fun _ => rfl), ⟨Tryd.underlying46, trivial⟩, (fun h => by cases h)⟩
def ti47 : TI := ⟨5, List.replicate 5 (.v (.int .u64 0)), .arr 5 46, true⟩
theorem ti47_ok : TI.ok Tryd.prog 47 ti47 := ⟨by kernel_rfl, by kernel_rfl, by kernel_rfl, by kernel_rfl, (fun h => by cases h), Tryd.underlying47, (fun _ => Tryd.eqGuardType47)⟩
def ti48 : TI := ⟨5, List.replicate 5 (.v (.int .u64 0)), .arr 5 46, true⟩
theorem ti48_ok : TI.ok Tryd.prog 48 ti48 := ⟨by kernel_rfl, by kernel_rfl, by kernel_rfl, by kernel_rfl, (fun h => by cases h), Tryd.underlying48, (fun _ => Tryd.eqGuardType48)⟩
def ti49 : TI := ⟨20, List.replicate 20 (.v (.int .u64 0)), .str [(0, 48), (5, 48), (10, 48), (15, 48)], false⟩
theorem ti49_ok : TI.ok Tryd.prog 49 ti49 := ⟨by kernel_rfl, by kernel_rfl, by kernel_rfl, by kernel_rfl, (fun h => by cases h), ⟨_, Tryd.underlying49, rfl⟩, (fun h => by cases h)⟩
def ti50 : TI := ⟨20, List.replicate 20 (.v (.int .u64 0)), .str [(0, 48), (5, 48), (10, 48), (15, 48)], false⟩
theorem ti50_ok : TI.ok Tryd.prog 50 ti50 := ⟨by kernel_rfl, by kernel_rfl, by kernel_rfl, by kernel_rfl, (fun h => by cases h), ⟨_, Tryd.underlying50, rfl⟩, (fun h => by cases h)⟩
def ti63 : TI := ⟨4, [(.v (.int .u64 0)), (.v (.int .u64 0)), (.v (.int .u64 0)), (.v (.int .u64 0))], .arr 4 46, true⟩
theorem ti63_ok : TI.ok Tryd.prog 63 ti63 := ⟨by kernel_rfl, by kernel_rfl, by kernel_rfl, by kernel_rfl, (fun h => by cases h), Tryd.underlying63, (fun _ => Tryd.eqGuardType63)⟩
def ti64 : TI := ⟨4, [(.v (.int .u64 0)), (.v (.int .u64 0)), (.v (.int .u64 0)), (.v (.int .u64 0))], .arr 4 46, true⟩
theorem ti64_ok : TI.ok Tryd.prog 64 ti64 := ⟨by kernel_rfl, by kernel_rfl, by kernel_rfl, by kernel_rfl, (fun h => by cases h), Tryd.underlying64, (fun _ => Tryd.eqGuardType64)⟩
def ti65 : TI := ⟨16, List.replicate 16 (.v (.int .u64 0)), .str [(0, 64), (4, 64), (8, 64), (12, 64)], false⟩
theorem ti65_ok : TI.ok Tryd.prog 65 ti65 := ⟨by kernel_rfl, by kernel_rfl, by kernel_rfl, by kernel_rfl, (fun h => by cases h), ⟨_, Tryd.underlying65, rfl⟩, (fun h => by cases h)⟩
def ti66 : TI := ⟨16, List.replicate 16 (.v (.int .u64 0)), .str [(0, 64), (4, 64), (8, 64), (12, 64)], false⟩
theorem ti66_ok : TI.ok Tryd.prog 66 ti66 := ⟨by kernel_rfl, by kernel_rfl, by kernel_rfl, by kernel_rfl, (fun h => by cases h), ⟨_, Tryd.underlying66, rfl⟩, (fun h => by cases h)⟩
def ti71 : TI := ⟨1, [(.v (.slice none 0 0))], .plain (.slice 23), false⟩
theorem ti71_ok : TI.ok Tryd.prog 71 ti71 := ⟨by kernel_rfl, by kernel_rfl, by kernel_rfl, by kernel_rfl, (fun _ => rfl), ⟨Tryd.underlying71, trivial⟩, (fun h => by cases h)⟩
def ti73 : TI := ⟨4, [(.v (.int .u64 0)), (.v (.int .u64 0)), (.v (.int .u64 0)), (.v (.int .u64 0))], .arr 4 46, true⟩
theorem ti73_ok : TI.ok Tryd.prog 73 ti73 := ⟨by kernel_rfl, by kernel_rfl, by kernel_rfl, by kernel_rfl, (fun h => by cases h), Tryd.underlying73, (fun _ => Tryd.eqGuardType73)⟩
def ti75 : TI := ⟨8, List.replicate 8 (.v (.int .u64 0)), .arr 8 46, true⟩
theorem ti75_ok : TI.ok Tryd.prog 75 ti75 := ⟨by kernel_rfl, by kernel_rfl, by kernel_rfl, by kernel_rfl, (fun h => by cases h), Tryd.underlying75, (fun _ => Tryd.eqGuardType75)⟩
def ti82 : TI := ⟨4, [(.v (.int .u64 0)), (.v (.int .u64 0)), (.v (.int .u64 0)), (.v (.int .u64 0))], .arr 4 46, true⟩
theorem ti82_ok : TI.ok Tryd.prog 82 ti82 := ⟨by kernel_rfl, by kernel_rfl, by kernel_rfl, by kernel_rfl, (fun h => by cases h), Tryd.underlying82, (fun _ => Tryd.eqGuardType82)⟩
def ti92 : TI := ⟨320, List.replicate 320 (.v (.int .u64 0)), .arr 16 50, true⟩
theorem ti92_ok : TI.ok Tryd.prog 92 ti92 := ⟨by kernel_rfl, by kernel_rfl, by kernel_rfl, by kernel_rfl, (fun h => by cases h), Tryd.underlying92, (fun _ => Tryd.eqGuardType92)⟩
def ti93 : TI := ⟨2, [(.v (.int .u8 0)), (.v (.int .u8 0))], .arr 2 5, true⟩
theorem ti93_ok : TI.ok Tryd.prog 93 ti93 := ⟨by kernel_rfl, by kernel_rfl, by kernel_rfl, by kernel_rfl, (fun h => by cases h), Tryd.underlying93, (fun _ => Tryd.eqGuardType93)⟩
def ti94 : TI := ⟨1, [(.v (.slice none 0 0))], .plain (.slice 22), false⟩
theorem ti94_ok : TI.ok Tryd.prog 94 ti94 := ⟨by kernel_rfl, by kernel_rfl, by kernel_rfl, by kernel_rfl, (fun _ => rfl), ⟨Tryd.underlying94, trivial⟩, (fun h => by cases h)⟩
def ti95 : TI := ⟨8, List.replicate 8 (.v (.int .u64 0)), .arr 8 46, true⟩
theorem ti95_ok : TI.ok Tryd.prog 95 ti95 := ⟨by kernel_rfl, by kernel_rfl, by kernel_rfl, by kernel_rfl, (fun h => by cases h), Tryd.underlying95, (fun _ => Tryd.eqGuardType95)⟩
def ti98 : TI := ⟨80, List.replicate 80 (.v (.int .u64 0)), .arr 80 46, true⟩
theorem ti98_ok : TI.ok Tryd.prog 98 ti98 := ⟨by kernel_rfl, by kernel_rfl, by kernel_rfl, by kernel_rfl, (fun h => by cases h), Tryd.underlying98, (fun _ => Tryd.eqGuardType98)⟩
def ti118 : TI := ⟨2, [(.v (.int .u64 0)), (.v (.int .u64 0))], .str [(0, 46), (1, 46)], false⟩
theorem ti118_ok : TI.ok Tryd.prog 118 ti118 := ⟨by kernel_rfl, by kernel_rfl, by kernel_rfl, by kernel_rfl, (fun h => by cases h), ⟨_, Tryd.underlying118, rfl⟩, (fun h => by cases h)⟩
def ti119 : TI := ⟨2, [(.v (.int .u64 0)), (.v (.int .u64 0))], .str [(0, 46), (1, 46)], false⟩
theorem ti119_ok : TI.ok Tryd.prog 119 ti119 := ⟨by kernel_rfl, by kernel_rfl, by kernel_rfl, by kernel_rfl, (fun h => by cases h), ⟨_, Tryd.underlying119, rfl⟩, (fun h => by cases h)⟩
def ti121 : TI := ⟨10, List.replicate 10 (.v (.int .u64 0)), .arr 5 119, true⟩
theorem ti121_ok : TI.ok Tryd.prog 121 ti121 := ⟨by kernel_rfl, by kernel_rfl, by kernel_rfl, by kernel_rfl, (fun h => by cases h), Tryd.underlying121, (fun _ => Tryd.eqGuardType121)⟩
def ti126 : TI := ⟨1, [(.v (.slice none 0 0))], .plain (.slice 46), false⟩
theorem ti126_ok : TI.ok Tryd.prog 126 ti126 := ⟨by kernel_rfl, by kernel_rfl, by kernel_rfl, by kernel_rfl, (fun _ => rfl), ⟨Tryd.underlying126, trivial⟩, (fun h => by cases h)⟩
def ti127 : TI := ⟨1, [(.v (.pointer none))], .plain (.pointer 95), false⟩
theorem ti127_ok : TI.ok Tryd.prog 127 ti127 := ⟨by kernel_rfl, by kernel_rfl, by kernel_rfl, by kernel_rfl, (fun _ => rfl), ⟨Tryd.underlying127, trivial⟩, (fun h => by cases h)⟩
def ti139 : TI := ⟨1, [(.v (.int .u32 0))], .plain (.int .u32), false⟩
theorem ti139_ok : TI.ok Tryd.prog 139 ti139 := ⟨by kernel_rfl, by kernel_rfl, by kernel_rfl, by kernel_rfl, (fun _ => rfl), ⟨Tryd.underlying139, trivial⟩, (fun h => by cases h)⟩
def ti143 : TI := ⟨1, [(.v (.pointer none))], .plain (.pointer 5), false⟩
theorem ti143_ok : TI.ok Tryd.prog 143 ti143 := ⟨by kernel_rfl, by kernel_rfl, by kernel_rfl, by kernel_rfl, (fun _ => rfl), ⟨Tryd.underlying143, trivial⟩, (fun h => by cases h)⟩
def tys : Ty := [(2, ti2), (3, ti3), (4, ti4), (5, ti5), (9, ti9), (12, ti12), (21, ti21), (22, ti22), (23, ti23), (26, ti26), (29, ti29), (31, ti31), (32, ti32), (39, ti39), (40, ti40), (46, ti46), (47, ti47), (48, ti48), (49, ti49), (50, ti50), (63, ti63), (64, ti64), (65, ti65), (66, ti66), (71, ti71), (73, ti73), (75, ti75), (82, ti82), (92, ti92), (93, ti93), (94, ti94), (95, ti95), (98, ti98), (118, ti118), (119, ti119), (121, ti121), (126, ti126), (127, ti127), (139, ti139), (143, ti143)]
theorem tys_ok : tys.ok Tryd.prog := ⟨ti2_ok, ⟨ti3_ok, ⟨ti4_ok, ⟨ti5_ok, ⟨ti9_ok, ⟨ti12_ok, ⟨ti21_ok, ⟨ti22_ok, ⟨ti23_ok, ⟨ti26_ok, ⟨ti29_ok, ⟨ti31_ok, ⟨ti32_ok, ⟨ti39_ok, ⟨ti40_ok, ⟨ti46_ok, ⟨ti47_ok, ⟨ti48_ok, ⟨ti49_ok, ⟨ti50_ok, ⟨ti63_ok, ⟨ti64_ok, ⟨ti65_ok, ⟨ti66_ok, ⟨ti71_ok, ⟨ti73_ok, ⟨ti75_ok, ⟨ti82_ok, ⟨ti92_ok, ⟨ti93_ok, ⟨ti94_ok, ⟨ti95_ok, ⟨ti98_ok, ⟨ti118_ok, ⟨ti119_ok, ⟨ti121_ok, ⟨ti126_ok, ⟨ti127_ok, ⟨ti139_ok, ⟨ti143_ok, trivial⟩⟩⟩⟩⟩⟩⟩⟩⟩⟩⟩⟩⟩⟩⟩⟩⟩⟩⟩⟩⟩⟩⟩⟩⟩⟩⟩⟩⟩⟩⟩⟩⟩⟩⟩⟩⟩⟩⟩⟩
theorem mixed : Tryd.prog.follows .mixedOrders = true := by kernel_rfl
end Go.Proofs.YthbhmmndggkmaaaDoor

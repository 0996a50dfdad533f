/- The engine's table of types, by program (gen_ty.py) out of the seat's translation, and that it agrees with the program. -/
import Derived.Test.YthbhmmndggkmaaaGreatDoorChecked
import Derived.Test.YthbhmmndggkmaaaGreatDoorQEngY
namespace Go.Proofs.YthbhmmndggkmaaaGreatDoor
open Go.Eng
set_option maxRecDepth 100000
def ti2 : TI := ⟨1, [(.v (.int .i64 0))], .plain (.int .i64), false⟩
theorem ti2_ok : TI.ok Tryz.prog 2 ti2 := ⟨by kernel_rfl, by kernel_rfl, by kernel_rfl, by kernel_rfl, (fun _ => rfl), ⟨Tryz.underlying2, trivial⟩, (fun h => by cases h)⟩
def ti3 : TI := ⟨1, [(.v (.int .i64 0))], .plain (.int .i64), false⟩
theorem ti3_ok : TI.ok Tryz.prog 3 ti3 := ⟨by kernel_rfl, by kernel_rfl, by kernel_rfl, by kernel_rfl, (fun _ => rfl), ⟨Tryz.underlying3, trivial⟩, (fun h => by cases h)⟩
def ti4 : TI := ⟨1, [(.v (.bool false))], .plain (.bool), false⟩
theorem ti4_ok : TI.ok Tryz.prog 4 ti4 := ⟨by kernel_rfl, by kernel_rfl, by kernel_rfl, by kernel_rfl, (fun _ => rfl), ⟨Tryz.underlying4, trivial⟩, (fun h => by cases h)⟩
def ti5 : TI := ⟨1, [(.v (.int .u8 0))], .plain (.int .u8), false⟩
theorem ti5_ok : TI.ok Tryz.prog 5 ti5 := ⟨by kernel_rfl, by kernel_rfl, by kernel_rfl, by kernel_rfl, (fun _ => rfl), ⟨Tryz.underlying5, trivial⟩, (fun h => by cases h)⟩
def ti9 : TI := ⟨1, [(.v (.string ⟨#[]⟩))], .plain (.string), false⟩
theorem ti9_ok : TI.ok Tryz.prog 9 ti9 := ⟨by kernel_rfl, by kernel_rfl, by kernel_rfl, by kernel_rfl, (fun _ => rfl), ⟨Tryz.underlying9, trivial⟩, (fun h => by cases h)⟩
def ti12 : TI := ⟨1, [(.v (.int .u64 0))], .plain (.int .u64), false⟩
theorem ti12_ok : TI.ok Tryz.prog 12 ti12 := ⟨by kernel_rfl, by kernel_rfl, by kernel_rfl, by kernel_rfl, (fun _ => rfl), ⟨Tryz.underlying12, trivial⟩, (fun h => by cases h)⟩
def ti21 : TI := ⟨1, [(.v (.int .i32 0))], .plain (.int .i32), false⟩
theorem ti21_ok : TI.ok Tryz.prog 21 ti21 := ⟨by kernel_rfl, by kernel_rfl, by kernel_rfl, by kernel_rfl, (fun _ => rfl), ⟨Tryz.underlying21, trivial⟩, (fun h => by cases h)⟩
def ti22 : TI := ⟨32, List.replicate 32 (.v (.int .u8 0)), .arr 32 5, true⟩
theorem ti22_ok : TI.ok Tryz.prog 22 ti22 := ⟨by kernel_rfl, by kernel_rfl, by kernel_rfl, by kernel_rfl, (fun h => by cases h), Tryz.underlying22, (fun _ => Tryz.eqGuardType22)⟩
def ti23 : TI := ⟨1, [(.v (.slice none 0 0))], .plain (.slice 5), false⟩
theorem ti23_ok : TI.ok Tryz.prog 23 ti23 := ⟨by kernel_rfl, by kernel_rfl, by kernel_rfl, by kernel_rfl, (fun _ => rfl), ⟨Tryz.underlying23, trivial⟩, (fun h => by cases h)⟩
def ti24 : TI := ⟨64, List.replicate 64 (.v (.int .u8 0)), .arr 64 5, true⟩
theorem ti24_ok : TI.ok Tryz.prog 24 ti24 := ⟨by kernel_rfl, by kernel_rfl, by kernel_rfl, by kernel_rfl, (fun h => by cases h), Tryz.underlying24, (fun _ => Tryz.eqGuardType24)⟩
def ti26 : TI := ⟨1, [(.v (.int .i64 0))], .plain (.int .i64), false⟩
theorem ti26_ok : TI.ok Tryz.prog 26 ti26 := ⟨by kernel_rfl, by kernel_rfl, by kernel_rfl, by kernel_rfl, (fun _ => rfl), ⟨Tryz.underlying26, trivial⟩, (fun h => by cases h)⟩
def ti31 : TI := ⟨1, [(.v (.int .u64 0))], .plain (.int .u64), false⟩
theorem ti31_ok : TI.ok Tryz.prog 31 ti31 := ⟨by kernel_rfl, by kernel_rfl, by kernel_rfl, by kernel_rfl, (fun _ => rfl), ⟨Tryz.underlying31, trivial⟩, (fun h => by cases h)⟩
def ti33 : TI := ⟨80, List.replicate 80 (.v (.int .u8 0)), .arr 80 5, true⟩
theorem ti33_ok : TI.ok Tryz.prog 33 ti33 := ⟨by kernel_rfl, by kernel_rfl, by kernel_rfl, by kernel_rfl, (fun h => by cases h), Tryz.underlying33, (fun _ => Tryz.eqGuardType33)⟩
def ti41 : TI := ⟨1, [(.v (.int .u64 0))], .plain (.int .u64), false⟩
theorem ti41_ok : TI.ok Tryz.prog 41 ti41 := ⟨by kernel_rfl, by kernel_rfl, by kernel_rfl, by kernel_rfl, (fun _ => rfl), ⟨Tryz.underlying41, trivial⟩, (fun h => by cases h)⟩
def ti42 : TI := ⟨5, List.replicate 5 (.v (.int .u64 0)), .arr 5 41, true⟩
theorem ti42_ok : TI.ok Tryz.prog 42 ti42 := ⟨by kernel_rfl, by kernel_rfl, by kernel_rfl, by kernel_rfl, (fun h => by cases h), Tryz.underlying42, (fun _ => Tryz.eqGuardType42)⟩
def ti43 : TI := ⟨5, List.replicate 5 (.v (.int .u64 0)), .arr 5 41, true⟩
theorem ti43_ok : TI.ok Tryz.prog 43 ti43 := ⟨by kernel_rfl, by kernel_rfl, by kernel_rfl, by kernel_rfl, (fun h => by cases h), Tryz.underlying43, (fun _ => Tryz.eqGuardType43)⟩
def ti44 : TI := ⟨20, List.replicate 20 (.v (.int .u64 0)), .str [(0, 43), (5, 43), (10, 43), (15, 43)], false⟩
theorem ti44_ok : TI.ok Tryz.prog 44 ti44 := ⟨by kernel_rfl, by kernel_rfl, by kernel_rfl, by kernel_rfl, (fun h => by cases h), ⟨_, Tryz.underlying44, rfl⟩, (fun h => by cases h)⟩
def ti45 : TI := ⟨20, List.replicate 20 (.v (.int .u64 0)), .str [(0, 43), (5, 43), (10, 43), (15, 43)], false⟩
theorem ti45_ok : TI.ok Tryz.prog 45 ti45 := ⟨by kernel_rfl, by kernel_rfl, by kernel_rfl, by kernel_rfl, (fun h => by cases h), ⟨_, Tryz.underlying45, rfl⟩, (fun h => by cases h)⟩
def ti56 : TI := ⟨4, [(.v (.int .u64 0)), (.v (.int .u64 0)), (.v (.int .u64 0)), (.v (.int .u64 0))], .arr 4 41, true⟩
theorem ti56_ok : TI.ok Tryz.prog 56 ti56 := ⟨by kernel_rfl, by kernel_rfl, by kernel_rfl, by kernel_rfl, (fun h => by cases h), Tryz.underlying56, (fun _ => Tryz.eqGuardType56)⟩
def ti57 : TI := ⟨4, [(.v (.int .u64 0)), (.v (.int .u64 0)), (.v (.int .u64 0)), (.v (.int .u64 0))], .arr 4 41, true⟩
theorem ti57_ok : TI.ok Tryz.prog 57 ti57 := ⟨by kernel_rfl, by kernel_rfl, by kernel_rfl, by kernel_rfl, (fun h => by cases h), Tryz.underlying57, (fun _ => Tryz.eqGuardType57)⟩
def ti58 : TI := ⟨16, List.replicate 16 (.v (.int .u64 0)), .str [(0, 57), (4, 57), (8, 57), (12, 57)], false⟩
theorem ti58_ok : TI.ok Tryz.prog 58 ti58 := ⟨by kernel_rfl, by kernel_rfl, by kernel_rfl, by kernel_rfl, (fun h => by cases h), ⟨_, Tryz.underlying58, rfl⟩, (fun h => by cases h)⟩
def ti59 : TI := ⟨16, List.replicate 16 (.v (.int .u64 0)), .str [(0, 57), (4, 57), (8, 57), (12, 57)], false⟩
theorem ti59_ok : TI.ok Tryz.prog 59 ti59 := ⟨by kernel_rfl, by kernel_rfl, by kernel_rfl, by kernel_rfl, (fun h => by cases h), ⟨_, Tryz.underlying59, rfl⟩, (fun h => by cases h)⟩
def ti69 : TI := ⟨96, List.replicate 96 (.v (.int .u8 0)), .str [(0, 22), (32, 22), (64, 22)], false⟩
theorem ti69_ok : TI.ok Tryz.prog 69 ti69 := ⟨by kernel_rfl, by kernel_rfl, by kernel_rfl, by kernel_rfl, (fun h => by cases h), ⟨_, Tryz.underlying69, rfl⟩, (fun h => by cases h)⟩
def ti70 : TI := ⟨96, List.replicate 96 (.v (.int .u8 0)), .str [(0, 22), (32, 22), (64, 22)], false⟩
theorem ti70_ok : TI.ok Tryz.prog 70 ti70 := ⟨by kernel_rfl, by kernel_rfl, by kernel_rfl, by kernel_rfl, (fun h => by cases h), ⟨_, Tryz.underlying70, rfl⟩, (fun h => by cases h)⟩
def ti93 : TI := ⟨4, [(.v (.int .u64 0)), (.v (.int .u64 0)), (.v (.int .u64 0)), (.v (.int .u64 0))], .arr 4 41, true⟩
theorem ti93_ok : TI.ok Tryz.prog 93 ti93 := ⟨by kernel_rfl, by kernel_rfl, by kernel_rfl, by kernel_rfl, (fun h => by cases h), Tryz.underlying93, (fun _ => Tryz.eqGuardType93)⟩
def ti95 : TI := ⟨1, [(.v (.slice none 0 0))], .plain (.slice 23), false⟩
theorem ti95_ok : TI.ok Tryz.prog 95 ti95 := ⟨by kernel_rfl, by kernel_rfl, by kernel_rfl, by kernel_rfl, (fun _ => rfl), ⟨Tryz.underlying95, trivial⟩, (fun h => by cases h)⟩
def ti97 : TI := ⟨320, List.replicate 320 (.v (.int .u64 0)), .arr 16 45, true⟩
theorem ti97_ok : TI.ok Tryz.prog 97 ti97 := ⟨by kernel_rfl, by kernel_rfl, by kernel_rfl, by kernel_rfl, (fun h => by cases h), Tryz.underlying97, (fun _ => Tryz.eqGuardType97)⟩
def ti98 : TI := ⟨2, [(.v (.int .u8 0)), (.v (.int .u8 0))], .arr 2 5, true⟩
theorem ti98_ok : TI.ok Tryz.prog 98 ti98 := ⟨by kernel_rfl, by kernel_rfl, by kernel_rfl, by kernel_rfl, (fun h => by cases h), Tryz.underlying98, (fun _ => Tryz.eqGuardType98)⟩
def ti100 : TI := ⟨4, [(.v (.int .u64 0)), (.v (.int .u64 0)), (.v (.int .u64 0)), (.v (.int .u64 0))], .arr 4 41, true⟩
theorem ti100_ok : TI.ok Tryz.prog 100 ti100 := ⟨by kernel_rfl, by kernel_rfl, by kernel_rfl, by kernel_rfl, (fun h => by cases h), Tryz.underlying100, (fun _ => Tryz.eqGuardType100)⟩
def ti114 : TI := ⟨1, [(.v (.slice none 0 0))], .plain (.slice 22), false⟩
theorem ti114_ok : TI.ok Tryz.prog 114 ti114 := ⟨by kernel_rfl, by kernel_rfl, by kernel_rfl, by kernel_rfl, (fun _ => rfl), ⟨Tryz.underlying114, trivial⟩, (fun h => by cases h)⟩
def ti115 : TI := ⟨8, List.replicate 8 (.v (.int .u64 0)), .arr 8 41, true⟩
theorem ti115_ok : TI.ok Tryz.prog 115 ti115 := ⟨by kernel_rfl, by kernel_rfl, by kernel_rfl, by kernel_rfl, (fun h => by cases h), Tryz.underlying115, (fun _ => Tryz.eqGuardType115)⟩
def ti121 : TI := ⟨80, List.replicate 80 (.v (.int .u64 0)), .arr 80 41, true⟩
theorem ti121_ok : TI.ok Tryz.prog 121 ti121 := ⟨by kernel_rfl, by kernel_rfl, by kernel_rfl, by kernel_rfl, (fun h => by cases h), Tryz.underlying121, (fun _ => Tryz.eqGuardType121)⟩
def ti126 : TI := ⟨2, [(.v (.int .u64 0)), (.v (.int .u64 0))], .str [(0, 41), (1, 41)], false⟩
theorem ti126_ok : TI.ok Tryz.prog 126 ti126 := ⟨by kernel_rfl, by kernel_rfl, by kernel_rfl, by kernel_rfl, (fun h => by cases h), ⟨_, Tryz.underlying126, rfl⟩, (fun h => by cases h)⟩
def ti127 : TI := ⟨2, [(.v (.int .u64 0)), (.v (.int .u64 0))], .str [(0, 41), (1, 41)], false⟩
theorem ti127_ok : TI.ok Tryz.prog 127 ti127 := ⟨by kernel_rfl, by kernel_rfl, by kernel_rfl, by kernel_rfl, (fun h => by cases h), ⟨_, Tryz.underlying127, rfl⟩, (fun h => by cases h)⟩
def ti129 : TI := ⟨10, List.replicate 10 (.v (.int .u64 0)), .arr 5 127, true⟩
theorem ti129_ok : TI.ok Tryz.prog 129 ti129 := ⟨by kernel_rfl, by kernel_rfl, by kernel_rfl, by kernel_rfl, (fun h => by cases h), Tryz.underlying129, (fun _ => Tryz.eqGuardType129)⟩
def ti133 : TI := ⟨8, List.replicate 8 (.v (.int .u64 0)), .arr 8 41, true⟩
theorem ti133_ok : TI.ok Tryz.prog 133 ti133 := ⟨by kernel_rfl, by kernel_rfl, by kernel_rfl, by kernel_rfl, (fun h => by cases h), Tryz.underlying133, (fun _ => Tryz.eqGuardType133)⟩
def ti138 : TI := ⟨1, [(.v (.slice none 0 0))], .plain (.slice 41), false⟩
theorem ti138_ok : TI.ok Tryz.prog 138 ti138 := ⟨by kernel_rfl, by kernel_rfl, by kernel_rfl, by kernel_rfl, (fun _ => rfl), ⟨Tryz.underlying138, trivial⟩, (fun h => by cases h)⟩
def ti143 : TI := ⟨1, [(.v (.pointer none))], .plain (.pointer 133), false⟩
theorem ti143_ok : TI.ok Tryz.prog 143 ti143 := ⟨by kernel_rfl, by kernel_rfl, by kernel_rfl, by kernel_rfl, (fun _ => rfl), ⟨Tryz.underlying143, trivial⟩, (fun h => by cases h)⟩
def ti153 : TI := ⟨1, [(.v (.int .u32 0))], .plain (.int .u32), false⟩
theorem ti153_ok : TI.ok Tryz.prog 153 ti153 := ⟨by kernel_rfl, by kernel_rfl, by kernel_rfl, by kernel_rfl, (fun _ => rfl), ⟨Tryz.underlying153, trivial⟩, (fun h => by cases h)⟩
def ti157 : TI := ⟨1, [(.v (.pointer none))], .plain (.pointer 5), false⟩
theorem ti157_ok : TI.ok Tryz.prog 157 ti157 := ⟨by kernel_rfl, by kernel_rfl, by kernel_rfl, by kernel_rfl, (fun _ => rfl), ⟨Tryz.underlying157, trivial⟩, (fun h => by cases h)⟩
def tys : Ty := [(2, ti2), (3, ti3), (4, ti4), (5, ti5), (9, ti9), (12, ti12), (21, ti21), (22, ti22), (23, ti23), (24, ti24), (26, ti26), (31, ti31), (33, ti33), (41, ti41), (42, ti42), (43, ti43), (44, ti44), (45, ti45), (56, ti56), (57, ti57), (58, ti58), (59, ti59), (69, ti69), (70, ti70), (93, ti93), (95, ti95), (97, ti97), (98, ti98), (100, ti100), (114, ti114), (115, ti115), (121, ti121), (126, ti126), (127, ti127), (129, ti129), (133, ti133), (138, ti138), (143, ti143), (153, ti153), (157, ti157)]
theorem tys_ok : tys.ok Tryz.prog := ⟨ti2_ok, ⟨ti3_ok, ⟨ti4_ok, ⟨ti5_ok, ⟨ti9_ok, ⟨ti12_ok, ⟨ti21_ok, ⟨ti22_ok, ⟨ti23_ok, ⟨ti24_ok, ⟨ti26_ok, ⟨ti31_ok, ⟨ti33_ok, ⟨ti41_ok, ⟨ti42_ok, ⟨ti43_ok, ⟨ti44_ok, ⟨ti45_ok, ⟨ti56_ok, ⟨ti57_ok, ⟨ti58_ok, ⟨ti59_ok, ⟨ti69_ok, ⟨ti70_ok, ⟨ti93_ok, ⟨ti95_ok, ⟨ti97_ok, ⟨ti98_ok, ⟨ti100_ok, ⟨ti114_ok, ⟨ti115_ok, ⟨ti121_ok, ⟨ti126_ok, ⟨ti127_ok, ⟨ti129_ok, ⟨ti133_ok, ⟨ti138_ok, ⟨ti143_ok, ⟨ti153_ok, ⟨ti157_ok, trivial⟩⟩⟩⟩⟩⟩⟩⟩⟩⟩⟩⟩⟩⟩⟩⟩⟩⟩⟩⟩⟩⟩⟩⟩⟩⟩⟩⟩⟩⟩⟩⟩⟩⟩⟩⟩⟩⟩⟩⟩
theorem mixed : Tryz.prog.follows .mixedOrders = true := by kernel_rfl
end Go.Proofs.YthbhmmndggkmaaaGreatDoor

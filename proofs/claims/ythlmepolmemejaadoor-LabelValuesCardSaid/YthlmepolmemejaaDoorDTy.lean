/- The engine's table of types, by program (gen_ty.py) out of the seat's translation, and that it agrees with the program. -/
import Derived.Test.YthlmepolmemejaaDoorChecked
import Derived.Test.YthlmepolmemejaaDoorDEngY
namespace Go.Proofs.YthlmepolmemejaaDoor
open Go.Eng
set_option maxRecDepth 100000
def ti2 : TI := ⟨1, [(.v (.int .i64 0))], .plain (.int .i64), false⟩
theorem ti2_ok : TI.ok Tryd.prog 2 ti2 := ⟨by kernel_rfl, by kernel_rfl, by kernel_rfl, by kernel_rfl, (fun _ => rfl), ⟨Tryd.underlying2, trivial⟩, (fun h => by cases h)⟩
def ti3 : TI := ⟨1, [(.v (.int .i64 0))], .plain (.int .i64), false⟩
theorem ti3_ok : TI.ok Tryd.prog 3 ti3 := ⟨by kernel_rfl, by kernel_rfl, by kernel_rfl, by kernel_rfl, (fun _ => rfl), ⟨Tryd.underlying3, trivial⟩, (fun h => by cases h)⟩
def ti4 : TI := ⟨1, [(.v (.bool false))], .plain (.bool), false⟩
theorem ti4_ok : TI.ok Tryd.prog 4 ti4 := ⟨by kernel_rfl, by kernel_rfl, by kernel_rfl, by kernel_rfl, (fun _ => rfl), ⟨Tryd.underlying4, trivial⟩, (fun h => by cases h)⟩
def ti5 : TI := ⟨1, [(.v (.int .u8 0))], .plain (.int .u8), false⟩
theorem ti5_ok : TI.ok Tryd.prog 5 ti5 := ⟨by kernel_rfl, by kernel_rfl, by kernel_rfl, by kernel_rfl, (fun _ => rfl), ⟨Tryd.underlying5, trivial⟩, (fun h => by cases h)⟩
def ti9 : TI := ⟨1, [(.v (.string ⟨#[]⟩))], .plain (.string), false⟩
theorem ti9_ok : TI.ok Tryd.prog 9 ti9 := ⟨by kernel_rfl, by kernel_rfl, by kernel_rfl, by kernel_rfl, (fun _ => rfl), ⟨Tryd.underlying9, trivial⟩, (fun h => by cases h)⟩
def ti12 : TI := ⟨1, [(.v (.int .u64 0))], .plain (.int .u64), false⟩
theorem ti12_ok : TI.ok Tryd.prog 12 ti12 := ⟨by kernel_rfl, by kernel_rfl, by kernel_rfl, by kernel_rfl, (fun _ => rfl), ⟨Tryd.underlying12, trivial⟩, (fun h => by cases h)⟩
def ti21 : TI := ⟨1, [(.v (.int .i32 0))], .plain (.int .i32), false⟩
theorem ti21_ok : TI.ok Tryd.prog 21 ti21 := ⟨by kernel_rfl, by kernel_rfl, by kernel_rfl, by kernel_rfl, (fun _ => rfl), ⟨Tryd.underlying21, trivial⟩, (fun h => by cases h)⟩
def ti22 : TI := ⟨1, [(.v (.slice none 0 0))], .plain (.slice 24), false⟩
theorem ti22_ok : TI.ok Tryd.prog 22 ti22 := ⟨by kernel_rfl, by kernel_rfl, by kernel_rfl, by kernel_rfl, (fun _ => rfl), ⟨Tryd.underlying22, trivial⟩, (fun h => by cases h)⟩
def ti24 : TI := ⟨32, List.replicate 32 (.v (.int .u8 0)), .arr 32 5, true⟩
theorem ti24_ok : TI.ok Tryd.prog 24 ti24 := ⟨by kernel_rfl, by kernel_rfl, by kernel_rfl, by kernel_rfl, (fun h => by cases h), Tryd.underlying24, (fun _ => Tryd.eqGuardType24)⟩
def ti25 : TI := ⟨1, [(.v (.int .i64 0))], .plain (.int .i64), false⟩
theorem ti25_ok : TI.ok Tryd.prog 25 ti25 := ⟨by kernel_rfl, by kernel_rfl, by kernel_rfl, by kernel_rfl, (fun _ => rfl), ⟨Tryd.underlying25, trivial⟩, (fun h => by cases h)⟩
def ti30 : TI := ⟨1, [(.v (.slice none 0 0))], .plain (.slice 5), false⟩
theorem ti30_ok : TI.ok Tryd.prog 30 ti30 := ⟨by kernel_rfl, by kernel_rfl, by kernel_rfl, by kernel_rfl, (fun _ => rfl), ⟨Tryd.underlying30, trivial⟩, (fun h => by cases h)⟩
def ti33 : TI := ⟨1, [(.v (.int .u64 0))], .plain (.int .u64), false⟩
theorem ti33_ok : TI.ok Tryd.prog 33 ti33 := ⟨by kernel_rfl, by kernel_rfl, by kernel_rfl, by kernel_rfl, (fun _ => rfl), ⟨Tryd.underlying33, trivial⟩, (fun h => by cases h)⟩
def ti37 : TI := ⟨1, [(.v (.slice none 0 0))], .plain (.slice 30), false⟩
theorem ti37_ok : TI.ok Tryd.prog 37 ti37 := ⟨by kernel_rfl, by kernel_rfl, by kernel_rfl, by kernel_rfl, (fun _ => rfl), ⟨Tryd.underlying37, trivial⟩, (fun h => by cases h)⟩
def ti41 : TI := ⟨1, [(.v (.pointer none))], .plain (.pointer 58), false⟩
theorem ti41_ok : TI.ok Tryd.prog 41 ti41 := ⟨by kernel_rfl, by kernel_rfl, by kernel_rfl, by kernel_rfl, (fun _ => rfl), ⟨Tryd.underlying41, trivial⟩, (fun h => by cases h)⟩
def ti45 : TI := ⟨1, [(.v (.int .u32 0))], .plain (.int .u32), false⟩
theorem ti45_ok : TI.ok Tryd.prog 45 ti45 := ⟨by kernel_rfl, by kernel_rfl, by kernel_rfl, by kernel_rfl, (fun _ => rfl), ⟨Tryd.underlying45, trivial⟩, (fun h => by cases h)⟩
def ti46 : TI := ⟨8, List.replicate 8 (.v (.int .u32 0)), .arr 8 45, true⟩
theorem ti46_ok : TI.ok Tryd.prog 46 ti46 := ⟨by kernel_rfl, by kernel_rfl, by kernel_rfl, by kernel_rfl, (fun h => by cases h), Tryd.underlying46, (fun _ => Tryd.eqGuardType46)⟩
def ti47 : TI := ⟨64, List.replicate 64 (.v (.int .u32 0)), .arr 64 45, true⟩
theorem ti47_ok : TI.ok Tryd.prog 47 ti47 := ⟨by kernel_rfl, by kernel_rfl, by kernel_rfl, by kernel_rfl, (fun h => by cases h), Tryd.underlying47, (fun _ => Tryd.eqGuardType47)⟩
def ti50 : TI := ⟨1, [(.v (.int .u64 0))], .plain (.int .u64), false⟩
theorem ti50_ok : TI.ok Tryd.prog 50 ti50 := ⟨by kernel_rfl, by kernel_rfl, by kernel_rfl, by kernel_rfl, (fun _ => rfl), ⟨Tryd.underlying50, trivial⟩, (fun h => by cases h)⟩
def ti54 : TI := ⟨8, List.replicate 8 (.v (.int .u32 0)), .arr 8 45, true⟩
theorem ti54_ok : TI.ok Tryd.prog 54 ti54 := ⟨by kernel_rfl, by kernel_rfl, by kernel_rfl, by kernel_rfl, (fun h => by cases h), Tryd.underlying54, (fun _ => Tryd.eqGuardType54)⟩
def ti56 : TI := ⟨64, List.replicate 64 (.v (.int .u8 0)), .arr 64 5, true⟩
theorem ti56_ok : TI.ok Tryd.prog 56 ti56 := ⟨by kernel_rfl, by kernel_rfl, by kernel_rfl, by kernel_rfl, (fun h => by cases h), Tryd.underlying56, (fun _ => Tryd.eqGuardType56)⟩
def ti57 : TI := ⟨73, List.replicate 8 (.v (.int .u32 0)) ++ List.replicate 64 (.v (.int .u8 0)) ++ [(.v (.int .u64 0))], .str [(0, 54), (8, 56), (72, 33)], false⟩
theorem ti57_ok : TI.ok Tryd.prog 57 ti57 := ⟨by kernel_rfl, by kernel_rfl, by kernel_rfl, by kernel_rfl, (fun h => by cases h), ⟨_, Tryd.underlying57, rfl⟩, (fun h => by cases h)⟩
def ti58 : TI := ⟨73, List.replicate 8 (.v (.int .u32 0)) ++ List.replicate 64 (.v (.int .u8 0)) ++ [(.v (.int .u64 0))], .str [(0, 54), (8, 56), (72, 33)], false⟩
theorem ti58_ok : TI.ok Tryd.prog 58 ti58 := ⟨by kernel_rfl, by kernel_rfl, by kernel_rfl, by kernel_rfl, (fun h => by cases h), ⟨_, Tryd.underlying58, rfl⟩, (fun h => by cases h)⟩
def ti60 : TI := ⟨1, [(.v (.pointer none))], .plain (.pointer 54), false⟩
theorem ti60_ok : TI.ok Tryd.prog 60 ti60 := ⟨by kernel_rfl, by kernel_rfl, by kernel_rfl, by kernel_rfl, (fun _ => rfl), ⟨Tryd.underlying60, trivial⟩, (fun h => by cases h)⟩
def ti73 : TI := ⟨1, [(.v (.pointer none))], .plain (.pointer 5), false⟩
theorem ti73_ok : TI.ok Tryd.prog 73 ti73 := ⟨by kernel_rfl, by kernel_rfl, by kernel_rfl, by kernel_rfl, (fun _ => rfl), ⟨Tryd.underlying73, trivial⟩, (fun h => by cases h)⟩
def tys : Ty := [(2, ti2), (3, ti3), (4, ti4), (5, ti5), (9, ti9), (12, ti12), (21, ti21), (22, ti22), (24, ti24), (25, ti25), (30, ti30), (33, ti33), (37, ti37), (41, ti41), (45, ti45), (46, ti46), (47, ti47), (50, ti50), (54, ti54), (56, ti56), (57, ti57), (58, ti58), (60, ti60), (73, ti73)]
theorem tys_ok : tys.ok Tryd.prog := ⟨ti2_ok, ⟨ti3_ok, ⟨ti4_ok, ⟨ti5_ok, ⟨ti9_ok, ⟨ti12_ok, ⟨ti21_ok, ⟨ti22_ok, ⟨ti24_ok, ⟨ti25_ok, ⟨ti30_ok, ⟨ti33_ok, ⟨ti37_ok, ⟨ti41_ok, ⟨ti45_ok, ⟨ti46_ok, ⟨ti47_ok, ⟨ti50_ok, ⟨ti54_ok, ⟨ti56_ok, ⟨ti57_ok, ⟨ti58_ok, ⟨ti60_ok, ⟨ti73_ok, trivial⟩⟩⟩⟩⟩⟩⟩⟩⟩⟩⟩⟩⟩⟩⟩⟩⟩⟩⟩⟩⟩⟩⟩⟩
theorem mixed : Tryd.prog.follows .mixedOrders = true := by kernel_rfl
end Go.Proofs.YthlmepolmemejaaDoor

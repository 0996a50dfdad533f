/- The engine's table of types, by program (gen_ty.py) out of the seat's translation, and that it agrees with the program. -/
import Derived.Test.YtpmdelihcdaffaaDoorChecked
import Derived.Test.YtpmdelihcdaffaaDoorEngY
namespace Go.Proofs.YtpmdelihcdaffaaDoor
open Go.Eng
set_option maxRecDepth 100000

def ti2 : TI := ⟨1, [(.v (.int .i64 0))], .plain (.int .i64), false⟩
theorem ti2_ok : TI.ok Tryd.prog 2 ti2 := ⟨by kernel_rfl, by kernel_rfl, by kernel_rfl, by kernel_rfl, (fun _ => rfl), ⟨Tryd.underlying2, trivial⟩, (fun h => by cases h)⟩
def ti3 : TI := ⟨1, [(.v (.int .i64 0))], .plain (.int .i64), false⟩
theorem ti3_ok : TI.ok Tryd.prog 3 ti3 := ⟨by kernel_rfl, by kernel_rfl, by kernel_rfl, by kernel_rfl, (fun _ => rfl), ⟨Tryd.underlying3, trivial⟩, (fun h => by cases h)⟩
def ti4 : TI := ⟨1, [(.v (.bool false))], .plain (.bool), false⟩
theorem ti4_ok : TI.ok Tryd.prog 4 ti4 := ⟨by kernel_rfl, by kernel_rfl, by kernel_rfl, by kernel_rfl, (fun _ => rfl), ⟨Tryd.underlying4, trivial⟩, (fun h => by cases h)⟩
def ti5 : TI := ⟨1, [(.v (.int .u8 0))], .plain (.int .u8), false⟩
theorem ti5_ok : TI.ok Tryd.prog 5 ti5 := ⟨by kernel_rfl, by kernel_rfl, by kernel_rfl, by kernel_rfl, (fun _ => rfl), ⟨Tryd.underlying5, trivial⟩, (fun h => by cases h)⟩
def ti9 : TI := ⟨1, [(.v (.string ⟨#[]⟩))], .plain (.string), false⟩
theorem ti9_ok : TI.ok Tryd.prog 9 ti9 := ⟨by kernel_rfl, by kernel_rfl, by kernel_rfl, by kernel_rfl, (fun _ => rfl), ⟨Tryd.underlying9, trivial⟩, (fun h => by cases h)⟩
def ti12 : TI := ⟨1, [(.v (.int .u64 0))], .plain (.int .u64), false⟩
theorem ti12_ok : TI.ok Tryd.prog 12 ti12 := ⟨by kernel_rfl, by kernel_rfl, by kernel_rfl, by kernel_rfl, (fun _ => rfl), ⟨Tryd.underlying12, trivial⟩, (fun h => by cases h)⟩
def ti21 : TI := ⟨1, [(.v (.int .i32 0))], .plain (.int .i32), false⟩
theorem ti21_ok : TI.ok Tryd.prog 21 ti21 := ⟨by kernel_rfl, by kernel_rfl, by kernel_rfl, by kernel_rfl, (fun _ => rfl), ⟨Tryd.underlying21, trivial⟩, (fun h => by cases h)⟩
def ti22 : TI := ⟨1, [(.v (.slice none 0 0))], .plain (.slice 26), false⟩
theorem ti22_ok : TI.ok Tryd.prog 22 ti22 := ⟨by kernel_rfl, by kernel_rfl, by kernel_rfl, by kernel_rfl, (fun _ => rfl), ⟨Tryd.underlying22, trivial⟩, (fun h => by cases h)⟩
def ti24 : TI := ⟨1, [(.v (.pointer none))], .plain (.pointer 51), false⟩
theorem ti24_ok : TI.ok Tryd.prog 24 ti24 := ⟨by kernel_rfl, by kernel_rfl, by kernel_rfl, by kernel_rfl, (fun _ => rfl), ⟨Tryd.underlying24, trivial⟩, (fun h => by cases h)⟩
def ti26 : TI := ⟨1, [(.v (.slice none 0 0))], .plain (.slice 5), false⟩
theorem ti26_ok : TI.ok Tryd.prog 26 ti26 := ⟨by kernel_rfl, by kernel_rfl, by kernel_rfl, by kernel_rfl, (fun _ => rfl), ⟨Tryd.underlying26, trivial⟩, (fun h => by cases h)⟩
def ti28 : TI := ⟨32, List.replicate 32 (.v (.int .u8 0)), .arr 32 5, true⟩
theorem ti28_ok : TI.ok Tryd.prog 28 ti28 := ⟨by kernel_rfl, by kernel_rfl, by kernel_rfl, by kernel_rfl, (fun h => by cases h), Tryd.underlying28, (fun _ => Tryd.eqGuardType28)⟩
def ti31 : TI := ⟨1, [(.v (.int .u64 0))], .plain (.int .u64), false⟩
theorem ti31_ok : TI.ok Tryd.prog 31 ti31 := ⟨by kernel_rfl, by kernel_rfl, by kernel_rfl, by kernel_rfl, (fun _ => rfl), ⟨Tryd.underlying31, trivial⟩, (fun h => by cases h)⟩
def ti38 : TI := ⟨64, List.replicate 64 (.v (.int .u8 0)), .arr 64 5, true⟩
theorem ti38_ok : TI.ok Tryd.prog 38 ti38 := ⟨by kernel_rfl, by kernel_rfl, by kernel_rfl, by kernel_rfl, (fun h => by cases h), Tryd.underlying38, (fun _ => Tryd.eqGuardType38)⟩
def ti41 : TI := ⟨1, [(.v (.slice none 0 0))], .plain (.slice 28), false⟩
theorem ti41_ok : TI.ok Tryd.prog 41 ti41 := ⟨by kernel_rfl, by kernel_rfl, by kernel_rfl, by kernel_rfl, (fun _ => rfl), ⟨Tryd.underlying41, trivial⟩, (fun h => by cases h)⟩
def ti42 : TI := ⟨1, [(.v (.int .i64 0))], .plain (.int .i64), false⟩
theorem ti42_ok : TI.ok Tryd.prog 42 ti42 := ⟨by kernel_rfl, by kernel_rfl, by kernel_rfl, by kernel_rfl, (fun _ => rfl), ⟨Tryd.underlying42, trivial⟩, (fun h => by cases h)⟩
def ti46 : TI := ⟨1, [(.v (.int .u32 0))], .plain (.int .u32), false⟩
theorem ti46_ok : TI.ok Tryd.prog 46 ti46 := ⟨by kernel_rfl, by kernel_rfl, by kernel_rfl, by kernel_rfl, (fun _ => rfl), ⟨Tryd.underlying46, trivial⟩, (fun h => by cases h)⟩
def ti47 : TI := ⟨8, List.replicate 8 (.v (.int .u32 0)), .arr 8 46, true⟩
theorem ti47_ok : TI.ok Tryd.prog 47 ti47 := ⟨by kernel_rfl, by kernel_rfl, by kernel_rfl, by kernel_rfl, (fun h => by cases h), Tryd.underlying47, (fun _ => Tryd.eqGuardType47)⟩
def ti48 : TI := ⟨8, List.replicate 8 (.v (.int .u32 0)), .arr 8 46, true⟩
theorem ti48_ok : TI.ok Tryd.prog 48 ti48 := ⟨by kernel_rfl, by kernel_rfl, by kernel_rfl, by kernel_rfl, (fun h => by cases h), Tryd.underlying48, (fun _ => Tryd.eqGuardType48)⟩
def ti50 : TI := ⟨73, [(.v (.int .u32 0)), (.v (.int .u32 0)), (.v (.int .u32 0)), (.v (.int .u32 0)), (.v (.int .u32 0)), (.v (.int .u32 0)), (.v (.int .u32 0)), (.v (.int .u32 0)), (.v (.int .u8 0)), (.v (.int .u8 0)), (.v (.int .u8 0)), (.v (.int .u8 0)), (.v (.int .u8 0)), (.v (.int .u8 0)), (.v (.int .u8 0)), (.v (.int .u8 0)), (.v (.int .u8 0)), (.v (.int .u8 0)), (.v (.int .u8 0)), (.v (.int .u8 0)), (.v (.int .u8 0)), (.v (.int .u8 0)), (.v (.int .u8 0)), (.v (.int .u8 0)), (.v (.int .u8 0)), (.v (.int .u8 0)), (.v (.int .u8 0)), (.v (.int .u8 0)), (.v (.int .u8 0)), (.v (.int .u8 0)), (.v (.int .u8 0)), (.v (.int .u8 0)), (.v (.int .u8 0)), (.v (.int .u8 0)), (.v (.int .u8 0)), (.v (.int .u8 0)), (.v (.int .u8 0)), (.v (.int .u8 0)), (.v (.int .u8 0)), (.v (.int .u8 0)), (.v (.int .u8 0)), (.v (.int .u8 0)), (.v (.int .u8 0)), (.v (.int .u8 0)), (.v (.int .u8 0)), (.v (.int .u8 0)), (.v (.int .u8 0)), (.v (.int .u8 0)), (.v (.int .u8 0)), (.v (.int .u8 0)), (.v (.int .u8 0)), (.v (.int .u8 0)), (.v (.int .u8 0)), (.v (.int .u8 0)), (.v (.int .u8 0)), (.v (.int .u8 0)), (.v (.int .u8 0)), (.v (.int .u8 0)), (.v (.int .u8 0)), (.v (.int .u8 0)), (.v (.int .u8 0)), (.v (.int .u8 0)), (.v (.int .u8 0)), (.v (.int .u8 0)), (.v (.int .u8 0)), (.v (.int .u8 0)), (.v (.int .u8 0)), (.v (.int .u8 0)), (.v (.int .u8 0)), (.v (.int .u8 0)), (.v (.int .u8 0)), (.v (.int .u8 0)), (.v (.int .u64 0))], .str [(0, 48), (8, 38), (72, 31)], false⟩
theorem ti50_ok : TI.ok Tryd.prog 50 ti50 := ⟨by kernel_rfl, by kernel_rfl, by kernel_rfl, by kernel_rfl, (fun h => by cases h), ⟨_, Tryd.underlying50, rfl⟩, (fun h => by cases h)⟩
def ti51 : TI := ⟨73, [(.v (.int .u32 0)), (.v (.int .u32 0)), (.v (.int .u32 0)), (.v (.int .u32 0)), (.v (.int .u32 0)), (.v (.int .u32 0)), (.v (.int .u32 0)), (.v (.int .u32 0)), (.v (.int .u8 0)), (.v (.int .u8 0)), (.v (.int .u8 0)), (.v (.int .u8 0)), (.v (.int .u8 0)), (.v (.int .u8 0)), (.v (.int .u8 0)), (.v (.int .u8 0)), (.v (.int .u8 0)), (.v (.int .u8 0)), (.v (.int .u8 0)), (.v (.int .u8 0)), (.v (.int .u8 0)), (.v (.int .u8 0)), (.v (.int .u8 0)), (.v (.int .u8 0)), (.v (.int .u8 0)), (.v (.int .u8 0)), (.v (.int .u8 0)), (.v (.int .u8 0)), (.v (.int .u8 0)), (.v (.int .u8 0)), (.v (.int .u8 0)), (.v (.int .u8 0)), (.v (.int .u8 0)), (.v (.int .u8 0)), (.v (.int .u8 0)), (.v (.int .u8 0)), (.v (.int .u8 0)), (.v (.int .u8 0)), (.v (.int .u8 0)), (.v (.int .u8 0)), (.v (.int .u8 0)), (.v (.int .u8 0)), (.v (.int .u8 0)), (.v (.int .u8 0)), (.v (.int .u8 0)), (.v (.int .u8 0)), (.v (.int .u8 0)), (.v (.int .u8 0)), (.v (.int .u8 0)), (.v (.int .u8 0)), (.v (.int .u8 0)), (.v (.int .u8 0)), (.v (.int .u8 0)), (.v (.int .u8 0)), (.v (.int .u8 0)), (.v (.int .u8 0)), (.v (.int .u8 0)), (.v (.int .u8 0)), (.v (.int .u8 0)), (.v (.int .u8 0)), (.v (.int .u8 0)), (.v (.int .u8 0)), (.v (.int .u8 0)), (.v (.int .u8 0)), (.v (.int .u8 0)), (.v (.int .u8 0)), (.v (.int .u8 0)), (.v (.int .u8 0)), (.v (.int .u8 0)), (.v (.int .u8 0)), (.v (.int .u8 0)), (.v (.int .u8 0)), (.v (.int .u64 0))], .str [(0, 48), (8, 38), (72, 31)], false⟩
theorem ti51_ok : TI.ok Tryd.prog 51 ti51 := ⟨by kernel_rfl, by kernel_rfl, by kernel_rfl, by kernel_rfl, (fun h => by cases h), ⟨_, Tryd.underlying51, rfl⟩, (fun h => by cases h)⟩
def ti53 : TI := ⟨64, List.replicate 64 (.v (.int .u32 0)), .arr 64 46, true⟩
theorem ti53_ok : TI.ok Tryd.prog 53 ti53 := ⟨by kernel_rfl, by kernel_rfl, by kernel_rfl, by kernel_rfl, (fun h => by cases h), Tryd.underlying53, (fun _ => Tryd.eqGuardType53)⟩
def ti56 : TI := ⟨1, [(.v (.int .u64 0))], .plain (.int .u64), false⟩
theorem ti56_ok : TI.ok Tryd.prog 56 ti56 := ⟨by kernel_rfl, by kernel_rfl, by kernel_rfl, by kernel_rfl, (fun _ => rfl), ⟨Tryd.underlying56, trivial⟩, (fun h => by cases h)⟩
def ti58 : TI := ⟨2, [(.v (.pointer none)), (.v (.pointer none))], .arr 2 24, true⟩
theorem ti58_ok : TI.ok Tryd.prog 58 ti58 := ⟨by kernel_rfl, by kernel_rfl, by kernel_rfl, by kernel_rfl, (fun h => by cases h), Tryd.underlying58, (fun _ => Tryd.eqGuardType58)⟩
def ti59 : TI := ⟨2, [(.v (.int .u8 0)), (.v (.int .u8 0))], .arr 2 5, true⟩
theorem ti59_ok : TI.ok Tryd.prog 59 ti59 := ⟨by kernel_rfl, by kernel_rfl, by kernel_rfl, by kernel_rfl, (fun h => by cases h), Tryd.underlying59, (fun _ => Tryd.eqGuardType59)⟩
def ti60 : TI := ⟨8, List.replicate 8 (.v (.int .u64 0)), .arr 8 31, true⟩
theorem ti60_ok : TI.ok Tryd.prog 60 ti60 := ⟨by kernel_rfl, by kernel_rfl, by kernel_rfl, by kernel_rfl, (fun h => by cases h), Tryd.underlying60, (fun _ => Tryd.eqGuardType60)⟩
def ti61 : TI := ⟨8, List.replicate 8 (.v (.int .u64 0)), .arr 8 31, true⟩
theorem ti61_ok : TI.ok Tryd.prog 61 ti61 := ⟨by kernel_rfl, by kernel_rfl, by kernel_rfl, by kernel_rfl, (fun h => by cases h), Tryd.underlying61, (fun _ => Tryd.eqGuardType61)⟩
def ti62 : TI := ⟨80, List.replicate 80 (.v (.int .u64 0)), .arr 80 31, true⟩
theorem ti62_ok : TI.ok Tryd.prog 62 ti62 := ⟨by kernel_rfl, by kernel_rfl, by kernel_rfl, by kernel_rfl, (fun h => by cases h), Tryd.underlying62, (fun _ => Tryd.eqGuardType62)⟩
def ti69 : TI := ⟨1, [(.v (.pointer none))], .plain (.pointer 48), false⟩
theorem ti69_ok : TI.ok Tryd.prog 69 ti69 := ⟨by kernel_rfl, by kernel_rfl, by kernel_rfl, by kernel_rfl, (fun _ => rfl), ⟨Tryd.underlying69, trivial⟩, (fun h => by cases h)⟩
def ti72 : TI := ⟨1, [(.v (.pointer none))], .plain (.pointer 61), false⟩
theorem ti72_ok : TI.ok Tryd.prog 72 ti72 := ⟨by kernel_rfl, by kernel_rfl, by kernel_rfl, by kernel_rfl, (fun _ => rfl), ⟨Tryd.underlying72, trivial⟩, (fun h => by cases h)⟩
def ti90 : TI := ⟨1, [(.v (.pointer none))], .plain (.pointer 5), false⟩
theorem ti90_ok : TI.ok Tryd.prog 90 ti90 := ⟨by kernel_rfl, by kernel_rfl, by kernel_rfl, by kernel_rfl, (fun _ => rfl), ⟨Tryd.underlying90, trivial⟩, (fun h => by cases h)⟩
def tys : Ty := [(2, ti2), (3, ti3), (4, ti4), (5, ti5), (9, ti9), (12, ti12), (21, ti21), (22, ti22), (24, ti24), (26, ti26), (28, ti28), (31, ti31), (38, ti38), (41, ti41), (42, ti42), (46, ti46), (47, ti47), (48, ti48), (50, ti50), (51, ti51), (53, ti53), (56, ti56), (58, ti58), (59, ti59), (60, ti60), (61, ti61), (62, ti62), (69, ti69), (72, ti72), (90, ti90)]
theorem tys_ok : tys.ok Tryd.prog := ⟨ti2_ok, ⟨ti3_ok, ⟨ti4_ok, ⟨ti5_ok, ⟨ti9_ok, ⟨ti12_ok, ⟨ti21_ok, ⟨ti22_ok, ⟨ti24_ok, ⟨ti26_ok, ⟨ti28_ok, ⟨ti31_ok, ⟨ti38_ok, ⟨ti41_ok, ⟨ti42_ok, ⟨ti46_ok, ⟨ti47_ok, ⟨ti48_ok, ⟨ti50_ok, ⟨ti51_ok, ⟨ti53_ok, ⟨ti56_ok, ⟨ti58_ok, ⟨ti59_ok, ⟨ti60_ok, ⟨ti61_ok, ⟨ti62_ok, ⟨ti69_ok, ⟨ti72_ok, ⟨ti90_ok, trivial⟩⟩⟩⟩⟩⟩⟩⟩⟩⟩⟩⟩⟩⟩⟩⟩⟩⟩⟩⟩⟩⟩⟩⟩⟩⟩⟩⟩⟩⟩
theorem mixed : Tryd.prog.follows .mixedOrders = true := by kernel_rfl
end Go.Proofs.YtpmdelihcdaffaaDoor

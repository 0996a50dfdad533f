/- The engine's table of types, by program (gen_ty.py) out of the seat's translation, and that it agrees with the program. -/
import Derived.Test.YtmfobbdgmedhdaaChecked
import Derived.Test.YtmfobbdgmedhdaaEng
namespace Go.Proofs.Ytmfobbdgmedhdaa
open Go.Eng
set_option maxRecDepth 100000

def ti2 : TI := ⟨1, [(.v (.int .i64 0))], .plain (.int .i64), false⟩
theorem ti2_ok : TI.ok Try.prog 2 ti2 := ⟨by kernel_rfl, by kernel_rfl, by kernel_rfl, by kernel_rfl, (fun _ => rfl), ⟨Try.underlying2, trivial⟩, (fun h => by cases h)⟩
def ti3 : TI := ⟨1, [(.v (.int .i64 0))], .plain (.int .i64), false⟩
theorem ti3_ok : TI.ok Try.prog 3 ti3 := ⟨by kernel_rfl, by kernel_rfl, by kernel_rfl, by kernel_rfl, (fun _ => rfl), ⟨Try.underlying3, trivial⟩, (fun h => by cases h)⟩
def ti4 : TI := ⟨1, [(.v (.bool false))], .plain (.bool), false⟩
theorem ti4_ok : TI.ok Try.prog 4 ti4 := ⟨by kernel_rfl, by kernel_rfl, by kernel_rfl, by kernel_rfl, (fun _ => rfl), ⟨Try.underlying4, trivial⟩, (fun h => by cases h)⟩
def ti5 : TI := ⟨1, [(.v (.int .u8 0))], .plain (.int .u8), false⟩
theorem ti5_ok : TI.ok Try.prog 5 ti5 := ⟨by kernel_rfl, by kernel_rfl, by kernel_rfl, by kernel_rfl, (fun _ => rfl), ⟨Try.underlying5, trivial⟩, (fun h => by cases h)⟩
def ti9 : TI := ⟨1, [(.v (.string ⟨#[]⟩))], .plain (.string), false⟩
theorem ti9_ok : TI.ok Try.prog 9 ti9 := ⟨by kernel_rfl, by kernel_rfl, by kernel_rfl, by kernel_rfl, (fun _ => rfl), ⟨Try.underlying9, trivial⟩, (fun h => by cases h)⟩
def ti12 : TI := ⟨1, [(.v (.int .u64 0))], .plain (.int .u64), false⟩
theorem ti12_ok : TI.ok Try.prog 12 ti12 := ⟨by kernel_rfl, by kernel_rfl, by kernel_rfl, by kernel_rfl, (fun _ => rfl), ⟨Try.underlying12, trivial⟩, (fun h => by cases h)⟩
def ti21 : TI := ⟨1, [(.v (.int .i32 0))], .plain (.int .i32), false⟩
theorem ti21_ok : TI.ok Try.prog 21 ti21 := ⟨by kernel_rfl, by kernel_rfl, by kernel_rfl, by kernel_rfl, (fun _ => rfl), ⟨Try.underlying21, trivial⟩, (fun h => by cases h)⟩
def ti22 : TI := ⟨32, List.replicate 32 (.v (.int .u8 0)), .arr 32 5, true⟩
theorem ti22_ok : TI.ok Try.prog 22 ti22 := ⟨by kernel_rfl, by kernel_rfl, by kernel_rfl, by kernel_rfl, (fun h => by cases h), Try.underlying22, (fun _ => Try.eqGuardType22)⟩
def ti29 : TI := ⟨1, [(.v (.int .i64 0))], .plain (.int .i64), false⟩
theorem ti29_ok : TI.ok Try.prog 29 ti29 := ⟨by kernel_rfl, by kernel_rfl, by kernel_rfl, by kernel_rfl, (fun _ => rfl), ⟨Try.underlying29, trivial⟩, (fun h => by cases h)⟩
def ti38 : TI := ⟨1, [(.v (.int .u64 0))], .plain (.int .u64), false⟩
theorem ti38_ok : TI.ok Try.prog 38 ti38 := ⟨by kernel_rfl, by kernel_rfl, by kernel_rfl, by kernel_rfl, (fun _ => rfl), ⟨Try.underlying38, trivial⟩, (fun h => by cases h)⟩
def ti39 : TI := ⟨5, List.replicate 5 (.v (.int .u64 0)), .arr 5 38, true⟩
theorem ti39_ok : TI.ok Try.prog 39 ti39 := ⟨by kernel_rfl, by kernel_rfl, by kernel_rfl, by kernel_rfl, (fun h => by cases h), Try.underlying39, (fun _ => Try.eqGuardType39)⟩
def ti40 : TI := ⟨5, List.replicate 5 (.v (.int .u64 0)), .arr 5 38, true⟩
theorem ti40_ok : TI.ok Try.prog 40 ti40 := ⟨by kernel_rfl, by kernel_rfl, by kernel_rfl, by kernel_rfl, (fun h => by cases h), Try.underlying40, (fun _ => Try.eqGuardType40)⟩
def ti46 : TI := ⟨4, [(.v (.int .u64 0)), (.v (.int .u64 0)), (.v (.int .u64 0)), (.v (.int .u64 0))], .arr 4 38, true⟩
theorem ti46_ok : TI.ok Try.prog 46 ti46 := ⟨by kernel_rfl, by kernel_rfl, by kernel_rfl, by kernel_rfl, (fun h => by cases h), Try.underlying46, (fun _ => Try.eqGuardType46)⟩
def ti47 : TI := ⟨4, [(.v (.int .u64 0)), (.v (.int .u64 0)), (.v (.int .u64 0)), (.v (.int .u64 0))], .arr 4 38, true⟩
theorem ti47_ok : TI.ok Try.prog 47 ti47 := ⟨by kernel_rfl, by kernel_rfl, by kernel_rfl, by kernel_rfl, (fun h => by cases h), Try.underlying47, (fun _ => Try.eqGuardType47)⟩
def ti57 : TI := ⟨20, List.replicate 20 (.v (.int .u64 0)), .str [(0, 40), (5, 40), (10, 40), (15, 40)], false⟩
theorem ti57_ok : TI.ok Try.prog 57 ti57 := ⟨by kernel_rfl, by kernel_rfl, by kernel_rfl, by kernel_rfl, (fun h => by cases h), ⟨_, Try.underlying57, rfl⟩, (fun h => by cases h)⟩
def ti58 : TI := ⟨20, List.replicate 20 (.v (.int .u64 0)), .str [(0, 40), (5, 40), (10, 40), (15, 40)], false⟩
theorem ti58_ok : TI.ok Try.prog 58 ti58 := ⟨by kernel_rfl, by kernel_rfl, by kernel_rfl, by kernel_rfl, (fun h => by cases h), ⟨_, Try.underlying58, rfl⟩, (fun h => by cases h)⟩
def ti65 : TI := ⟨4, [(.v (.int .u64 0)), (.v (.int .u64 0)), (.v (.int .u64 0)), (.v (.int .u64 0))], .arr 4 38, true⟩
theorem ti65_ok : TI.ok Try.prog 65 ti65 := ⟨by kernel_rfl, by kernel_rfl, by kernel_rfl, by kernel_rfl, (fun h => by cases h), Try.underlying65, (fun _ => Try.eqGuardType65)⟩
def ti68 : TI := ⟨1, [(.v (.slice none 0 0))], .plain (.slice 5), false⟩
theorem ti68_ok : TI.ok Try.prog 68 ti68 := ⟨by kernel_rfl, by kernel_rfl, by kernel_rfl, by kernel_rfl, (fun _ => rfl), ⟨Try.underlying68, trivial⟩, (fun h => by cases h)⟩
def ti69 : TI := ⟨1, [(.v (.int .u64 0))], .plain (.int .u64), false⟩
theorem ti69_ok : TI.ok Try.prog 69 ti69 := ⟨by kernel_rfl, by kernel_rfl, by kernel_rfl, by kernel_rfl, (fun _ => rfl), ⟨Try.underlying69, trivial⟩, (fun h => by cases h)⟩
def ti70 : TI := ⟨16, List.replicate 16 (.v (.int .u64 0)), .str [(0, 47), (4, 47), (8, 47), (12, 47)], false⟩
theorem ti70_ok : TI.ok Try.prog 70 ti70 := ⟨by kernel_rfl, by kernel_rfl, by kernel_rfl, by kernel_rfl, (fun h => by cases h), ⟨_, Try.underlying70, rfl⟩, (fun h => by cases h)⟩
def ti71 : TI := ⟨16, List.replicate 16 (.v (.int .u64 0)), .str [(0, 47), (4, 47), (8, 47), (12, 47)], false⟩
theorem ti71_ok : TI.ok Try.prog 71 ti71 := ⟨by kernel_rfl, by kernel_rfl, by kernel_rfl, by kernel_rfl, (fun h => by cases h), ⟨_, Try.underlying71, rfl⟩, (fun h => by cases h)⟩
def ti79 : TI := ⟨1, [(.v (.slice none 0 0))], .plain (.slice 38), false⟩
theorem ti79_ok : TI.ok Try.prog 79 ti79 := ⟨by kernel_rfl, by kernel_rfl, by kernel_rfl, by kernel_rfl, (fun _ => rfl), ⟨Try.underlying79, trivial⟩, (fun h => by cases h)⟩
def ti80 : TI := ⟨2, [(.v (.int .u64 0)), (.v (.int .u64 0))], .str [(0, 38), (1, 38)], false⟩
theorem ti80_ok : TI.ok Try.prog 80 ti80 := ⟨by kernel_rfl, by kernel_rfl, by kernel_rfl, by kernel_rfl, (fun h => by cases h), ⟨_, Try.underlying80, rfl⟩, (fun h => by cases h)⟩
def ti81 : TI := ⟨2, [(.v (.int .u64 0)), (.v (.int .u64 0))], .str [(0, 38), (1, 38)], false⟩
theorem ti81_ok : TI.ok Try.prog 81 ti81 := ⟨by kernel_rfl, by kernel_rfl, by kernel_rfl, by kernel_rfl, (fun h => by cases h), ⟨_, Try.underlying81, rfl⟩, (fun h => by cases h)⟩
def ti83 : TI := ⟨10, List.replicate 10 (.v (.int .u64 0)), .arr 5 81, true⟩
theorem ti83_ok : TI.ok Try.prog 83 ti83 := ⟨by kernel_rfl, by kernel_rfl, by kernel_rfl, by kernel_rfl, (fun h => by cases h), Try.underlying83, (fun _ => Try.eqGuardType83)⟩
def ti92 : TI := ⟨8, List.replicate 8 (.v (.int .u64 0)), .arr 8 38, true⟩
theorem ti92_ok : TI.ok Try.prog 92 ti92 := ⟨by kernel_rfl, by kernel_rfl, by kernel_rfl, by kernel_rfl, (fun h => by cases h), Try.underlying92, (fun _ => Try.eqGuardType92)⟩
def ti94 : TI := ⟨320, List.replicate 320 (.v (.int .u64 0)), .arr 16 58, true⟩
theorem ti94_ok : TI.ok Try.prog 94 ti94 := ⟨by kernel_rfl, by kernel_rfl, by kernel_rfl, by kernel_rfl, (fun h => by cases h), Try.underlying94, (fun _ => Try.eqGuardType94)⟩
def ti95 : TI := ⟨2, [(.v (.int .u8 0)), (.v (.int .u8 0))], .arr 2 5, true⟩
theorem ti95_ok : TI.ok Try.prog 95 ti95 := ⟨by kernel_rfl, by kernel_rfl, by kernel_rfl, by kernel_rfl, (fun h => by cases h), Try.underlying95, (fun _ => Try.eqGuardType95)⟩
def ti106 : TI := ⟨1, [(.v (.int .u32 0))], .plain (.int .u32), false⟩
theorem ti106_ok : TI.ok Try.prog 106 ti106 := ⟨by kernel_rfl, by kernel_rfl, by kernel_rfl, by kernel_rfl, (fun _ => rfl), ⟨Try.underlying106, trivial⟩, (fun h => by cases h)⟩
def ti110 : TI := ⟨1, [(.v (.pointer none))], .plain (.pointer 5), false⟩
theorem ti110_ok : TI.ok Try.prog 110 ti110 := ⟨by kernel_rfl, by kernel_rfl, by kernel_rfl, by kernel_rfl, (fun _ => rfl), ⟨Try.underlying110, trivial⟩, (fun h => by cases h)⟩
def tys : Ty := [(2, ti2), (3, ti3), (4, ti4), (5, ti5), (9, ti9), (12, ti12), (21, ti21), (22, ti22), (29, ti29), (38, ti38), (39, ti39), (40, ti40), (46, ti46), (47, ti47), (57, ti57), (58, ti58), (65, ti65), (68, ti68), (69, ti69), (70, ti70), (71, ti71), (79, ti79), (80, ti80), (81, ti81), (83, ti83), (92, ti92), (94, ti94), (95, ti95), (106, ti106), (110, ti110)]
theorem tys_ok : tys.ok Try.prog := ⟨ti2_ok, ⟨ti3_ok, ⟨ti4_ok, ⟨ti5_ok, ⟨ti9_ok, ⟨ti12_ok, ⟨ti21_ok, ⟨ti22_ok, ⟨ti29_ok, ⟨ti38_ok, ⟨ti39_ok, ⟨ti40_ok, ⟨ti46_ok, ⟨ti47_ok, ⟨ti57_ok, ⟨ti58_ok, ⟨ti65_ok, ⟨ti68_ok, ⟨ti69_ok, ⟨ti70_ok, ⟨ti71_ok, ⟨ti79_ok, ⟨ti80_ok, ⟨ti81_ok, ⟨ti83_ok, ⟨ti92_ok, ⟨ti94_ok, ⟨ti95_ok, ⟨ti106_ok, ⟨ti110_ok, trivial⟩⟩⟩⟩⟩⟩⟩⟩⟩⟩⟩⟩⟩⟩⟩⟩⟩⟩⟩⟩⟩⟩⟩⟩⟩⟩⟩⟩⟩⟩
theorem mixed : Try.prog.follows .mixedOrders = true := by kernel_rfl
end Go.Proofs.Ytmfobbdgmedhdaa

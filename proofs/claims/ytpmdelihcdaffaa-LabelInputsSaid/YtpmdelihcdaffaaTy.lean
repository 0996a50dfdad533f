/- The engine's table of types, by program (gen_ty.py) out of the seat's translation, and that it agrees with the program. -/
import Derived.Test.YtpmdelihcdaffaaChecked
import Derived.Test.YtpmdelihcdaffaaEngY
namespace Go.Proofs.Ytpmdelihcdaffaa
open Go.Eng
set_option maxRecDepth 100000

def ti2 : TI := ⟨1, [(.v (.int .i64 0))], .plain (.int .i64), false⟩
theorem ti2_ok : TI.ok Try.prog 2 ti2 := ⟨by kernel_rfl, by kernel_rfl, by kernel_rfl, by kernel_rfl, (fun _ => rfl), ⟨Try.underlying2, trivial⟩, (fun h => by cases h)⟩
def ti3 : TI := ⟨1, [(.v (.int .i64 0))], .plain (.int .i64), false⟩
theorem ti3_ok : TI.ok Try.prog 3 ti3 := ⟨by kernel_rfl, by kernel_rfl, by kernel_rfl, by kernel_rfl, (fun _ => rfl), ⟨Try.underlying3, trivial⟩, (fun h => by cases h)⟩
def ti4 : TI := ⟨1, [(.v (.bool false))], .plain (.bool), false⟩
theorem ti4_ok : TI.ok Try.prog 4 ti4 := ⟨by kernel_rfl, by kernel_rfl, by kernel_rfl, by kernel_rfl, (fun _ => rfl), ⟨Try.underlying4, trivial⟩, (fun h => by cases h)⟩
def ti5 : TI := ⟨1, [(.v (.int .u8 0))], .plain (.int .u8), false⟩
theorem ti5_ok : TI.ok Try.prog 5 ti5 := ⟨by kernel_rfl, by kernel_rfl, by kernel_rfl, by kernel_rfl, (fun _ => rfl), ⟨Try.underlying5, trivial⟩, (fun h => by cases h)⟩
def ti9 : TI := ⟨1, [(.v (.string ⟨#[]⟩))], .plain (.string), false⟩
theorem ti9_ok : TI.ok Try.prog 9 ti9 := ⟨by kernel_rfl, by kernel_rfl, by kernel_rfl, by kernel_rfl, (fun _ => rfl), ⟨Try.underlying9, trivial⟩, (fun h => by cases h)⟩
def ti12 : TI := ⟨1, [(.v (.int .u64 0))], .plain (.int .u64), false⟩
theorem ti12_ok : TI.ok Try.prog 12 ti12 := ⟨by kernel_rfl, by kernel_rfl, by kernel_rfl, by kernel_rfl, (fun _ => rfl), ⟨Try.underlying12, trivial⟩, (fun h => by cases h)⟩
def ti21 : TI := ⟨1, [(.v (.int .i32 0))], .plain (.int .i32), false⟩
theorem ti21_ok : TI.ok Try.prog 21 ti21 := ⟨by kernel_rfl, by kernel_rfl, by kernel_rfl, by kernel_rfl, (fun _ => rfl), ⟨Try.underlying21, trivial⟩, (fun h => by cases h)⟩
def ti22 : TI := ⟨1, [(.v (.int .u64 0))], .plain (.int .u64), false⟩
theorem ti22_ok : TI.ok Try.prog 22 ti22 := ⟨by kernel_rfl, by kernel_rfl, by kernel_rfl, by kernel_rfl, (fun _ => rfl), ⟨Try.underlying22, trivial⟩, (fun h => by cases h)⟩
def ti24 : TI := ⟨1, [(.v (.slice none 0 0))], .plain (.slice 5), false⟩
theorem ti24_ok : TI.ok Try.prog 24 ti24 := ⟨by kernel_rfl, by kernel_rfl, by kernel_rfl, by kernel_rfl, (fun _ => rfl), ⟨Try.underlying24, trivial⟩, (fun h => by cases h)⟩
def ti25 : TI := ⟨1, [(.v (.int .i64 0))], .plain (.int .i64), false⟩
theorem ti25_ok : TI.ok Try.prog 25 ti25 := ⟨by kernel_rfl, by kernel_rfl, by kernel_rfl, by kernel_rfl, (fun _ => rfl), ⟨Try.underlying25, trivial⟩, (fun h => by cases h)⟩
def ti32 : TI := ⟨1, [(.v (.slice none 0 0))], .plain (.slice 24), false⟩
theorem ti32_ok : TI.ok Try.prog 32 ti32 := ⟨by kernel_rfl, by kernel_rfl, by kernel_rfl, by kernel_rfl, (fun _ => rfl), ⟨Try.underlying32, trivial⟩, (fun h => by cases h)⟩
def ti34 : TI := ⟨1, [(.v (.int .u64 0))], .plain (.int .u64), false⟩
theorem ti34_ok : TI.ok Try.prog 34 ti34 := ⟨by kernel_rfl, by kernel_rfl, by kernel_rfl, by kernel_rfl, (fun _ => rfl), ⟨Try.underlying34, trivial⟩, (fun h => by cases h)⟩
def ti36 : TI := ⟨1, [(.v (.int .u32 0))], .plain (.int .u32), false⟩
theorem ti36_ok : TI.ok Try.prog 36 ti36 := ⟨by kernel_rfl, by kernel_rfl, by kernel_rfl, by kernel_rfl, (fun _ => rfl), ⟨Try.underlying36, trivial⟩, (fun h => by cases h)⟩
def ti47 : TI := ⟨1, [(.v (.pointer none))], .plain (.pointer 5), false⟩
theorem ti47_ok : TI.ok Try.prog 47 ti47 := ⟨by kernel_rfl, by kernel_rfl, by kernel_rfl, by kernel_rfl, (fun _ => rfl), ⟨Try.underlying47, trivial⟩, (fun h => by cases h)⟩
def tys : Ty := [(2, ti2), (3, ti3), (4, ti4), (5, ti5), (9, ti9), (12, ti12), (21, ti21), (22, ti22), (24, ti24), (25, ti25), (32, ti32), (34, ti34), (36, ti36), (47, ti47)]
theorem tys_ok : tys.ok Try.prog := ⟨ti2_ok, ⟨ti3_ok, ⟨ti4_ok, ⟨ti5_ok, ⟨ti9_ok, ⟨ti12_ok, ⟨ti21_ok, ⟨ti22_ok, ⟨ti24_ok, ⟨ti25_ok, ⟨ti32_ok, ⟨ti34_ok, ⟨ti36_ok, ⟨ti47_ok, trivial⟩⟩⟩⟩⟩⟩⟩⟩⟩⟩⟩⟩⟩⟩
theorem mixed : Try.prog.follows .mixedOrders = true := by kernel_rfl
end Go.Proofs.Ytpmdelihcdaffaa

/- The engine's table of types, by program (gen_ty.py) out of the seat's translation, and that it agrees with the program. -/
import Derived.Test.YtdccehmekkcheaaDoorChecked
import Derived.Test.YtdccehmekkcheaaDoorCEngY
namespace Go.Proofs.YtdccehmekkcheaaDoor
open Go.Eng
set_option maxRecDepth 100000
def ti2:TI:=⟨1,[(.v (.int .i64 0))],.plain (.int .i64),false⟩
theorem ti2_ok:TI.ok Tryd.prog 2 ti2:=⟨by kernel_rfl,by kernel_rfl,by kernel_rfl,by kernel_rfl,(fun _=>rfl),⟨Tryd.underlying2,trivial⟩,(fun h=>by cases h)⟩
def ti3:TI:=⟨1,[(.v (.int .i64 0))],.plain (.int .i64),false⟩
theorem ti3_ok:TI.ok Tryd.prog 3 ti3:=⟨by kernel_rfl,by kernel_rfl,by kernel_rfl,by kernel_rfl,(fun _=>rfl),⟨Tryd.underlying3,trivial⟩,(fun h=>by cases h)⟩
def ti4:TI:=⟨1,[(.v (.bool false))],.plain (.bool),false⟩
theorem ti4_ok:TI.ok Tryd.prog 4 ti4:=⟨by kernel_rfl,by kernel_rfl,by kernel_rfl,by kernel_rfl,(fun _=>rfl),⟨Tryd.underlying4,trivial⟩,(fun h=>by cases h)⟩
def ti5:TI:=⟨1,[(.v (.int .u8 0))],.plain (.int .u8),false⟩
theorem ti5_ok:TI.ok Tryd.prog 5 ti5:=⟨by kernel_rfl,by kernel_rfl,by kernel_rfl,by kernel_rfl,(fun _=>rfl),⟨Tryd.underlying5,trivial⟩,(fun h=>by cases h)⟩
def ti9:TI:=⟨1,[(.v (.string ⟨#[]⟩))],.plain (.string),false⟩
theorem ti9_ok:TI.ok Tryd.prog 9 ti9:=⟨by kernel_rfl,by kernel_rfl,by kernel_rfl,by kernel_rfl,(fun _=>rfl),⟨Tryd.underlying9,trivial⟩,(fun h=>by cases h)⟩
def ti12:TI:=⟨1,[(.v (.int .u64 0))],.plain (.int .u64),false⟩
theorem ti12_ok:TI.ok Tryd.prog 12 ti12:=⟨by kernel_rfl,by kernel_rfl,by kernel_rfl,by kernel_rfl,(fun _=>rfl),⟨Tryd.underlying12,trivial⟩,(fun h=>by cases h)⟩
def ti21:TI:=⟨1,[(.v (.int .i32 0))],.plain (.int .i32),false⟩
theorem ti21_ok:TI.ok Tryd.prog 21 ti21:=⟨by kernel_rfl,by kernel_rfl,by kernel_rfl,by kernel_rfl,(fun _=>rfl),⟨Tryd.underlying21,trivial⟩,(fun h=>by cases h)⟩
def ti22:TI:=⟨1,[(.v (.slice none 0 0))],.plain (.slice 30),false⟩
theorem ti22_ok:TI.ok Tryd.prog 22 ti22:=⟨by kernel_rfl,by kernel_rfl,by kernel_rfl,by kernel_rfl,(fun _=>rfl),⟨Tryd.underlying22,trivial⟩,(fun h=>by cases h)⟩
def ti24:TI:=⟨32,List.replicate 32 (.v (.int .u8 0)),.arr 32 5,true⟩
theorem ti24_ok:TI.ok Tryd.prog 24 ti24:=⟨by kernel_rfl,by kernel_rfl,by kernel_rfl,by kernel_rfl,(fun h=>by cases h),Tryd.underlying24,(fun _=>Tryd.eqGuardType24)⟩
def ti25:TI:=⟨1,[(.v (.int .i64 0))],.plain (.int .i64),false⟩
theorem ti25_ok:TI.ok Tryd.prog 25 ti25:=⟨by kernel_rfl,by kernel_rfl,by kernel_rfl,by kernel_rfl,(fun _=>rfl),⟨Tryd.underlying25,trivial⟩,(fun h=>by cases h)⟩
def ti29:TI:=⟨64,List.replicate 64 (.v (.int .u8 0)),.str [(0,24),(32,24)],false⟩
theorem ti29_ok:TI.ok Tryd.prog 29 ti29:=⟨by kernel_rfl,by kernel_rfl,by kernel_rfl,by kernel_rfl,(fun h=>by cases h),⟨_,Tryd.underlying29,rfl⟩,(fun h=>by cases h)⟩
def ti30:TI:=⟨64,List.replicate 64 (.v (.int .u8 0)),.str [(0,24),(32,24)],false⟩
theorem ti30_ok:TI.ok Tryd.prog 30 ti30:=⟨by kernel_rfl,by kernel_rfl,by kernel_rfl,by kernel_rfl,(fun h=>by cases h),⟨_,Tryd.underlying30,rfl⟩,(fun h=>by cases h)⟩
def ti31:TI:=⟨1,[(.v (.int .u64 0))],.plain (.int .u64),false⟩
theorem ti31_ok:TI.ok Tryd.prog 31 ti31:=⟨by kernel_rfl,by kernel_rfl,by kernel_rfl,by kernel_rfl,(fun _=>rfl),⟨Tryd.underlying31,trivial⟩,(fun h=>by cases h)⟩
def ti32:TI:=⟨65,[(.v (.int .i64 0))]++List.replicate 64 (.v (.int .u8 0)),.str [(0,3),(1,24),(33,24)],false⟩
theorem ti32_ok:TI.ok Tryd.prog 32 ti32:=⟨by kernel_rfl,by kernel_rfl,by kernel_rfl,by kernel_rfl,(fun h=>by cases h),⟨_,Tryd.underlying32,rfl⟩,(fun h=>by cases h)⟩
def ti33:TI:=⟨65,[(.v (.int .i64 0))]++List.replicate 64 (.v (.int .u8 0)),.str [(0,3),(1,24),(33,24)],false⟩
theorem ti33_ok:TI.ok Tryd.prog 33 ti33:=⟨by kernel_rfl,by kernel_rfl,by kernel_rfl,by kernel_rfl,(fun h=>by cases h),⟨_,Tryd.underlying33,rfl⟩,(fun h=>by cases h)⟩
def ti36:TI:=⟨1,[(.v (.slice none 0 0))],.plain (.slice 33),false⟩
theorem ti36_ok:TI.ok Tryd.prog 36 ti36:=⟨by kernel_rfl,by kernel_rfl,by kernel_rfl,by kernel_rfl,(fun _=>rfl),⟨Tryd.underlying36,trivial⟩,(fun h=>by cases h)⟩
def ti66:TI:=⟨1,[(.v (.slice none 0 0))],.plain (.slice 68),false⟩
theorem ti66_ok:TI.ok Tryd.prog 66 ti66:=⟨by kernel_rfl,by kernel_rfl,by kernel_rfl,by kernel_rfl,(fun _=>rfl),⟨Tryd.underlying66,trivial⟩,(fun h=>by cases h)⟩
def ti67:TI:=⟨96,List.replicate 96 (.v (.int .u8 0)),.str [(0,24),(32,24),(64,24)],false⟩
theorem ti67_ok:TI.ok Tryd.prog 67 ti67:=⟨by kernel_rfl,by kernel_rfl,by kernel_rfl,by kernel_rfl,(fun h=>by cases h),⟨_,Tryd.underlying67,rfl⟩,(fun h=>by cases h)⟩
def ti68:TI:=⟨96,List.replicate 96 (.v (.int .u8 0)),.str [(0,24),(32,24),(64,24)],false⟩
theorem ti68_ok:TI.ok Tryd.prog 68 ti68:=⟨by kernel_rfl,by kernel_rfl,by kernel_rfl,by kernel_rfl,(fun h=>by cases h),⟨_,Tryd.underlying68,rfl⟩,(fun h=>by cases h)⟩
def ti72:TI:=⟨1,[(.v (.slice none 0 0))],.plain (.slice 5),false⟩
theorem ti72_ok:TI.ok Tryd.prog 72 ti72:=⟨by kernel_rfl,by kernel_rfl,by kernel_rfl,by kernel_rfl,(fun _=>rfl),⟨Tryd.underlying72,trivial⟩,(fun h=>by cases h)⟩
def ti83:TI:=⟨1,[(.v (.slice none 0 0))],.plain (.slice 24),false⟩
theorem ti83_ok:TI.ok Tryd.prog 83 ti83:=⟨by kernel_rfl,by kernel_rfl,by kernel_rfl,by kernel_rfl,(fun _=>rfl),⟨Tryd.underlying83,trivial⟩,(fun h=>by cases h)⟩
def ti85:TI:=⟨1,[(.v (.pointer none))],.plain (.pointer 109),false⟩
theorem ti85_ok:TI.ok Tryd.prog 85 ti85:=⟨by kernel_rfl,by kernel_rfl,by kernel_rfl,by kernel_rfl,(fun _=>rfl),⟨Tryd.underlying85,trivial⟩,(fun h=>by cases h)⟩
def ti89:TI:=⟨1,[(.v (.int .u32 0))],.plain (.int .u32),false⟩
theorem ti89_ok:TI.ok Tryd.prog 89 ti89:=⟨by kernel_rfl,by kernel_rfl,by kernel_rfl,by kernel_rfl,(fun _=>rfl),⟨Tryd.underlying89,trivial⟩,(fun h=>by cases h)⟩
def ti90:TI:=⟨8,List.replicate 8 (.v (.int .u32 0)),.arr 8 89,true⟩
theorem ti90_ok:TI.ok Tryd.prog 90 ti90:=⟨by kernel_rfl,by kernel_rfl,by kernel_rfl,by kernel_rfl,(fun h=>by cases h),Tryd.underlying90,(fun _=>Tryd.eqGuardType90)⟩
def ti91:TI:=⟨64,List.replicate 64 (.v (.int .u32 0)),.arr 64 89,true⟩
theorem ti91_ok:TI.ok Tryd.prog 91 ti91:=⟨by kernel_rfl,by kernel_rfl,by kernel_rfl,by kernel_rfl,(fun h=>by cases h),Tryd.underlying91,(fun _=>Tryd.eqGuardType91)⟩
def ti95:TI:=⟨1,[(.v (.slice none 0 0))],.plain (.slice 72),false⟩
theorem ti95_ok:TI.ok Tryd.prog 95 ti95:=⟨by kernel_rfl,by kernel_rfl,by kernel_rfl,by kernel_rfl,(fun _=>rfl),⟨Tryd.underlying95,trivial⟩,(fun h=>by cases h)⟩
def ti104:TI:=⟨8,List.replicate 8 (.v (.int .u32 0)),.arr 8 89,true⟩
theorem ti104_ok:TI.ok Tryd.prog 104 ti104:=⟨by kernel_rfl,by kernel_rfl,by kernel_rfl,by kernel_rfl,(fun h=>by cases h),Tryd.underlying104,(fun _=>Tryd.eqGuardType104)⟩
def ti106:TI:=⟨64,List.replicate 64 (.v (.int .u8 0)),.arr 64 5,true⟩
theorem ti106_ok:TI.ok Tryd.prog 106 ti106:=⟨by kernel_rfl,by kernel_rfl,by kernel_rfl,by kernel_rfl,(fun h=>by cases h),Tryd.underlying106,(fun _=>Tryd.eqGuardType106)⟩
def ti107:TI:=⟨1,[(.v (.int .u64 0))],.plain (.int .u64),false⟩
theorem ti107_ok:TI.ok Tryd.prog 107 ti107:=⟨by kernel_rfl,by kernel_rfl,by kernel_rfl,by kernel_rfl,(fun _=>rfl),⟨Tryd.underlying107,trivial⟩,(fun h=>by cases h)⟩
def ti108:TI:=⟨73,List.replicate 8 (.v (.int .u32 0))++List.replicate 64 (.v (.int .u8 0))++[(.v (.int .u64 0))],.str [(0,104),(8,106),(72,107)],false⟩
theorem ti108_ok:TI.ok Tryd.prog 108 ti108:=⟨by kernel_rfl,by kernel_rfl,by kernel_rfl,by kernel_rfl,(fun h=>by cases h),⟨_,Tryd.underlying108,rfl⟩,(fun h=>by cases h)⟩
def ti109:TI:=⟨73,List.replicate 8 (.v (.int .u32 0))++List.replicate 64 (.v (.int .u8 0))++[(.v (.int .u64 0))],.str [(0,104),(8,106),(72,107)],false⟩
theorem ti109_ok:TI.ok Tryd.prog 109 ti109:=⟨by kernel_rfl,by kernel_rfl,by kernel_rfl,by kernel_rfl,(fun h=>by cases h),⟨_,Tryd.underlying109,rfl⟩,(fun h=>by cases h)⟩
def ti124:TI:=⟨2,[(.v .nilFunc),(.v .nilFunc)],.str [(0,103),(1,119)],false⟩
theorem ti124_ok:TI.ok Tryd.prog 124 ti124:=⟨by kernel_rfl,by kernel_rfl,by kernel_rfl,by kernel_rfl,(fun h=>by cases h),⟨_,Tryd.underlying124,rfl⟩,(fun h=>by cases h)⟩
def ti125:TI:=⟨2,[(.v .nilFunc),(.v .nilFunc)],.str [(0,103),(1,119)],false⟩
theorem ti125_ok:TI.ok Tryd.prog 125 ti125:=⟨by kernel_rfl,by kernel_rfl,by kernel_rfl,by kernel_rfl,(fun h=>by cases h),⟨_,Tryd.underlying125,rfl⟩,(fun h=>by cases h)⟩
def ti126:TI:=⟨1,[(.v (.pointer none))],.plain (.pointer 104),false⟩
theorem ti126_ok:TI.ok Tryd.prog 126 ti126:=⟨by kernel_rfl,by kernel_rfl,by kernel_rfl,by kernel_rfl,(fun _=>rfl),⟨Tryd.underlying126,trivial⟩,(fun h=>by cases h)⟩
def ti131:TI:=⟨1,[(.v (.pointer none))],.plain (.pointer 166),false⟩
theorem ti131_ok:TI.ok Tryd.prog 131 ti131:=⟨by kernel_rfl,by kernel_rfl,by kernel_rfl,by kernel_rfl,(fun _=>rfl),⟨Tryd.underlying131,trivial⟩,(fun h=>by cases h)⟩
def ti135:TI:=⟨1,[(.v (.int .i64 0))],.plain (.int .i64),false⟩
theorem ti135_ok:TI.ok Tryd.prog 135 ti135:=⟨by kernel_rfl,by kernel_rfl,by kernel_rfl,by kernel_rfl,(fun _=>rfl),⟨Tryd.underlying135,trivial⟩,(fun h=>by cases h)⟩
def ti142:TI:=⟨1,[(.v (.int .u64 0))],.plain (.int .u64),false⟩
theorem ti142_ok:TI.ok Tryd.prog 142 ti142:=⟨by kernel_rfl,by kernel_rfl,by kernel_rfl,by kernel_rfl,(fun _=>rfl),⟨Tryd.underlying142,trivial⟩,(fun h=>by cases h)⟩
def ti146:TI:=⟨1,[(.v (.pointer none))],.plain (.pointer 3),false⟩
theorem ti146_ok:TI.ok Tryd.prog 146 ti146:=⟨by kernel_rfl,by kernel_rfl,by kernel_rfl,by kernel_rfl,(fun _=>rfl),⟨Tryd.underlying146,trivial⟩,(fun h=>by cases h)⟩
def ti148:TI:=⟨1,[(.v (.pointer none))],.plain (.pointer 142),false⟩
theorem ti148_ok:TI.ok Tryd.prog 148 ti148:=⟨by kernel_rfl,by kernel_rfl,by kernel_rfl,by kernel_rfl,(fun _=>rfl),⟨Tryd.underlying148,trivial⟩,(fun h=>by cases h)⟩
def ti160:TI:=⟨1,[(.v (.pointer none))],.plain (.pointer 5),false⟩
theorem ti160_ok:TI.ok Tryd.prog 160 ti160:=⟨by kernel_rfl,by kernel_rfl,by kernel_rfl,by kernel_rfl,(fun _=>rfl),⟨Tryd.underlying160,trivial⟩,(fun h=>by cases h)⟩
def ti165:TI:=⟨2,[(.v (.string ⟨#[]⟩)),(.v (.int .u8 0))],.str [(0,9),(1,158)],false⟩
theorem ti165_ok:TI.ok Tryd.prog 165 ti165:=⟨by kernel_rfl,by kernel_rfl,by kernel_rfl,by kernel_rfl,(fun h=>by cases h),⟨_,Tryd.underlying165,rfl⟩,(fun h=>by cases h)⟩
def tys:Ty:=[(2,ti2),(3,ti3),(4,ti4),(5,ti5),(9,ti9),(12,ti12),(21,ti21),(22,ti22),(24,ti24),(25,ti25),(29,ti29),(30,ti30),(31,ti31),(32,ti32),(33,ti33),(36,ti36),(66,ti66),(67,ti67),(68,ti68),(72,ti72),(83,ti83),(85,ti85),(89,ti89),(90,ti90),(91,ti91),(95,ti95),(104,ti104),(106,ti106),(107,ti107),(108,ti108),(109,ti109),(124,ti124),(125,ti125),(126,ti126),(131,ti131),(135,ti135),(142,ti142),(146,ti146),(148,ti148),(160,ti160),(165,ti165)]
theorem aj:tys.ok Tryd.prog:=⟨ti2_ok,⟨ti3_ok,⟨ti4_ok,⟨ti5_ok,⟨ti9_ok,⟨ti12_ok,⟨ti21_ok,⟨ti22_ok,⟨ti24_ok,⟨ti25_ok,⟨ti29_ok,⟨ti30_ok,⟨ti31_ok,⟨ti32_ok,⟨ti33_ok,⟨ti36_ok,⟨ti66_ok,⟨ti67_ok,⟨ti68_ok,⟨ti72_ok,⟨ti83_ok,⟨ti85_ok,⟨ti89_ok,⟨ti90_ok,⟨ti91_ok,⟨ti95_ok,⟨ti104_ok,⟨ti106_ok,⟨ti107_ok,⟨ti108_ok,⟨ti109_ok,⟨ti124_ok,⟨ti125_ok,⟨ti126_ok,⟨ti131_ok,⟨ti135_ok,⟨ti142_ok,⟨ti146_ok,⟨ti148_ok,⟨ti160_ok,⟨ti165_ok,trivial⟩⟩⟩⟩⟩⟩⟩⟩⟩⟩⟩⟩⟩⟩⟩⟩⟩⟩⟩⟩⟩⟩⟩⟩⟩⟩⟩⟩⟩⟩⟩⟩⟩⟩⟩⟩⟩⟩⟩⟩⟩
theorem mixed:Tryd.prog.follows .mixedOrders=true:=by kernel_rfl
end Go.Proofs.YtdccehmekkcheaaDoor

/- The engine's table of types, by program (gen_ty.py) out of the seat's translation, and that it agrees with the program. -/
import Derived.Test.YthlmepolmemejaaGreatDoorChecked
import Derived.Test.YthlmepolmemejaaGreatDoorLEngY
namespace Go.Proofs.YthlmepolmemejaaGreatDoor
open Go.Eng
set_option maxRecDepth 100000
def ti2:TI:=⟨1,[(.v (.int .i64 0))],.plain (.int .i64),false⟩
theorem ti2_ok:TI.ok Tryz.prog 2 ti2:=⟨by kernel_rfl,by kernel_rfl,by kernel_rfl,by kernel_rfl,(fun _=>rfl),⟨Tryz.underlying2,trivial⟩,(fun h=>by cases h)⟩
def ti3:TI:=⟨1,[(.v (.int .i64 0))],.plain (.int .i64),false⟩
theorem ti3_ok:TI.ok Tryz.prog 3 ti3:=⟨by kernel_rfl,by kernel_rfl,by kernel_rfl,by kernel_rfl,(fun _=>rfl),⟨Tryz.underlying3,trivial⟩,(fun h=>by cases h)⟩
def ti4:TI:=⟨1,[(.v (.bool false))],.plain (.bool),false⟩
theorem ti4_ok:TI.ok Tryz.prog 4 ti4:=⟨by kernel_rfl,by kernel_rfl,by kernel_rfl,by kernel_rfl,(fun _=>rfl),⟨Tryz.underlying4,trivial⟩,(fun h=>by cases h)⟩
def ti5:TI:=⟨1,[(.v (.int .u8 0))],.plain (.int .u8),false⟩
theorem ti5_ok:TI.ok Tryz.prog 5 ti5:=⟨by kernel_rfl,by kernel_rfl,by kernel_rfl,by kernel_rfl,(fun _=>rfl),⟨Tryz.underlying5,trivial⟩,(fun h=>by cases h)⟩
def ti9:TI:=⟨1,[(.v (.string ⟨#[]⟩))],.plain (.string),false⟩
theorem ti9_ok:TI.ok Tryz.prog 9 ti9:=⟨by kernel_rfl,by kernel_rfl,by kernel_rfl,by kernel_rfl,(fun _=>rfl),⟨Tryz.underlying9,trivial⟩,(fun h=>by cases h)⟩
def ti12:TI:=⟨1,[(.v (.int .u64 0))],.plain (.int .u64),false⟩
theorem ti12_ok:TI.ok Tryz.prog 12 ti12:=⟨by kernel_rfl,by kernel_rfl,by kernel_rfl,by kernel_rfl,(fun _=>rfl),⟨Tryz.underlying12,trivial⟩,(fun h=>by cases h)⟩
def ti21:TI:=⟨1,[(.v (.int .i32 0))],.plain (.int .i32),false⟩
theorem ti21_ok:TI.ok Tryz.prog 21 ti21:=⟨by kernel_rfl,by kernel_rfl,by kernel_rfl,by kernel_rfl,(fun _=>rfl),⟨Tryz.underlying21,trivial⟩,(fun h=>by cases h)⟩
def ti22:TI:=⟨1,[(.v (.slice none 0 0))],.plain (.slice 26),false⟩
theorem ti22_ok:TI.ok Tryz.prog 22 ti22:=⟨by kernel_rfl,by kernel_rfl,by kernel_rfl,by kernel_rfl,(fun _=>rfl),⟨Tryz.underlying22,trivial⟩,(fun h=>by cases h)⟩
def ti23:TI:=⟨1,[(.v (.slice none 0 0))],.plain (.slice 5),false⟩
theorem ti23_ok:TI.ok Tryz.prog 23 ti23:=⟨by kernel_rfl,by kernel_rfl,by kernel_rfl,by kernel_rfl,(fun _=>rfl),⟨Tryz.underlying23,trivial⟩,(fun h=>by cases h)⟩
def ti24:TI:=⟨1,[(.v (.int .u64 0))],.plain (.int .u64),false⟩
theorem ti24_ok:TI.ok Tryz.prog 24 ti24:=⟨by kernel_rfl,by kernel_rfl,by kernel_rfl,by kernel_rfl,(fun _=>rfl),⟨Tryz.underlying24,trivial⟩,(fun h=>by cases h)⟩
def ti26:TI:=⟨32,List.replicate 32 (.v (.int .u8 0)),.arr 32 5,true⟩
theorem ti26_ok:TI.ok Tryz.prog 26 ti26:=⟨by kernel_rfl,by kernel_rfl,by kernel_rfl,by kernel_rfl,(fun h=>by cases h),Tryz.underlying26,(fun _=>Tryz.eqGuardType26)⟩
def ti27:TI:=⟨65,[(.v (.int .u64 0))]++List.replicate 64 (.v (.int .u8 0)),.str [(0,24),(1,26),(33,26)],false⟩
theorem ti27_ok:TI.ok Tryz.prog 27 ti27:=⟨by kernel_rfl,by kernel_rfl,by kernel_rfl,by kernel_rfl,(fun h=>by cases h),⟨_,Tryz.underlying27,rfl⟩,(fun h=>by cases h)⟩
def ti28:TI:=⟨65,[(.v (.int .u64 0))]++List.replicate 64 (.v (.int .u8 0)),.str [(0,24),(1,26),(33,26)],false⟩
theorem ti28_ok:TI.ok Tryz.prog 28 ti28:=⟨by kernel_rfl,by kernel_rfl,by kernel_rfl,by kernel_rfl,(fun h=>by cases h),⟨_,Tryz.underlying28,rfl⟩,(fun h=>by cases h)⟩
def ti29:TI:=⟨1,[(.v (.slice none 0 0))],.plain (.slice 39),false⟩
theorem ti29_ok:TI.ok Tryz.prog 29 ti29:=⟨by kernel_rfl,by kernel_rfl,by kernel_rfl,by kernel_rfl,(fun _=>rfl),⟨Tryz.underlying29,trivial⟩,(fun h=>by cases h)⟩
def ti32:TI:=⟨1,[(.v (.slice none 0 0))],.plain (.slice 28),false⟩
theorem ti32_ok:TI.ok Tryz.prog 32 ti32:=⟨by kernel_rfl,by kernel_rfl,by kernel_rfl,by kernel_rfl,(fun _=>rfl),⟨Tryz.underlying32,trivial⟩,(fun h=>by cases h)⟩
def ti33:TI:=⟨1,[(.v (.int .i64 0))],.plain (.int .i64),false⟩
theorem ti33_ok:TI.ok Tryz.prog 33 ti33:=⟨by kernel_rfl,by kernel_rfl,by kernel_rfl,by kernel_rfl,(fun _=>rfl),⟨Tryz.underlying33,trivial⟩,(fun h=>by cases h)⟩
def ti37:TI:=⟨64,List.replicate 64 (.v (.int .u8 0)),.arr 64 5,true⟩
theorem ti37_ok:TI.ok Tryz.prog 37 ti37:=⟨by kernel_rfl,by kernel_rfl,by kernel_rfl,by kernel_rfl,(fun h=>by cases h),Tryz.underlying37,(fun _=>Tryz.eqGuardType37)⟩
def ti38:TI:=⟨130,[(.v (.int .u64 0))]++List.replicate 64 (.v (.int .u8 0))++[(.v (.int .u64 0))]++List.replicate 64 (.v (.int .u8 0)),.str [(0,28),(65,24),(66,37)],false⟩
theorem ti38_ok:TI.ok Tryz.prog 38 ti38:=⟨by kernel_rfl,by kernel_rfl,by kernel_rfl,by kernel_rfl,(fun h=>by cases h),⟨_,Tryz.underlying38,rfl⟩,(fun h=>by cases h)⟩
def ti39:TI:=⟨130,[(.v (.int .u64 0))]++List.replicate 64 (.v (.int .u8 0))++[(.v (.int .u64 0))]++List.replicate 64 (.v (.int .u8 0)),.str [(0,28),(65,24),(66,37)],false⟩
theorem ti39_ok:TI.ok Tryz.prog 39 ti39:=⟨by kernel_rfl,by kernel_rfl,by kernel_rfl,by kernel_rfl,(fun h=>by cases h),⟨_,Tryz.underlying39,rfl⟩,(fun h=>by cases h)⟩
def ti42:TI:=⟨1,[(.v (.int .u64 0))],.plain (.int .u64),false⟩
theorem ti42_ok:TI.ok Tryz.prog 42 ti42:=⟨by kernel_rfl,by kernel_rfl,by kernel_rfl,by kernel_rfl,(fun _=>rfl),⟨Tryz.underlying42,trivial⟩,(fun h=>by cases h)⟩
def ti52:TI:=⟨64,List.replicate 64 (.v (.int .u8 0)),.arr 2 26,true⟩
theorem ti52_ok:TI.ok Tryz.prog 52 ti52:=⟨by kernel_rfl,by kernel_rfl,by kernel_rfl,by kernel_rfl,(fun h=>by cases h),Tryz.underlying52,(fun _=>Tryz.eqGuardType52)⟩
def ti57:TI:=⟨96,List.replicate 96 (.v (.int .u8 0)),.str [(0,26),(32,26),(64,26)],false⟩
theorem ti57_ok:TI.ok Tryz.prog 57 ti57:=⟨by kernel_rfl,by kernel_rfl,by kernel_rfl,by kernel_rfl,(fun h=>by cases h),⟨_,Tryz.underlying57,rfl⟩,(fun h=>by cases h)⟩
def ti58:TI:=⟨96,List.replicate 96 (.v (.int .u8 0)),.str [(0,26),(32,26),(64,26)],false⟩
theorem ti58_ok:TI.ok Tryz.prog 58 ti58:=⟨by kernel_rfl,by kernel_rfl,by kernel_rfl,by kernel_rfl,(fun h=>by cases h),⟨_,Tryz.underlying58,rfl⟩,(fun h=>by cases h)⟩
def ti70:TI:=⟨1,[(.v (.slice none 0 0))],.plain (.slice 23),false⟩
theorem ti70_ok:TI.ok Tryz.prog 70 ti70:=⟨by kernel_rfl,by kernel_rfl,by kernel_rfl,by kernel_rfl,(fun _=>rfl),⟨Tryz.underlying70,trivial⟩,(fun h=>by cases h)⟩
def ti71:TI:=⟨5,List.replicate 5 (.v (.int .u64 0)),.arr 5 24,true⟩
theorem ti71_ok:TI.ok Tryz.prog 71 ti71:=⟨by kernel_rfl,by kernel_rfl,by kernel_rfl,by kernel_rfl,(fun h=>by cases h),Tryz.underlying71,(fun _=>Tryz.eqGuardType71)⟩
def ti72:TI:=⟨5,List.replicate 5 (.v (.int .u64 0)),.arr 5 24,true⟩
theorem ti72_ok:TI.ok Tryz.prog 72 ti72:=⟨by kernel_rfl,by kernel_rfl,by kernel_rfl,by kernel_rfl,(fun h=>by cases h),Tryz.underlying72,(fun _=>Tryz.eqGuardType72)⟩
def ti73:TI:=⟨20,List.replicate 20 (.v (.int .u64 0)),.str [(0,72),(5,72),(10,72),(15,72)],false⟩
theorem ti73_ok:TI.ok Tryz.prog 73 ti73:=⟨by kernel_rfl,by kernel_rfl,by kernel_rfl,by kernel_rfl,(fun h=>by cases h),⟨_,Tryz.underlying73,rfl⟩,(fun h=>by cases h)⟩
def ti74:TI:=⟨20,List.replicate 20 (.v (.int .u64 0)),.str [(0,72),(5,72),(10,72),(15,72)],false⟩
theorem ti74_ok:TI.ok Tryz.prog 74 ti74:=⟨by kernel_rfl,by kernel_rfl,by kernel_rfl,by kernel_rfl,(fun h=>by cases h),⟨_,Tryz.underlying74,rfl⟩,(fun h=>by cases h)⟩
def ti81:TI:=⟨4,[(.v (.int .u64 0)),(.v (.int .u64 0)),(.v (.int .u64 0)),(.v (.int .u64 0))],.arr 4 24,true⟩
theorem ti81_ok:TI.ok Tryz.prog 81 ti81:=⟨by kernel_rfl,by kernel_rfl,by kernel_rfl,by kernel_rfl,(fun h=>by cases h),Tryz.underlying81,(fun _=>Tryz.eqGuardType81)⟩
def ti82:TI:=⟨4,[(.v (.int .u64 0)),(.v (.int .u64 0)),(.v (.int .u64 0)),(.v (.int .u64 0))],.arr 4 24,true⟩
theorem ti82_ok:TI.ok Tryz.prog 82 ti82:=⟨by kernel_rfl,by kernel_rfl,by kernel_rfl,by kernel_rfl,(fun h=>by cases h),Tryz.underlying82,(fun _=>Tryz.eqGuardType82)⟩
def ti83:TI:=⟨16,List.replicate 16 (.v (.int .u64 0)),.str [(0,82),(4,82),(8,82),(12,82)],false⟩
theorem ti83_ok:TI.ok Tryz.prog 83 ti83:=⟨by kernel_rfl,by kernel_rfl,by kernel_rfl,by kernel_rfl,(fun h=>by cases h),⟨_,Tryz.underlying83,rfl⟩,(fun h=>by cases h)⟩
def ti84:TI:=⟨16,List.replicate 16 (.v (.int .u64 0)),.str [(0,82),(4,82),(8,82),(12,82)],false⟩
theorem ti84_ok:TI.ok Tryz.prog 84 ti84:=⟨by kernel_rfl,by kernel_rfl,by kernel_rfl,by kernel_rfl,(fun h=>by cases h),⟨_,Tryz.underlying84,rfl⟩,(fun h=>by cases h)⟩
def ti92:TI:=⟨1,[(.v (.int .u32 0))],.plain (.int .u32),false⟩
theorem ti92_ok:TI.ok Tryz.prog 92 ti92:=⟨by kernel_rfl,by kernel_rfl,by kernel_rfl,by kernel_rfl,(fun _=>rfl),⟨Tryz.underlying92,trivial⟩,(fun h=>by cases h)⟩
def ti93:TI:=⟨8,List.replicate 8 (.v (.int .u32 0)),.arr 8 92,true⟩
theorem ti93_ok:TI.ok Tryz.prog 93 ti93:=⟨by kernel_rfl,by kernel_rfl,by kernel_rfl,by kernel_rfl,(fun h=>by cases h),Tryz.underlying93,(fun _=>Tryz.eqGuardType93)⟩
def ti94:TI:=⟨64,List.replicate 64 (.v (.int .u32 0)),.arr 64 92,true⟩
theorem ti94_ok:TI.ok Tryz.prog 94 ti94:=⟨by kernel_rfl,by kernel_rfl,by kernel_rfl,by kernel_rfl,(fun h=>by cases h),Tryz.underlying94,(fun _=>Tryz.eqGuardType94)⟩
def ti99:TI:=⟨4,[(.v (.int .u64 0)),(.v (.int .u64 0)),(.v (.int .u64 0)),(.v (.int .u64 0))],.arr 4 24,true⟩
theorem ti99_ok:TI.ok Tryz.prog 99 ti99:=⟨by kernel_rfl,by kernel_rfl,by kernel_rfl,by kernel_rfl,(fun h=>by cases h),Tryz.underlying99,(fun _=>Tryz.eqGuardType99)⟩
def ti110:TI:=⟨4,[(.v (.int .u64 0)),(.v (.int .u64 0)),(.v (.int .u64 0)),(.v (.int .u64 0))],.arr 4 24,true⟩
theorem ti110_ok:TI.ok Tryz.prog 110 ti110:=⟨by kernel_rfl,by kernel_rfl,by kernel_rfl,by kernel_rfl,(fun h=>by cases h),Tryz.underlying110,(fun _=>Tryz.eqGuardType110)⟩
def ti112:TI:=⟨320,List.replicate 320 (.v (.int .u64 0)),.arr 16 74,true⟩
theorem ti112_ok:TI.ok Tryz.prog 112 ti112:=⟨by kernel_rfl,by kernel_rfl,by kernel_rfl,by kernel_rfl,(fun h=>by cases h),Tryz.underlying112,(fun _=>Tryz.eqGuardType112)⟩
def ti113:TI:=⟨2,[(.v (.int .u8 0)),(.v (.int .u8 0))],.arr 2 5,true⟩
theorem ti113_ok:TI.ok Tryz.prog 113 ti113:=⟨by kernel_rfl,by kernel_rfl,by kernel_rfl,by kernel_rfl,(fun h=>by cases h),Tryz.underlying113,(fun _=>Tryz.eqGuardType113)⟩
def ti128:TI:=⟨8,List.replicate 8 (.v (.int .u64 0)),.arr 8 24,true⟩
theorem ti128_ok:TI.ok Tryz.prog 128 ti128:=⟨by kernel_rfl,by kernel_rfl,by kernel_rfl,by kernel_rfl,(fun h=>by cases h),Tryz.underlying128,(fun _=>Tryz.eqGuardType128)⟩
def ti129:TI:=⟨8,List.replicate 8 (.v (.int .u64 0)),.arr 8 24,true⟩
theorem ti129_ok:TI.ok Tryz.prog 129 ti129:=⟨by kernel_rfl,by kernel_rfl,by kernel_rfl,by kernel_rfl,(fun h=>by cases h),Tryz.underlying129,(fun _=>Tryz.eqGuardType129)⟩
def ti132:TI:=⟨1,[(.v (.pointer none))],.plain (.pointer 160),false⟩
theorem ti132_ok:TI.ok Tryz.prog 132 ti132:=⟨by kernel_rfl,by kernel_rfl,by kernel_rfl,by kernel_rfl,(fun _=>rfl),⟨Tryz.underlying132,trivial⟩,(fun h=>by cases h)⟩
def ti134:TI:=⟨80,List.replicate 80 (.v (.int .u64 0)),.arr 80 24,true⟩
theorem ti134_ok:TI.ok Tryz.prog 134 ti134:=⟨by kernel_rfl,by kernel_rfl,by kernel_rfl,by kernel_rfl,(fun h=>by cases h),Tryz.underlying134,(fun _=>Tryz.eqGuardType134)⟩
def ti140:TI:=⟨2,[(.v (.int .u64 0)),(.v (.int .u64 0))],.str [(0,24),(1,24)],false⟩
theorem ti140_ok:TI.ok Tryz.prog 140 ti140:=⟨by kernel_rfl,by kernel_rfl,by kernel_rfl,by kernel_rfl,(fun h=>by cases h),⟨_,Tryz.underlying140,rfl⟩,(fun h=>by cases h)⟩
def ti141:TI:=⟨2,[(.v (.int .u64 0)),(.v (.int .u64 0))],.str [(0,24),(1,24)],false⟩
theorem ti141_ok:TI.ok Tryz.prog 141 ti141:=⟨by kernel_rfl,by kernel_rfl,by kernel_rfl,by kernel_rfl,(fun h=>by cases h),⟨_,Tryz.underlying141,rfl⟩,(fun h=>by cases h)⟩
def ti143:TI:=⟨10,List.replicate 10 (.v (.int .u64 0)),.arr 5 141,true⟩
theorem ti143_ok:TI.ok Tryz.prog 143 ti143:=⟨by kernel_rfl,by kernel_rfl,by kernel_rfl,by kernel_rfl,(fun h=>by cases h),Tryz.underlying143,(fun _=>Tryz.eqGuardType143)⟩
def ti149:TI:=⟨1,[(.v (.slice none 0 0))],.plain (.slice 24),false⟩
theorem ti149_ok:TI.ok Tryz.prog 149 ti149:=⟨by kernel_rfl,by kernel_rfl,by kernel_rfl,by kernel_rfl,(fun _=>rfl),⟨Tryz.underlying149,trivial⟩,(fun h=>by cases h)⟩
def ti154:TI:=⟨1,[(.v (.pointer none))],.plain (.pointer 129),false⟩
theorem ti154_ok:TI.ok Tryz.prog 154 ti154:=⟨by kernel_rfl,by kernel_rfl,by kernel_rfl,by kernel_rfl,(fun _=>rfl),⟨Tryz.underlying154,trivial⟩,(fun h=>by cases h)⟩
def ti157:TI:=⟨8,List.replicate 8 (.v (.int .u32 0)),.arr 8 92,true⟩
theorem ti157_ok:TI.ok Tryz.prog 157 ti157:=⟨by kernel_rfl,by kernel_rfl,by kernel_rfl,by kernel_rfl,(fun h=>by cases h),Tryz.underlying157,(fun _=>Tryz.eqGuardType157)⟩
def ti159:TI:=⟨73,List.replicate 8 (.v (.int .u32 0))++List.replicate 64 (.v (.int .u8 0))++[(.v (.int .u64 0))],.str [(0,157),(8,37),(72,24)],false⟩
theorem ti159_ok:TI.ok Tryz.prog 159 ti159:=⟨by kernel_rfl,by kernel_rfl,by kernel_rfl,by kernel_rfl,(fun h=>by cases h),⟨_,Tryz.underlying159,rfl⟩,(fun h=>by cases h)⟩
def ti160:TI:=⟨73,List.replicate 8 (.v (.int .u32 0))++List.replicate 64 (.v (.int .u8 0))++[(.v (.int .u64 0))],.str [(0,157),(8,37),(72,24)],false⟩
theorem ti160_ok:TI.ok Tryz.prog 160 ti160:=⟨by kernel_rfl,by kernel_rfl,by kernel_rfl,by kernel_rfl,(fun h=>by cases h),⟨_,Tryz.underlying160,rfl⟩,(fun h=>by cases h)⟩
def ti165:TI:=⟨1,[(.v (.pointer none))],.plain (.pointer 157),false⟩
theorem ti165_ok:TI.ok Tryz.prog 165 ti165:=⟨by kernel_rfl,by kernel_rfl,by kernel_rfl,by kernel_rfl,(fun _=>rfl),⟨Tryz.underlying165,trivial⟩,(fun h=>by cases h)⟩
def ti177:TI:=⟨1,[(.v (.pointer none))],.plain (.pointer 5),false⟩
theorem ti177_ok:TI.ok Tryz.prog 177 ti177:=⟨by kernel_rfl,by kernel_rfl,by kernel_rfl,by kernel_rfl,(fun _=>rfl),⟨Tryz.underlying177,trivial⟩,(fun h=>by cases h)⟩
def tys:Ty:=[(2,ti2),(3,ti3),(4,ti4),(5,ti5),(9,ti9),(12,ti12),(21,ti21),(22,ti22),(23,ti23),(24,ti24),(26,ti26),(27,ti27),(28,ti28),(29,ti29),(32,ti32),(33,ti33),(37,ti37),(38,ti38),(39,ti39),(42,ti42),(52,ti52),(57,ti57),(58,ti58),(70,ti70),(71,ti71),(72,ti72),(73,ti73),(74,ti74),(81,ti81),(82,ti82),(83,ti83),(84,ti84),(92,ti92),(93,ti93),(94,ti94),(99,ti99),(110,ti110),(112,ti112),(113,ti113),(128,ti128),(129,ti129),(132,ti132),(134,ti134),(140,ti140),(141,ti141),(143,ti143),(149,ti149),(154,ti154),(157,ti157),(159,ti159),(160,ti160),(165,ti165),(177,ti177)]
theorem ah:tys.ok Tryz.prog:=⟨ti2_ok,⟨ti3_ok,⟨ti4_ok,⟨ti5_ok,⟨ti9_ok,⟨ti12_ok,⟨ti21_ok,⟨ti22_ok,⟨ti23_ok,⟨ti24_ok,⟨ti26_ok,⟨ti27_ok,⟨ti28_ok,⟨ti29_ok,⟨ti32_ok,⟨ti33_ok,⟨ti37_ok,⟨ti38_ok,⟨ti39_ok,⟨ti42_ok,⟨ti52_ok,⟨ti57_ok,⟨ti58_ok,⟨ti70_ok,⟨ti71_ok,⟨ti72_ok,⟨ti73_ok,⟨ti74_ok,⟨ti81_ok,⟨ti82_ok,⟨ti83_ok,⟨ti84_ok,⟨ti92_ok,⟨ti93_ok,⟨ti94_ok,⟨ti99_ok,⟨ti110_ok,⟨ti112_ok,⟨ti113_ok,⟨ti128_ok,⟨ti129_ok,⟨ti132_ok,⟨ti134_ok,⟨ti140_ok,⟨ti141_ok,⟨ti143_ok,⟨ti149_ok,⟨ti154_ok,⟨ti157_ok,⟨ti159_ok,⟨ti160_ok,⟨ti165_ok,⟨ti177_ok,trivial⟩⟩⟩⟩⟩⟩⟩⟩⟩⟩⟩⟩⟩⟩⟩⟩⟩⟩⟩⟩⟩⟩⟩⟩⟩⟩⟩⟩⟩⟩⟩⟩⟩⟩⟩⟩⟩⟩⟩⟩⟩⟩⟩⟩⟩⟩⟩⟩⟩⟩⟩⟩⟩
theorem mixed:Tryz.prog.follows .mixedOrders=true:=by kernel_rfl
end Go.Proofs.YthlmepolmemejaaGreatDoor

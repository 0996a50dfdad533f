/- The keys of the secret of zeros, worked out by the kernel; beaconlaw14's awake. -/
import Derived.Test.YthlmepolmemejaaGreatDoorLKeyB
import Derived.Test.YthlmepolmemejaaGreatDoorLS3L
import Derived.Test.YthlmepolmemejaaGreatDoorLMN
set_option linter.unusedSimpArgs false
set_option linter.unusedVariables false
namespace Go.Proofs.YthlmepolmemejaaGreatDoor
open Go Go.Eng Go.RowKit
set_option maxRecDepth 100000
def ksS:B32:=⟨221,129,23,0,134,210,238,145,135,98,126,196,3,213,147,110,0,186,175,132,45,44,206,152,104,81,249,44,240,244,70,85⟩
def ksP:List Int:=[115,105,103,110,0,0,0,0,0,0,0,0,0,0,0,0,0,0,0,0,0,0,0,0,0,0,0,0,0,0,0,0,0,0,0,0,128,0,0,0,0,0,0,0,0,0,0,0,0,0,0,0,0,0,0,0,0,0,0,0,0,0,1,32]
theorem ks_eq:kV aM=ksS:=by
 unfold kV
 rw[ks_ref _ _ (by decide),S3.ref_lit (P:=ksP) (R:=⟨3716224768,2261970577,2271379140,64328558,12234628,757911192,1750202668,4042540629⟩) (by kernel_rfl) (by kernel_rfl) (by kernel_rfl)]
 rfl
def kshp:List Int:=[221,129,23,0,134,210,238,145,135,98,126,196,3,213,147,110,0,186,175,132,45,44,206,152,104,81,249,44,240,244,70,85,128,0,0,0,0,0,0,0,0,0,0,0,0,0,0,0,0,0,0,0,0,0,0,0,0,0,0,0,0,0,0,0,0,0,0,0,0,0,0,0,0,0,0,0,0,0,0,0,0,0,0,0,0,0,0,0,0,0,0,0,0,0,0,0,0,0,0,0,0,0,0,0,0,0,0,0,0,0,0,0,0,0,0,0,0,0,0,0,0,0,0,0,0,0,1,0]
theorem kshp_eq:bO (ksS.to) 128 16=kshp:=by kernel_rfl
def ksh0r:E8:=⟨12856504689135360635,2345835937324544495,121584810844550622,15273809875432165009,7780828575453595644,3180369300259125327,8606152450268018422,4176621150661883043⟩
theorem ksh0_blk:jN fZ (kshp.drop (128*0))=ksh0r:=blk_lit (by kernel_rfl)
def kshd:B64:=⟨178,107,122,229,233,14,154,123,32,142,21,91,49,147,49,239,1,175,244,189,196,120,245,222,211,247,121,40,87,252,206,145,107,251,14,93,98,30,199,252,44,34,241,7,60,128,184,79,119,111,50,14,97,21,54,246,57,246,86,206,206,149,180,163⟩
theorem ksh_eq:fP (ksS.to)=kshd:=by
 unfold fP
 rw[kshp_eq]
 show outD (gD fZ kshp 1)=kshd
 rw[gD,show gD fZ kshp 0=fZ from rfl,ksh0_blk]
 rfl
def ksN:B32:=⟨176,107,122,229,233,14,154,123,32,142,21,91,49,147,49,239,1,175,244,189,196,120,245,222,211,247,121,40,87,252,206,81⟩
theorem ksN_ok:BOk ksN:=by
 intro i
 unfold B32.at ksN
 split<;>exact⟨by decide,by decide⟩
def ksY:B32:=⟨109,38,164,215,210,197,242,34,137,13,32,186,183,214,50,34,64,96,184,71,206,137,189,37,79,240,141,114,122,167,32,161⟩
theorem ksY_ok:BOk ksY:=by
 intro i
 unfold B32.at ksY
 split<;>exact⟨by decide,by decide⟩
theorem ksn_eq:numV ksS=ksN:=by
 unfold numV
 rw[ksh_eq]
 rfl
theorem ks_mul:nC bC 37003052820446342317547099726939636651738098244239102388803628191926911134640=(dJ 27718389346595348582874540033820716195312509380920512650458161471821560064931,dJ 14984019002138097979205061932700614469744315864938841203110338981648509707885):=isMul_ok (u:=bxN) (v:=byN) oJ (by kernel_rfl)
theorem ks_val:NV ksN=37003052820446342317547099726939636651738098244239102388803628191926911134640:=by decide+kernel
theorem ksy_eq:kY (kV aM)=ksY:=by
 rw[ks_eq]
 unfold kY
 rw[ksn_eq]
 exact base_lit ksN_ok ksY_ok (by rw[ks_val];exact ks_mul) (by decide+kernel)
def kvS:B32:=⟨67,40,91,93,83,250,10,15,235,82,19,237,115,198,247,145,180,16,33,59,244,17,168,166,54,220,176,178,190,199,43,18⟩
def kvP:List Int:=[118,114,102,0,0,0,0,0,0,0,0,0,0,0,0,0,0,0,0,0,0,0,0,0,0,0,0,0,0,0,0,0,0,0,0,128,0,0,0,0,0,0,0,0,0,0,0,0,0,0,0,0,0,0,0,0,0,0,0,0,0,0,1,24]
theorem kv_eq:nJ aM=kvS:=by
 unfold nJ
 rw[ks_ref _ _ (by decide),S3.ref_lit (P:=kvP) (R:=⟨1126718301,1408895503,3948024813,1942419345,3020955963,4094797990,920432818,3200723730⟩) (by kernel_rfl) (by kernel_rfl) (by kernel_rfl)]
 rfl
def kvhp:List Int:=[67,40,91,93,83,250,10,15,235,82,19,237,115,198,247,145,180,16,33,59,244,17,168,166,54,220,176,178,190,199,43,18,128,0,0,0,0,0,0,0,0,0,0,0,0,0,0,0,0,0,0,0,0,0,0,0,0,0,0,0,0,0,0,0,0,0,0,0,0,0,0,0,0,0,0,0,0,0,0,0,0,0,0,0,0,0,0,0,0,0,0,0,0,0,0,0,0,0,0,0,0,0,0,0,0,0,0,0,0,0,0,0,0,0,0,0,0,0,0,0,0,0,0,0,0,0,1,0]
theorem kvhp_eq:bO (kvS.to) 128 16=kvhp:=by kernel_rfl
def kvh0r:E8:=⟨7826451821229856388,7303065856880130367,3013510414282128418,3992631659553272147,17236472083524372055,16335485890162590988,2392904475695410561,14809426339033232371⟩
theorem kvh0_blk:jN fZ (kvhp.drop (128*0))=kvh0r:=blk_lit (by kernel_rfl)
def kvhd:B64:=⟨108,157,36,119,16,29,86,132,101,89,179,180,26,159,185,63,41,210,35,193,106,57,252,34,55,104,173,87,42,166,177,83,239,52,64,9,135,104,70,87,226,179,77,222,52,140,5,12,33,53,77,241,71,68,109,129,205,133,166,202,169,99,179,243⟩
theorem kvh_eq:fP (kvS.to)=kvhd:=by
 unfold fP
 rw[kvhp_eq]
 show outD (gD fZ kvhp 1)=kvhd
 rw[gD,show gD fZ kvhp 0=fZ from rfl,kvh0_blk]
 rfl
def kvN:B32:=⟨104,157,36,119,16,29,86,132,101,89,179,180,26,159,185,63,41,210,35,193,106,57,252,34,55,104,173,87,42,166,177,83⟩
theorem kvN_ok:BOk kvN:=by
 intro i
 unfold B32.at kvN
 split<;>exact⟨by decide,by decide⟩
def kvY:B32:=⟨127,108,32,143,127,27,140,198,225,181,120,189,222,1,80,204,65,55,28,96,110,98,22,239,13,204,234,159,22,99,167,58⟩
theorem kvY_ok:BOk kvY:=by
 intro i
 unfold B32.at kvY
 split<;>exact⟨by decide,by decide⟩
theorem kvn_eq:numV kvS=kvN:=by
 unfold numV
 rw[kvh_eq]
 rfl
theorem kv_mul:nC bC 37855845194321716430161386145456350873848846431102816141178676684016379534696=(dJ 30396340189429201994690921020544569975297324093618454540082776046047947744616,dJ 26529892560495843946551885086744510848181242170212174158893582313913107639423):=isMul_ok (u:=bxN) (v:=byN) oJ (by kernel_rfl)
theorem kv_val:NV kvN=37855845194321716430161386145456350873848846431102816141178676684016379534696:=by decide+kernel
theorem kvy_eq:kY (nJ aM)=kvY:=by
 rw[kv_eq]
 unfold kY
 rw[kvn_eq]
 exact base_lit kvN_ok kvY_ok (by rw[kv_val];exact kv_mul) (by decide+kernel)
theorem kawake_ex (x y:B32):eP ([pubK_con]:Cons Tryz.prog G3) tys Tryz.f6 100 [] [(3,[.s (aO.enc ⟨3,x,y⟩)]),(12,[.b true]),(18,[.b true])]=some (aY.enc true,[aO.enc (bI aM 3)=aO.enc ⟨3,x,y⟩,(!eqB x y)=true,(!eqB x aM)=true]):=by kernel_rfl
theorem keys0:bI aM 3=⟨3,ksY,kvY⟩:=by
 unfold bI
 rw[ksy_eq,kvy_eq]
theorem kawake_fn:ay Tryz.prog G3 6 [] (aY.enc true):=ay.aD ah mixed Tryz.func6 (kawake_ex ksY kvY) ⟨congrArg aO.enc keys0,by decide,by decide,trivial⟩ rfl rfl
noncomputable def qM:Con Tryz.prog G3:=con0 6 Tryz.f6 Tryz.func6 (by kernel_rfl) (by kernel_rfl) (aY.enc true) [] rfl (fun _=>kawake_fn)
theorem qB:nX Tryz.prog 28 (.u64::List.replicate 64 .u8):=nX.of Tryz.underlying28 (by kernel_rfl) (by kernel_rfl) (by kernel_rfl)
def sameK:List Int→Bool
 | []=>true
 | x::r=>(x==x)&&sameK r
theorem mP:∀l,sameK l=true
 | []=>rfl
 | x::r=>by rw[sameK,beq_self_eq_true,mP r];rfl
def Keys.to (k:Keys):List Int:=k.gen::(k.sg.to++k.vr.to)
def Cert.to (c:Cert):List Int:=c.k.to++(c.ep::c.sig.to)
def Root.to (r:Root):List Int:=r.ep::r.kind::r.gen::(r.prev.to++(r.hash.to++(r.link.to++r.sig.to)))
end Go.Proofs.YthlmepolmemejaaGreatDoor

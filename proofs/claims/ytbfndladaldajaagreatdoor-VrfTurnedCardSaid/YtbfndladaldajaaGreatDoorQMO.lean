/- RFC 9381's example 16, worked out by the kernel. -/
import Derived.Test.YtbfndladaldajaaGreatDoorQMU
import Derived.Test.YtbfndladaldajaaGreatDoorQMN
import Derived.Test.YtbfndladaldajaaGreatDoorQMV
namespace Go.Proofs.YtbfndladaldajaaGreatDoor
open Go Go.Eng Go.RowKit
set_option linter.unusedVariables false
set_option linter.unusedSimpArgs false
set_option maxRecDepth 100000
def seedK:B32:=⟨157,97,177,157,239,253,90,96,186,132,74,244,146,236,44,196,68,73,197,105,123,50,105,25,112,59,172,3,28,174,127,96⟩
def k1p:List Int:=[157,97,177,157,239,253,90,96,186,132,74,244,146,236,44,196,68,73,197,105,123,50,105,25,112,59,172,3,28,174,127,96,128,0,0,0,0,0,0,0,0,0,0,0,0,0,0,0,0,0,0,0,0,0,0,0,0,0,0,0,0,0,0,0,0,0,0,0,0,0,0,0,0,0,0,0,0,0,0,0,0,0,0,0,0,0,0,0,0,0,0,0,0,0,0,0,0,0,0,0,0,0,0,0,0,0,0,0,0,0,0,0,0,0,0,0,0,0,0,0,0,0,0,0,0,0,1,0]
theorem k1p_eq:padR (seedK.to) 128 16=k1p:=by kernel_rfl
def k10r:E8:=⟨3854099993999193035,4790192769505820988,18302390741936160931,11898774126494345487,11191175685748782186,8612717466478596128,6320598916537552790,17700147720492162959⟩
theorem k10_blk:blkD bP (k1p.drop (128*0))=k10r:=blk_lit (by kernel_rfl)
def k1d:B64:=⟨53,124,131,134,79,40,51,203,66,122,46,241,192,10,1,60,253,255,39,104,217,128,192,163,165,32,240,6,144,77,233,15,155,79,10,254,40,11,116,106,119,134,132,231,84,66,80,32,87,183,71,58,3,240,143,150,245,163,142,146,135,224,31,143⟩
theorem k1_eq:aS (seedK.to)=k1d:=by
 unfold aS
 rw[k1p_eq]
 show outD (bY bP k1p 1)=k1d
 rw[bY,show bY bP k1p 0=bP from rfl,k10_blk]
 rfl
def numK:B32:=⟨48,124,131,134,79,40,51,203,66,122,46,241,192,10,1,60,253,255,39,104,217,128,192,163,165,32,240,6,144,77,233,79⟩
theorem numK_ok:BOk numK:=by
 intro i
 unfold B32.at numK
 split<;>exact⟨by decide,by decide⟩
def pfxK:B32:=⟨155,79,10,254,40,11,116,106,119,134,132,231,84,66,80,32,87,183,71,58,3,240,143,150,245,163,142,146,135,224,31,143⟩
theorem num_k:numV seedK=numK:=by
 unfold numV
 rw[k1_eq]
 rfl
theorem pfx_k:pfxV seedK=pfxK:=by
 unfold pfxV
 rw[k1_eq]
 rfl
theorem numK_v:NV numK=36144925721603087658594284515452164870581325872720374094707712194495455132720:=by decide+kernel
def yKC:Pt:=(natF 38815646466658113194383306759739515082307681141926459231621296960732224964046,natF 11903303657706407974989296177215005343713679411332034699907763981919547054807)
theorem yKC_on:OnC yKC:=by unfold OnC;decide+kernel
def yK:B32:=⟨215,90,152,1,130,177,10,183,213,75,254,211,201,100,7,58,14,225,114,243,218,166,35,37,175,2,26,104,247,7,81,26⟩
theorem yK_ok:BOk yK:=by
 intro i
 unfold B32.at yK
 split<;>exact⟨by decide,by decide⟩
theorem yK_pt:PtB yK yKC:=⟨yK_ok,yKC_on,by decide+kernel⟩
theorem y_mul:nC bC 36144925721603087658594284515452164870581325872720374094707712194495455132720=yKC:=isMul_ok (u:=15112221349535400772501151409588531511454012693041857206046113283949847762202) (v:=46316835694926478169428394003475163141307993866256225615783033603165251855960) bC_on (by kernel_rfl)
theorem pub_k:pubV seedK=yK:=by
 unfold pubV
 rw[num_k]
 exact base_lit numK_ok yK_ok (by rw[numK_v];exact y_mul) yK_pt.val
def k2p:List Int:=[3,1,215,90,152,1,130,177,10,183,213,75,254,211,201,100,7,58,14,225,114,243,218,166,35,37,175,2,26,104,247,7,81,26,0,0,128,0,0,0,0,0,0,0,0,0,0,0,0,0,0,0,0,0,0,0,0,0,0,0,0,0,0,0,0,0,0,0,0,0,0,0,0,0,0,0,0,0,0,0,0,0,0,0,0,0,0,0,0,0,0,0,0,0,0,0,0,0,0,0,0,0,0,0,0,0,0,0,0,0,0,0,0,0,0,0,0,0,0,0,0,0,0,0,0,0,1,32]
theorem k2p_eq:padR (inB yK [] ((0:Nat):Int)) 128 16=k2p:=by kernel_rfl
def k20r:E8:=⟨15646878468556890100,9834676198534175616,14037360771044355926,15631480091595592806,2051053386046130809,6298144533107127797,3453648002844953374,11222488436778456498⟩
theorem k20_blk:blkD bP (k2p.drop (128*0))=k20r:=blk_lit (by kernel_rfl)
def k2d:B64:=⟨217,36,225,17,2,10,159,244,136,123,201,229,110,158,91,128,194,206,185,63,134,26,47,86,216,238,44,82,253,37,84,102,28,118,206,48,10,164,74,121,87,103,129,21,119,235,53,245,47,237,210,143,116,207,139,30,155,190,73,198,34,27,213,178⟩
theorem k2_eq:aS (inB yK [] ((0:Nat):Int))=k2d:=by
 unfold aS
 rw[k2p_eq]
 show outD (bY bP k2p 1)=k2d
 rw[bY,show bY bP k2p 0=bP from rfl,k20_blk]
 rfl
def qKC:Pt:=(natF 26009727310710003060968620235293023884686537834998838796522241618217722558746,natF 46284587903069986213910021018927505775295924032276141215152099883265130833113)
theorem qKC_on:OnC qKC:=by unfold OnC;decide+kernel
def hitK:B32:=⟨217,36,225,17,2,10,159,244,136,123,201,229,110,158,91,128,194,206,185,63,134,26,47,86,216,238,44,82,253,37,84,102⟩
theorem hitK_ok:BOk hitK:=by
 intro i
 unfold B32.at hitK
 split<;>exact⟨by decide,by decide⟩
theorem hit_k:hitV yK [] 0=hitK:=by
 unfold hitV
 rw[k2_eq]
 rfl
theorem hit_pt:PtB hitK qKC:=⟨hitK_ok,qKC_on,by decide+kernel⟩
def hKC:Pt:=(natF 10606544640689835211629297869336753665993401411924259070208473058249740032102,natF 10946939531041502731847880532485761680836259552948667254719555634479026256785)
theorem hKC_on:OnC hKC:=by unfold OnC;decide+kernel
def hK:B32:=⟨145,187,237,2,169,148,97,223,26,212,198,86,74,95,93,130,157,11,144,207,199,144,62,122,87,151,189,101,138,191,51,24⟩
theorem hK_ok:BOk hK:=by
 intro i
 unfold B32.at hK
 split<;>exact⟨by decide,by decide⟩
theorem hK_pt:PtB hK hKC:=⟨hK_ok,hKC_on,by decide+kernel⟩
theorem h_mul:nC qKC 8=hKC:=isMul_ok (u:=26009727310710003060968620235293023884686537834998838796522241618217722558746) (v:=46284587903069986213910021018927505775295924032276141215152099883265130833113) qKC_on (by kernel_rfl)
theorem hKC_ne:hKC≠oC:=by decide+kernel
theorem good_k:goodV yK [] 0=true:=by
 have h1:orgV hitK=false:=by
  cases e:orgV hitK with
  | false=>rfl
  | true=>exact absurd (h_mul.symm.trans ((clr_flag hit_pt).1 e)) hKC_ne
 unfold goodV
 rw[hit_k,hit_pt.dec.1,h1]
 rfl
theorem in_k:inOk yK []=true∧inP yK []=clrP (decP hitK):=by
 have h:=in_hit' (b:=yK) (m:=[]) (t:=0) (fun i hi=>by omega) good_k (by decide)
 rw[hit_k] at h
 exact h
theorem e_rep:Rep (eV seedK []) hKC:=by
 unfold eV
 rw[pub_k,in_k.2,←h_mul]
 exact hit_pt.dec.2.clr qKC_on
theorem same_pt {x y:B32} {q:Pt} (hx:PtB x q) (hy:PtB y q):x=y:=(eqB_iff _ _).1 (hx.eq hy)
theorem ph_k:phV seedK []=hK:=same_pt (PtB.enc e_rep hKC_on) hK_pt
def gKC:Pt:=(natF 41776541571091767264254001016780324940714254400985048831597006563689894267142,natF 28697902646670147167750005371184436301341517785428608806743524651387101140870)
theorem gKC_on:OnC gKC:=by unfold OnC;decide+kernel
def gK:B32:=⟨134,87,16,102,144,181,82,98,69,169,43,0,59,176,121,204,209,169,33,48,71,118,113,246,252,1,173,22,242,111,114,63⟩
theorem gK_ok:BOk gK:=by
 intro i
 unfold B32.at gK
 split<;>exact⟨by decide,by decide⟩
theorem gK_pt:PtB gK gKC:=⟨gK_ok,gKC_on,by decide+kernel⟩
theorem g_mul:nC hKC 36144925721603087658594284515452164870581325872720374094707712194495455132720=gKC:=isMul_ok (u:=10606544640689835211629297869336753665993401411924259070208473058249740032102) (v:=10946939531041502731847880532485761680836259552948667254719555634479026256785) hKC_on (by kernel_rfl)
theorem pg_k:pgV seedK []=gK:=by
 have h:=often_rep e_rep hKC_on numK_ok
 rw[numK_v,g_mul] at h
 unfold pgV
 rw[num_k]
 exact same_pt (PtB.enc h gKC_on) gK_pt
def k3p:List Int:=[155,79,10,254,40,11,116,106,119,134,132,231,84,66,80,32,87,183,71,58,3,240,143,150,245,163,142,146,135,224,31,143,145,187,237,2,169,148,97,223,26,212,198,86,74,95,93,130,157,11,144,207,199,144,62,122,87,151,189,101,138,191,51,24,128,0,0,0,0,0,0,0,0,0,0,0,0,0,0,0,0,0,0,0,0,0,0,0,0,0,0,0,0,0,0,0,0,0,0,0,0,0,0,0,0,0,0,0,0,0,0,0,0,0,0,0,0,0,0,0,0,0,0,0,0,0,2,0]
theorem k3p_eq:padR (catL [pfxK.to,hK.to]) 128 16=k3p:=by kernel_rfl
def k30r:E8:=⟨8142776243559558596,8375290780511578175,6621580159553186015,2888795755787290004,13174957648601199808,2701793877007636202,13014544884848929941,5170905926607764196⟩
theorem k30_blk:blkD bP (k3p.drop (128*0))=k30r:=blk_lit (by kernel_rfl)
def k3d:B64:=⟨113,0,243,217,234,219,109,196,116,59,2,151,54,255,40,63,91,228,148,18,141,241,40,223,40,23,16,111,52,91,133,148,182,214,218,45,111,176,180,192,37,126,179,55,103,93,150,234,180,156,243,158,102,204,44,149,71,194,191,139,42,106,250,228⟩
theorem k3_eq:aS (catL [pfxK.to,hK.to])=k3d:=by
 unfold aS
 rw[k3p_eq]
 show outD (bY bP k3p 1)=k3d
 rw[bY,show bY bP k3p 0=bP from rfl,k30_blk]
 rfl
def kK:B32:=⟨138,73,237,189,20,146,168,238,9,118,107,239,229,10,125,86,48,81,191,52,6,203,255,194,10,136,222,240,48,115,15,15⟩
theorem kK_ok:BOk kK:=by
 intro i
 unfold B32.at kK
 split<;>exact⟨by decide,by decide⟩
theorem kK_v:NV kK=6811990454994486643121331592606547483631645975508921359177833487342632782218:=by decide+kernel
theorem pk_k:pkV seedK []=kK:=by
 unfold pkV
 rw[pfx_k,ph_k]
 have hb:=s512V_byte (catL [pfxK.to,hK.to])
 unfold hashV
 rw[k3_eq] at hb ⊢
 obtain⟨h1,h2⟩:=dD (f:=k3d.at) hb 8 8
 refine VB_inj _ _ (bytes4_ok _) kK_ok ?_
 rw[bytes4_val _ h1,h2]
 decide+kernel
def uKC:Pt:=(natF 25585889067972629875027771635241890691727142485216627013459500719879219068498,natF 51224451056602075053106299979114902881331878341092255912319602886942037701294)
theorem uKC_on:OnC uKC:=by unfold OnC;decide+kernel
def uK:B32:=⟨174,242,124,114,91,233,100,198,169,191,76,69,202,142,53,223,37,140,24,120,184,56,243,125,153,117,82,63,9,3,64,113⟩
theorem uK_ok:BOk uK:=by
 intro i
 unfold B32.at uK
 split<;>exact⟨by decide,by decide⟩
theorem uK_pt:PtB uK uKC:=⟨uK_ok,uKC_on,by decide+kernel⟩
theorem u_mul:nC bC 6811990454994486643121331592606547483631645975508921359177833487342632782218=uKC:=isMul_ok (u:=15112221349535400772501151409588531511454012693041857206046113283949847762202) (v:=46316835694926478169428394003475163141307993866256225615783033603165251855960) bC_on (by kernel_rfl)
theorem pu_k:puV seedK []=uK:=by
 unfold puV
 rw[pk_k]
 have h:=base_pt kK_ok
 rw[kK_v,u_mul] at h
 exact same_pt h uK_pt
def vKC:Pt:=(natF 29855928977723242415851680724445298191918930081318186354575551641218308832452,natF 35996636661368457880779170292656516634349033561382281583332756199764701681232)
theorem vKC_on:OnC vKC:=by unfold OnC;decide+kernel
def vK:B32:=⟨80,22,87,47,113,70,108,100,108,17,148,67,69,93,108,185,185,82,240,125,6,14,200,40,109,103,134,21,213,95,149,79⟩
theorem vK_ok:BOk vK:=by
 intro i
 unfold B32.at vK
 split<;>exact⟨by decide,by decide⟩
theorem vK_pt:PtB vK vKC:=⟨vK_ok,vKC_on,by decide+kernel⟩
theorem v_mul:nC hKC 6811990454994486643121331592606547483631645975508921359177833487342632782218=vKC:=isMul_ok (u:=10606544640689835211629297869336753665993401411924259070208473058249740032102) (v:=10946939531041502731847880532485761680836259552948667254719555634479026256785) hKC_on (by kernel_rfl)
theorem pv_k:pvV seedK []=vK:=by
 have h:=often_rep e_rep hKC_on kK_ok
 rw[kK_v,v_mul] at h
 unfold pvV
 rw[pk_k]
 exact same_pt (PtB.enc h vKC_on) vK_pt
def k4p:List Int:=[3,2,215,90,152,1,130,177,10,183,213,75,254,211,201,100,7,58,14,225,114,243,218,166,35,37,175,2,26,104,247,7,81,26,145,187,237,2,169,148,97,223,26,212,198,86,74,95,93,130,157,11,144,207,199,144,62,122,87,151,189,101,138,191,51,24,134,87,16,102,144,181,82,98,69,169,43,0,59,176,121,204,209,169,33,48,71,118,113,246,252,1,173,22,242,111,114,63,174,242,124,114,91,233,100,198,169,191,76,69,202,142,53,223,37,140,24,120,184,56,243,125,153,117,82,63,9,3,64,113,80,22,87,47,113,70,108,100,108,17,148,67,69,93,108,185,185,82,240,125,6,14,200,40,109,103,134,21,213,95,149,79,0,128,0,0,0,0,0,0,0,0,0,0,0,0,0,0,0,0,0,0,0,0,0,0,0,0,0,0,0,0,0,0,0,0,0,0,0,0,0,0,0,0,0,0,0,0,0,0,0,0,0,0,0,0,0,0,0,0,0,0,0,0,0,0,0,0,0,0,0,0,0,0,0,0,0,0,0,0,0,0,0,0,0,0,0,0,0,0,0,0,0,0,5,24]
theorem k4p_eq:padR (chB ⟨yK,hK,gK,uK,vK⟩) 128 16=k4p:=by kernel_rfl
def k40r:E8:=⟨5474345260212015341,13668044377105337755,12192565990790837537,5147045685678118952,12249731583276337902,2626697991186047005,16106641388432390963,8771707137696688534⟩
theorem k40_blk:blkD bP (k4p.drop (128*0))=k40r:=blk_lit (by kernel_rfl)
def k41r:E8:=⟨2808176323064591598,1952605026501762455,2084570837760075171,2876416237234593400,9507988507311043951,14375401310540845117,15329373415288954563,17748066992285114999⟩
theorem k41_blk:blkD k40r (k4p.drop (128*1))=k41r:=blk_lit (by kernel_rfl)
def k4d:B64:=⟨38,248,165,124,202,237,116,238,27,25,11,237,31,71,157,151,28,237,226,33,229,211,229,163,39,235,21,83,238,136,158,120,131,243,41,44,2,197,117,111,199,127,175,83,234,120,208,61,212,188,223,231,23,157,94,195,246,77,204,229,108,253,98,119⟩
theorem k4_eq:aS (chB ⟨yK,hK,gK,uK,vK⟩)=k4d:=by
 unfold aS
 rw[k4p_eq]
 show outD (bY bP k4p 2)=k4d
 rw[bY,bY,show bY bP k4p 0=bP from rfl,k40_blk,k41_blk]
 rfl
def cK:B32:=⟨38,248,165,124,202,237,116,238,27,25,11,237,31,71,157,151,0,0,0,0,0,0,0,0,0,0,0,0,0,0,0,0⟩
theorem cK_ok:BOk cK:=by
 intro i
 unfold B32.at cK
 split<;>exact⟨by decide,by decide⟩
theorem pc_k:pcV seedK []=cK:=by
 unfold pcV
 rw[pub_k,ph_k,pg_k,pu_k,pv_k]
 unfold chlV
 rw[k4_eq]
 rfl
def tK:B32:=⟨39,210,208,249,176,5,166,228,86,163,93,79,176,218,171,18,104,161,176,219,16,131,109,152,38,165,40,202,118,86,120,5⟩
theorem tK_ok:BOk tK:=by
 intro i
 unfold B32.at tK
 split<;>exact⟨by decide,by decide⟩
theorem tK_v:NV tK=2474182643439072123344282431057481016383402567431642131284023445102278005287:=by decide+kernel
theorem cK_v:NV cK=201530060550828526043030043552962181158:=by decide+kernel
theorem pt_k:ptV' seedK []=tK:=by
 unfold ptV'
 rw[pc_k,num_k,pk_k]
 obtain⟨h1,h2⟩:=smulB_val cK_ok numK_ok kK_ok
 refine VB_inj _ _ h1 tK_ok ?_
 rw[←NV_cast h1,←NV_cast tK_ok,h2,cK_v,numK_v,kK_v,tK_v]
 decide+kernel
def prfK:B80:=⟨134,87,16,102,144,181,82,98,69,169,43,0,59,176,121,204,209,169,33,48,71,118,113,246,252,1,173,22,242,111,114,63,38,248,165,124,202,237,116,238,27,25,11,237,31,71,157,151,39,210,208,249,176,5,166,228,86,163,93,79,176,218,171,18,104,161,176,219,16,131,109,152,38,165,40,202,118,86,120,5⟩
theorem prf_k:prfV seedK []=prfK:=by
 unfold prfV
 rw[pg_k,pc_k,pt_k]
 rfl
theorem prv_k:prvR seedK []=pairP prfK 0:=by
 unfold prvR
 rw[pub_k,in_k.1,cond_true,prf_k]
theorem seed6_fn:FnOk Tryz.prog G2 61 [] (cB32.enc seedK):=FnOk.aB (Γ:=[]) ah mixed Tryz.func61 (n:=100) (orc:=[]) (cs:=[]) (by kernel_rfl) trivial rfl rfl
noncomputable def seed6_con:Con Tryz.prog G2:=con0 61 Tryz.f61 Tryz.func61 (by kernel_rfl) (by kernel_rfl) (cB32.enc seedK) [] rfl (fun _=>seed6_fn)
theorem awake6_walk (R:B32→List Int→SV) (hR:R=prvR) (h1:R seedK []=pairP prfK 0):FnOk Tryz.prog G2 27 [] (aN.enc true):=
 FnOk.aB (Γ:=[seed6_con,prv.con R hR]) ah mixed Tryz.func27 (n:=100) (orc:=[(5,[.s (pairP prfK 0)])])
  (cs:=[R seedK []=pairP prfK 0]) (by kernel_rfl) ⟨h1,trivial⟩ rfl rfl
noncomputable def awake6_con:Con Tryz.prog G2:=con0 27 Tryz.f27 Tryz.func27 (by kernel_rfl) (by kernel_rfl) (aN.enc true) [] rfl (fun _=>awake6_walk prvR rfl prv_k)
end Go.Proofs.YtbfndladaldajaaGreatDoor

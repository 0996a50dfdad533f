/- Packages keyring and beaconref14: Public, what is signed of a certificate, Certify, CheckCert: walks, contracts. -/
import Derived.Test.YthlmepolmemejaaGreatDoorLKeyA
import Derived.Test.YthlmepolmemejaaGreatDoorLMZ
import Derived.Test.YthlmepolmemejaaGreatDoorLMW
set_option linter.unusedSimpArgs false
set_option linter.unusedVariables false
namespace Go.Proofs.YthlmepolmemejaaGreatDoor
open Go Go.Eng Go.RowKit
set_option maxRecDepth 100000
noncomputable def bI (b:B32) (g:Int):Keys:=⟨g,kY (kV b),kY (nJ b)⟩
def wCert:List Int:=[99,101,114,116]
def ig (k:Keys) (ep:Int):List (List Int):=[wCert,num8 k.gen,k.sg.to,k.vr.to,num8 ep]
def lH (k:Keys) (ep:Int):List Int:=encB (ig k ep)
noncomputable def bQ (b:B32) (k:Keys) (ep:Int):Cert:=⟨k,ep,sigV (kV b) (lH k ep)⟩
theorem certT (k:Keys) (ep:Int):fC (ig k ep)=108:=rfl
theorem pubK_ex (b s x v y:B32) (g:Int):eP ([kseed_con,vseed_con,public_con.lift ng]:Cons Tryz.prog G3) tys Tryz.f14 100 [ak.enc b,(av .u64).enc g] [(7,[.s (ak.enc s)]),(8,[.s (ak.enc x)]),(10,[.s (ak.enc v)]),(11,[.s (ak.enc y)])]=some (aO.enc ⟨g,x,y⟩,[ak.enc (kV b)=ak.enc s,ak.enc (kY s)=ak.enc x,ak.enc (nJ b)=ak.enc v,ak.enc (kY v)=ak.enc y]):=by kernel_rfl
theorem pubK_fn (b:B32) (g:Int):ay Tryz.prog G3 14 [ak.enc b,(av .u64).enc g] (aO.enc (bI b g)):=ay.aD ah mixed Tryz.func14 (pubK_ex b (kV b) (kY (kV b)) (nJ b) (kY (nJ b)) g) ⟨rfl,rfl,rfl,rfl,trivial⟩ (aO.ids _) rfl
noncomputable def pubK_con:Con Tryz.prog G3:=jA 14 Tryz.f14 Tryz.func14 (by kernel_rfl) (by kernel_rfl) ak (av .u64) (fun b g=>aO.enc (bI b g)) (fun b g=>[]) (fun _ _=>aO.ids _) (fun b g h=>pubK_fn b g)
theorem rpubK_ex (b s x v y:B32) (g:Int):eP ([rkseed_con,rvseed_con,rpublic_con.lift ng]:Cons Tryz.prog G3) tys Tryz.f15 100 [ak.enc b,(av .u64).enc g] [(7,[.s (ak.enc s)]),(8,[.s (ak.enc x)]),(10,[.s (ak.enc v)]),(11,[.s (ak.enc y)])]=some (aO.enc ⟨g,x,y⟩,[BOk b,ak.enc (kV b)=ak.enc s,ak.enc (kY s)=ak.enc x,BOk b,ak.enc (nJ b)=ak.enc v,ak.enc (kY v)=ak.enc y]):=by kernel_rfl
theorem rpubK_fn (b:B32) (g:Int) (hb:BOk b):ay Tryz.prog G3 15 [ak.enc b,(av .u64).enc g] (aO.enc (bI b g)):=ay.aD ah mixed Tryz.func15 (rpubK_ex b (kV b) (kY (kV b)) (nJ b) (kY (nJ b)) g) ⟨hb,rfl,rfl,hb,rfl,rfl,trivial⟩ (aO.ids _) rfl
noncomputable def rpubK_con:Con Tryz.prog G3:=jA 15 Tryz.f15 Tryz.func15 (by kernel_rfl) (by kernel_rfl) ak (av .u64) (fun b g=>aO.enc (bI b g)) (fun b g=>[BOk b]) (fun _ _=>aO.ids _) (fun b g h=>rpubK_fn b g h.1)
namespace ktx
noncomputable abbrev fn:=Tryz.f29
noncomputable def body:Code:=bZ fn
noncomputable def Γ {G:Glob}:Cons Tryz.prog G:=[num_con,enc.k5.con]
noncomputable def e (G:Glob) (c:Cert):St:=dz (Γ (G:=G)) tys 200 body ⟨aH fn [bK.enc c],[],[]⟩
def L (c:Cert):List (List Int):=[([99,101,114,116].drop 0).take 4,((b4 (numH c.k.gen)++b4 (numL c.k.gen)).drop 0).take 8,((c.k.sg.to++c.k.vr.to).drop 0).take 32,(c.k.vr.to.drop 0).take 32,((b4 (numH c.ep)++b4 (numL c.ep)).drop 0).take 8]
theorem ex {G:Glob} (c:Cert):exec (Γ (G:=G)) tys 200 body ⟨aH fn [bK.enc c],[],[]⟩=some (.ret,⟨(e G c).tm,(e G c).mem,(e G c).orc⟩,[0+4≤4,0+8≤((b4 (numH c.k.gen)++b4 (numL c.k.gen))).length,0+32≤(c.k.sg.to++c.k.vr.to).length,0+32≤c.k.vr.to.length,0+8≤((b4 (numH c.ep)++b4 (numL c.ep))).length,fC (L c)≤1048576]):=by kernel_rfl
theorem res {G:Glob} (c:Cert):eRes tys (e G c).tm (fun k=>(e G c).mem[k]?) fn.results.toList=some [.a (.sld 5 0 0 (fC (L c)) (fC (L c)))]:=by kernel_rfl
theorem row {G:Glob} (c:Cert):(e G c).mem[5]? =some ⟨true,5,.run .u8 (encB (L c))⟩:=by kernel_rfl
theorem L_eq (c:Cert) (h1:U64 c.k.gen) (h2:U64 c.ep):L c=ig c.k c.ep:=by
 have e1:(b4 (numH c.k.gen)++b4 (numL c.k.gen))=num8 c.k.gen:=num8_eq h1.1 h1.2
 have e2:(b4 (numH c.ep)++b4 (numL c.ep))=num8 c.ep:=num8_eq h2.1 h2.2
 unfold L ig
 rw[e1,e2,dt0 (num8 c.k.gen) 8 rfl,dt0 (num8 c.ep) 8 rfl,dt0 c.k.vr.to 32 rfl]
 rfl
theorem run {G:Glob} (c:Cert) (h1:U64 c.k.gen) (h2:U64 c.ep):aK Tryz.prog G 0 body (aH fn [bK.enc c]) [] (aN tys fn (bA (.o (.a (.sld 0 0 0 (fC (ig c.k c.ep)) (fC (ig c.k c.ep))))) (.new 5 (.run .u8 (lH c.k c.ep))))):=by
 have hL:=L_eq c h1 h2
 refine Runs.aQ ah mixed (ex c) ⟨by omega,by show 8≤8;omega,by show 32≤64;omega,by show 32≤32;omega,by show 8≤8;omega,by rw[hL];show 108≤1048576;omega,trivial⟩ (aN.ret (res c) ⟨5,?_,?_⟩)
 ·rw[hL];rfl
 ·rw[row,hL];rfl
def spec:List aV→Option (SV × dh × Cst)
 | [.val v]=>match bK.dec v with
  | some c=>some (.o (.a (.sld 0 0 0 (fC (ig c.k c.ep)) (fC (ig c.k c.ep)))),.new 5 (.run .u8 (lH c.k c.ep)),[U64 c.k.gen,U64 c.ep])
  | none=>none
 | _=>none
noncomputable def con {G:Glob}:Con Tryz.prog G:=Con.parts ah 29 fn Tryz.func29 (by kernel_rfl) (c:=body) (by kernel_rfl) [.val] spec
 (fun ps r e p h hp=>by
  unfold spec at h
  split at h
  ·split at h<;>cases h
   exact⟨rfl,fun b hb=>by cases hb⟩
  ·cases h)
 (fun ps r e p cap h hp hi=>by
  unfold spec at h
  split at h
  ·split at h<;>cases h
   rename_i c hc
   have:=bK.ok _ _ hc
   subst this
   exact run c hp.1 hp.2.1
  ·cases h)
end ktx
namespace rktx
noncomputable abbrev fn:=Tryz.f26
noncomputable def body:Code:=bZ fn
noncomputable def Γ {G:Glob}:Cons Tryz.prog G:=[rnum_con,renc.k5.con]
noncomputable def e (G:Glob) (c:Cert):St:=dz (Γ (G:=G)) tys 200 body ⟨aH fn [bK.enc c],[],[]⟩
def L (c:Cert):List (List Int):=[([99,101,114,116].drop 0).take 4,((num8 c.k.gen).drop 0).take 8,((c.k.sg.to++c.k.vr.to).drop 0).take 32,(c.k.vr.to.drop 0).take 32,((num8 c.ep).drop 0).take 8]
theorem ex {G:Glob} (c:Cert):exec (Γ (G:=G)) tys 200 body ⟨aH fn [bK.enc c],[],[]⟩=some (.ret,⟨(e G c).tm,(e G c).mem,(e G c).orc⟩,[0+4≤4,0+8≤((num8 c.k.gen)).length,0+32≤(c.k.sg.to++c.k.vr.to).length,0+32≤c.k.vr.to.length,0+8≤((num8 c.ep)).length,fC (L c)≤1048576]):=by kernel_rfl
theorem res {G:Glob} (c:Cert):eRes tys (e G c).tm (fun k=>(e G c).mem[k]?) fn.results.toList=some [.a (.slg 5 (fC (L c)))]:=by kernel_rfl
theorem row {G:Glob} (c:Cert):(e G c).mem[5]? =some ⟨true,5,.gro .u8 (encB (L c)) (fC (L c)) none⟩:=by kernel_rfl
theorem L_eq (c:Cert):L c=ig c.k c.ep:=by
 have e1:(num8 c.k.gen)=num8 c.k.gen:=rfl
 have e2:(num8 c.ep)=num8 c.ep:=rfl
 unfold L ig
 rw[e1,e2,dt0 (num8 c.k.gen) 8 rfl,dt0 (num8 c.ep) 8 rfl,dt0 c.k.vr.to 32 rfl]
 rfl
theorem run {G:Glob} (c:Cert):aK Tryz.prog G 0 body (aH fn [bK.enc c]) [] (aN tys fn (bA (.o (.a (.slg 0 (fC (ig c.k c.ep))))) (.new 5 (.gro .u8 (lH c.k c.ep) (fC (ig c.k c.ep)) none)))):=by
 have hL:=L_eq c
 refine Runs.aQ ah mixed (ex c) ⟨by omega,by show 8≤8;omega,by show 32≤64;omega,by show 32≤32;omega,by show 8≤8;omega,by rw[hL];show 108≤1048576;omega,trivial⟩ (aN.ret (res c) ⟨5,?_,?_⟩)
 ·rw[hL];rfl
 ·rw[row,hL];rfl
def spec:List aV→Option (SV × dh × Cst)
 | [.val v]=>match bK.dec v with
  | some c=>some (.o (.a (.slg 0 (fC (ig c.k c.ep)))),.new 5 (.gro .u8 (lH c.k c.ep) (fC (ig c.k c.ep)) none),[U64 c.k.gen,U64 c.ep])
  | none=>none
 | _=>none
noncomputable def con {G:Glob}:Con Tryz.prog G:=Con.parts ah 26 fn Tryz.func26 (by kernel_rfl) (c:=body) (by kernel_rfl) [.val] spec
 (fun ps r e p h hp=>by
  unfold spec at h
  split at h
  ·split at h<;>cases h
   exact⟨rfl,fun b hb=>by cases hb⟩
  ·cases h)
 (fun ps r e p cap h hp hi=>by
  unfold spec at h
  split at h
  ·split at h<;>cases h
   rename_i c hc
   have:=bK.ok _ _ hc
   subst this
   exact run c
  ·cases h)
end rktx
theorem wY (k:Keys) (ep:Int):(lH k ep).length=108:=by
 unfold lH
 rw[encB_len]
 rfl
theorem certM_dt (k:Keys) (ep:Int):((lH k ep).drop 0).take (fC (ig k ep))=lH k ep:=dt0 _ _ (wY k ep)
theorem rcert_ex (Z:B32→List Int→B64) (hZ:Z=sigV) (b s:B32) (k:Keys) (ep:Int) (D:B64):eP ([rkseed_con,rktx.con,(rsgn.con Z hZ).lift ng]:Cons Tryz.prog G3) tys Tryz.f16 100 [ak.enc b,aO.enc k,(av .u64).enc ep] [(12,[.s (ak.enc s)]),(15,[.s (bU.enc D)])]=some (bK.enc ⟨k,ep,D⟩,[BOk b,ak.enc (kV b)=ak.enc s,U64 k.gen,U64 ep,0+(fC (ig k ep))≤(lH k ep).length,(fC (ig k ep))≤(fC (ig k ep)),(fC (ig k ep))≤140737488353900,bU.enc (Z s (((lH k ep).drop 0).take (fC (ig k ep))))=bU.enc D]):=by kernel_rfl
theorem rcert_fn (b:B32) (k:Keys) (ep:Int) (hb:BOk b) (h1:U64 k.gen) (h2:U64 ep):ay Tryz.prog G3 16 [ak.enc b,aO.enc k,(av .u64).enc ep] (bK.enc (bQ b k ep)):=by
 have hl:=wY k ep
 have hT:=certT k ep
 exact ay.aD ah mixed Tryz.func16 (rcert_ex sigV rfl b (kV b) k ep (sigV (kV b) (lH k ep))) ⟨hb,rfl,h1,h2,by omega,by omega,by omega,by rw[certM_dt],trivial⟩ (bK.ids _) rfl
noncomputable def rcert_con (C:B32→Keys→Int→Cert) (hC:C=bQ):Con Tryz.prog G3:=Con.of 16 Tryz.f16 Tryz.func16 (by kernel_rfl) (by kernel_rfl) (fun
 | [x,y,.o (.a (.v (.int .u64 ep)))]=>match ak.dec x,aO.dec y with
  | some b,some k=>some (bK.enc (C b k ep),[BOk b,U64 k.gen,U64 ep])
  | _,_=>none
 | _=>none) fun args r c h=>by
  subst hC
  split at h<;>try cases h
  split at h<;>cases h
  rename_i h1 h2
  rw[←ak.ok _ _ h1,←aO.ok _ _ h2]
  exact⟨bK.ids _,fun h=>rcert_fn _ _ _ h.1 h.2.1 h.2.2.1⟩
noncomputable def badK (b:B32):Bool:=bif dG b then gK b else true
theorem rus_ex0 (b:B32) (z:Bool):eP ([yG.lift gx_g3]:Cons Tryz.prog G3) tys Tryz.f30 100 [ak.enc b] [(7,[.s (dw z 0)])]=some (aY.enc (!z),[BOk b,dw (jq b) (gZ (qOk b))=dw z 0]):=by kernel_rfl
theorem rus_ex2 (b:B32) (z:Bool):eP ([yG.lift gx_g3]:Cons Tryz.prog G3) tys Tryz.f30 100 [ak.enc b] [(7,[.s (dw z 2)])]=some (aY.enc false,[BOk b,dw (jq b) (gZ (qOk b))=dw z 2]):=by kernel_rfl
theorem rus_fn (b:B32) (hb:BOk b):ay Tryz.prog G3 30 [ak.enc b] (aY.enc (!badK b)):=by
 obtain⟨he,_⟩:=small_key hb
 have hs:=all_small hb
 unfold badK
 cases h:dG b with
 | true=>
  rw[h,cond_true] at he
  rw[cond_true,hs]
  exact ay.aD ah mixed Tryz.func30 (rus_ex0 b (jq b)) ⟨hb,by rw[he],trivial⟩ rfl rfl
 | false=>
  rw[h,cond_false] at he
  exact ay.aD ah mixed Tryz.func30 (rus_ex2 b (jq b)) ⟨hb,by rw[he],trivial⟩ rfl rfl
noncomputable def xK:Con Tryz.prog G3:=fQ 30 Tryz.f30 Tryz.func30 (by kernel_rfl) (by kernel_rfl) ak (fun b=>aY.enc (!badK b)) (fun b=>[BOk b]) (fun _=>rfl) (fun b h=>rus_fn b h.1)
def wF (a:Keys) (c:Cert):Bool:=a.gen==18446744073709551615|| !(c.k.gen==IntKind.u64.wrap (a.gen+1))
noncomputable def ccV (a:Keys) (c:Cert):Int:=bif wF a c then 1 else bif badK c.k.sg||badK c.k.vr then 2 else verV a.sg (lH c.k c.ep) c.sig
def KOk (k:Keys):Prop:=U64 k.gen∧BOk k.sg∧BOk k.vr
def COk (c:Cert):Prop:=KOk c.k∧U64 c.ep∧BOk (fB c.sig)
section
variable (V:B32→List Int→B64→Int) (hV:V=verV)
theorem cc_g1 (a:Keys) (c:Cert):eP ([oz.lift gx_g3,ktx.con,(ver.con V hV).lift ng]:Cons Tryz.prog G3) tys Tryz.f17 100 [aO.enc a,bK.enc c] [(11,[.b true])]=some ((av .i64).enc 1,[(a.gen==18446744073709551615)=true]):=by kernel_rfl
theorem cc_g2 (a:Keys) (c:Cert):eP ([oz.lift gx_g3,ktx.con,(ver.con V hV).lift ng]:Cons Tryz.prog G3) tys Tryz.f17 100 [aO.enc a,bK.enc c] [(11,[.b false]),(19,[.b true])]=some ((av .i64).enc 1,[(a.gen==18446744073709551615)=false,(!(c.k.gen==IntKind.u64.wrap (a.gen+1)))=true]):=by kernel_rfl
theorem cc_a (z:Bool) (a:Keys) (c:Cert):eP ([oz.lift gx_g3,ktx.con,(ver.con V hV).lift ng]:Cons Tryz.prog G3) tys Tryz.f17 100 [aO.enc a,bK.enc c] [(11,[.b false]),(19,[.b false]),(33,[.s (dw z 2)])]=some ((av .i64).enc 2,[(a.gen==18446744073709551615)=false,(!(c.k.gen==IntKind.u64.wrap (a.gen+1)))=false,dw (gK c.k.sg) (gZ (dG c.k.sg))=dw z 2]):=by kernel_rfl
theorem cc_b (a:Keys) (c:Cert):eP ([oz.lift gx_g3,ktx.con,(ver.con V hV).lift ng]:Cons Tryz.prog G3) tys Tryz.f17 100 [aO.enc a,bK.enc c] [(11,[.b false]),(19,[.b false]),(33,[.s (dw true 0)])]=some ((av .i64).enc 2,[(a.gen==18446744073709551615)=false,(!(c.k.gen==IntKind.u64.wrap (a.gen+1)))=false,dw (gK c.k.sg) (gZ (dG c.k.sg))=dw true 0]):=by kernel_rfl
theorem cc_ca (z:Bool) (a:Keys) (c:Cert):eP ([oz.lift gx_g3,ktx.con,(ver.con V hV).lift ng]:Cons Tryz.prog G3) tys Tryz.f17 100 [aO.enc a,bK.enc c] [(11,[.b false]),(19,[.b false]),(33,[.s (dw false 0),.s (dw z 2)])]=some ((av .i64).enc 2,[(a.gen==18446744073709551615)=false,(!(c.k.gen==IntKind.u64.wrap (a.gen+1)))=false,dw (gK c.k.sg) (gZ (dG c.k.sg))=dw false 0,dw (gK c.k.vr) (gZ (dG c.k.vr))=dw z 2]):=by kernel_rfl
theorem cc_cb (a:Keys) (c:Cert):eP ([oz.lift gx_g3,ktx.con,(ver.con V hV).lift ng]:Cons Tryz.prog G3) tys Tryz.f17 100 [aO.enc a,bK.enc c] [(11,[.b false]),(19,[.b false]),(33,[.s (dw false 0),.s (dw true 0)])]=some ((av .i64).enc 2,[(a.gen==18446744073709551615)=false,(!(c.k.gen==IntKind.u64.wrap (a.gen+1)))=false,dw (gK c.k.sg) (gZ (dG c.k.sg))=dw false 0,dw (gK c.k.vr) (gZ (dG c.k.vr))=dw true 0]):=by kernel_rfl
theorem cc_ok (r:Int) (a:Keys) (c:Cert):eP ([oz.lift gx_g3,ktx.con,(ver.con V hV).lift ng]:Cons Tryz.prog G3) tys Tryz.f17 100 [aO.enc a,bK.enc c] [(11,[.b false]),(19,[.b false]),(33,[.s (dw false 0),.s (dw false 0)]),(48,[.s ((av .i64).enc r)])]=some ((av .i64).enc r,[(a.gen==18446744073709551615)=false,(!(c.k.gen==IntKind.u64.wrap (a.gen+1)))=false,dw (gK c.k.sg) (gZ (dG c.k.sg))=dw false 0,dw (gK c.k.vr) (gZ (dG c.k.vr))=dw false 0,U64 c.k.gen,U64 c.ep,0+(fC (ig c.k c.ep))≤(lH c.k c.ep).length,(fC (ig c.k c.ep))≤(fC (ig c.k c.ep)),∀i,0≤(fB c.sig).at i∧(fB c.sig).at i<256,(fC (ig c.k c.ep))≤140737488353900,(av .i64).enc (V a.sg (((lH c.k c.ep).drop 0).take (fC (ig c.k c.ep))) c.sig)=(av .i64).enc r]):=by kernel_rfl
theorem rcc_g1 (a:Keys) (c:Cert):eP ([xK,rktx.con,(rver.con V hV).lift ng]:Cons Tryz.prog G3) tys Tryz.f18 100 [aO.enc a,bK.enc c] [(7,[.b true])]=some ((av .i64).enc 1,[(a.gen==18446744073709551615)=true]):=by kernel_rfl
theorem rcc_g2 (a:Keys) (c:Cert):eP ([xK,rktx.con,(rver.con V hV).lift ng]:Cons Tryz.prog G3) tys Tryz.f18 100 [aO.enc a,bK.enc c] [(7,[.b false]),(15,[.b true])]=some ((av .i64).enc 1,[(a.gen==18446744073709551615)=false,(!(c.k.gen==IntKind.u64.wrap (a.gen+1)))=true]):=by kernel_rfl
theorem rcc_a (a:Keys) (c:Cert):eP ([xK,rktx.con,(rver.con V hV).lift ng]:Cons Tryz.prog G3) tys Tryz.f18 100 [aO.enc a,bK.enc c] [(7,[.b false]),(15,[.b false]),(20,[.s (aY.enc false)])]=some ((av .i64).enc 2,[(a.gen==18446744073709551615)=false,(!(c.k.gen==IntKind.u64.wrap (a.gen+1)))=false,BOk c.k.sg,aY.enc (!badK c.k.sg)=aY.enc false]):=by kernel_rfl
theorem rcc_b (a:Keys) (c:Cert):eP ([xK,rktx.con,(rver.con V hV).lift ng]:Cons Tryz.prog G3) tys Tryz.f18 100 [aO.enc a,bK.enc c] [(7,[.b false]),(15,[.b false]),(20,[.s (aY.enc true)]),(26,[.s (aY.enc false)])]=some ((av .i64).enc 2,[(a.gen==18446744073709551615)=false,(!(c.k.gen==IntKind.u64.wrap (a.gen+1)))=false,BOk c.k.sg,aY.enc (!badK c.k.sg)=aY.enc true,BOk c.k.vr,aY.enc (!badK c.k.vr)=aY.enc false]):=by kernel_rfl
theorem rcc_ok (r:Int) (a:Keys) (c:Cert):eP ([xK,rktx.con,(rver.con V hV).lift ng]:Cons Tryz.prog G3) tys Tryz.f18 100 [aO.enc a,bK.enc c] [(7,[.b false]),(15,[.b false]),(20,[.s (aY.enc true)]),(26,[.s (aY.enc true)]),(35,[.s ((av .i64).enc r)])]=some ((av .i64).enc r,[(a.gen==18446744073709551615)=false,(!(c.k.gen==IntKind.u64.wrap (a.gen+1)))=false,BOk c.k.sg,aY.enc (!badK c.k.sg)=aY.enc true,BOk c.k.vr,aY.enc (!badK c.k.vr)=aY.enc true,U64 c.k.gen,U64 c.ep,0+(fC (ig c.k c.ep))≤(lH c.k c.ep).length,(fC (ig c.k c.ep))≤(fC (ig c.k c.ep)),BOk a.sg,BOk (fB c.sig),(fC (ig c.k c.ep))≤140737488353900,(av .i64).enc (V a.sg (((lH c.k c.ep).drop 0).take (fC (ig c.k c.ep))) c.sig)=(av .i64).enc r]):=by kernel_rfl
end
theorem badK_cases (b:B32):(dG b=false∧badK b=true)∨(dG b=true∧gK b=badK b):=by
 unfold badK
 cases h:dG b
 ·exact .inl ⟨rfl,rfl⟩
 ·exact .inr ⟨rfl,rfl⟩
theorem fz_bad {b:B32} (h:dG b=false):dw (gK b) (gZ (dG b))=dw (gK b) 2:=by rw[h];rfl
theorem fz_of {b:B32} {t:Bool} (h:dG b=true) (h2:gK b=t):dw (gK b) (gZ (dG b))=dw t 0:=by rw[h,h2];rfl
theorem cc_fn (a:Keys) (c:Cert) (hc:COk c):ay Tryz.prog G3 17 [aO.enc a,bK.enc c] ((av .i64).enc (ccV a c)):=by
 have hl:=wY c.k c.ep
 have hT:=certT c.k c.ep
 unfold ccV
 cases hg:wF a c with
 | true=>
  rw[cond_true]
  unfold wF at hg
  cases h0:(a.gen==18446744073709551615) with
  | true=>exact ay.aD ah mixed Tryz.func17 (cc_g1 verV rfl a c) ⟨h0,trivial⟩ rfl rfl
  | false=>
   rw[h0,Bool.false_or] at hg
   exact ay.aD ah mixed Tryz.func17 (cc_g2 verV rfl a c) ⟨h0,hg,trivial⟩ rfl rfl
 | false=>
  rw[cond_false]
  unfold wF at hg
  rw[Bool.or_eq_false_iff] at hg
  obtain⟨h0,h1⟩:=hg
  rcases badK_cases c.k.sg with⟨d1,b1⟩ | ⟨d1,b1⟩
  ·rw[b1,Bool.true_or,cond_true]
   exact ay.aD ah mixed Tryz.func17 (cc_a verV rfl (gK c.k.sg) a c) ⟨h0,h1,fz_bad d1,trivial⟩ rfl rfl
  ·cases s1:badK c.k.sg with
   | true=>
    rw[Bool.true_or,cond_true]
    exact ay.aD ah mixed Tryz.func17 (cc_b verV rfl a c) ⟨h0,h1,fz_of d1 (b1.trans s1),trivial⟩ rfl rfl
   | false=>
    rw[Bool.false_or]
    rcases badK_cases c.k.vr with⟨d2,b2⟩ | ⟨d2,b2⟩
    ·rw[b2,cond_true]
     exact ay.aD ah mixed Tryz.func17 (cc_ca verV rfl (gK c.k.vr) a c) ⟨h0,h1,fz_of d1 (b1.trans s1),fz_bad d2,trivial⟩ rfl rfl
    ·cases s2:badK c.k.vr with
     | true=>
      rw[cond_true]
      exact ay.aD ah mixed Tryz.func17 (cc_cb verV rfl a c) ⟨h0,h1,fz_of d1 (b1.trans s1),fz_of d2 (b2.trans s2),trivial⟩ rfl rfl
     | false=>
      rw[cond_false]
      exact ay.aD ah mixed Tryz.func17 (cc_ok verV rfl (verV a.sg (lH c.k c.ep) c.sig) a c) ⟨h0,h1,fz_of d1 (b1.trans s1),fz_of d2 (b2.trans s2),hc.1.1,hc.2.1,by omega,by omega,hc.2.2,by omega,by rw[certM_dt],trivial⟩ rfl rfl
theorem rcc_fn (a:Keys) (c:Cert) (ha:BOk a.sg) (hc:COk c):ay Tryz.prog G3 18 [aO.enc a,bK.enc c] ((av .i64).enc (ccV a c)):=by
 have hl:=wY c.k c.ep
 have hT:=certT c.k c.ep
 unfold ccV
 cases hg:wF a c with
 | true=>
  rw[cond_true]
  unfold wF at hg
  cases h0:(a.gen==18446744073709551615) with
  | true=>exact ay.aD ah mixed Tryz.func18 (rcc_g1 verV rfl a c) ⟨h0,trivial⟩ rfl rfl
  | false=>
   rw[h0,Bool.false_or] at hg
   exact ay.aD ah mixed Tryz.func18 (rcc_g2 verV rfl a c) ⟨h0,hg,trivial⟩ rfl rfl
 | false=>
  rw[cond_false]
  unfold wF at hg
  rw[Bool.or_eq_false_iff] at hg
  obtain⟨h0,h1⟩:=hg
  cases s1:badK c.k.sg with
  | true=>
   rw[Bool.true_or,cond_true]
   exact ay.aD ah mixed Tryz.func18 (rcc_a verV rfl a c) ⟨h0,h1,hc.1.2.1,by rw[s1];rfl,trivial⟩ rfl rfl
  | false=>
   rw[Bool.false_or]
   cases s2:badK c.k.vr with
   | true=>
    rw[cond_true]
    exact ay.aD ah mixed Tryz.func18 (rcc_b verV rfl a c) ⟨h0,h1,hc.1.2.1,by rw[s1];rfl,hc.1.2.2,by rw[s2];rfl,trivial⟩ rfl rfl
   | false=>
    rw[cond_false]
    exact ay.aD ah mixed Tryz.func18 (rcc_ok verV rfl (verV a.sg (lH c.k c.ep) c.sig) a c) ⟨h0,h1,hc.1.2.1,by rw[s1];rfl,hc.1.2.2,by rw[s2];rfl,hc.1.1,hc.2.1,by omega,by omega,ha,hc.2.2,by omega,by rw[certM_dt],trivial⟩ rfl rfl
noncomputable def cc_con (V:Keys→Cert→Int) (hV:V=ccV):Con Tryz.prog G3:=jA 17 Tryz.f17 Tryz.func17 (by kernel_rfl) (by kernel_rfl) aO bK (fun a c=>(av .i64).enc (V a c)) (fun a c=>[COk c]) (fun _ _=>rfl) (fun a c h=>by subst hV;exact cc_fn a c h.1)
noncomputable def rcc_con (V:Keys→Cert→Int) (hV:V=ccV):Con Tryz.prog G3:=jA 18 Tryz.f18 Tryz.func18 (by kernel_rfl) (by kernel_rfl) aO bK (fun a c=>(av .i64).enc (V a c)) (fun a c=>[BOk a.sg,COk c]) (fun _ _=>rfl) (fun a c h=>by subst hV;exact rcc_fn a c h.1 h.2.1)
end Go.Proofs.YthlmepolmemejaaGreatDoor

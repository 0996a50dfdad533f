/- Packages keyring and beaconref14: Public, what is signed of a certificate, Certify, CheckCert: walks, contracts. -/
import Derived.Test.YthlmepolmemejaaGreatDoorHKeyA
import Derived.Test.YthlmepolmemejaaGreatDoorHMZ
import Derived.Test.YthlmepolmemejaaGreatDoorHMW
namespace Go.Proofs.YthlmepolmemejaaGreatDoor
open Go Go.Eng Go.RowKit
set_option linter.unusedVariables false
set_option linter.unusedSimpArgs false
set_option maxRecDepth 100000
noncomputable def aQ (b:B32) (g:Int):Keys:=⟨g,pubV (seedS b),pubV (seedV b)⟩
def wCert:List Int:=[99,101,114,116]
def certL (k:Keys) (ep:Int):List (List Int):=[wCert,num8 k.gen,k.sg.to,k.vr.to,num8 ep]
def certM (k:Keys) (ep:Int):List Int:=encB (certL k ep)
noncomputable def aW (b:B32) (k:Keys) (ep:Int):Cert:=⟨k,ep,sigV (seedS b) (certM k ep)⟩
theorem certT (k:Keys) (ep:Int):encT (certL k ep)=108:=rfl
theorem pubK_ex (b s x v y:B32) (g:Int):runOut ([kseed_con,vseed_con,public_con.lift g2_g3]:Cons Tryz.prog G3) tys Tryz.f14 100 [cB32.enc b,(cInt .u64).enc g] [(7,[.s (cB32.enc s)]),(8,[.s (cB32.enc x)]),(10,[.s (cB32.enc v)]),(11,[.s (cB32.enc y)])]=some (aK.enc ⟨g,x,y⟩,[cB32.enc (seedS b)=cB32.enc s,cB32.enc (pubV s)=cB32.enc x,cB32.enc (seedV b)=cB32.enc v,cB32.enc (pubV v)=cB32.enc y]):=by kernel_rfl
theorem pubK_fn (b:B32) (g:Int):FnOk Tryz.prog G3 14 [cB32.enc b,(cInt .u64).enc g] (aK.enc (aQ b g)):=FnOk.av ah mixed Tryz.func14 (pubK_ex b (seedS b) (pubV (seedS b)) (seedV b) (pubV (seedV b)) g) ⟨rfl,rfl,rfl,rfl,trivial⟩ (aK.ids _) rfl
noncomputable def pubK_con:Con Tryz.prog G3:=con2 14 Tryz.f14 Tryz.func14 (by kernel_rfl) (by kernel_rfl) cB32 (cInt .u64) (fun b g=>aK.enc (aQ b g)) (fun b g=>[]) (fun _ _=>aK.ids _) (fun b g h=>pubK_fn b g)
theorem rpubK_ex (b s x v y:B32) (g:Int):runOut ([rkseed_con,rvseed_con,rpublic_con.lift g2_g3]:Cons Tryz.prog G3) tys Tryz.f15 100 [cB32.enc b,(cInt .u64).enc g] [(7,[.s (cB32.enc s)]),(8,[.s (cB32.enc x)]),(10,[.s (cB32.enc v)]),(11,[.s (cB32.enc y)])]=some (aK.enc ⟨g,x,y⟩,[BOk b,cB32.enc (seedS b)=cB32.enc s,cB32.enc (pubV s)=cB32.enc x,BOk b,cB32.enc (seedV b)=cB32.enc v,cB32.enc (pubV v)=cB32.enc y]):=by kernel_rfl
theorem rpubK_fn (b:B32) (g:Int) (hb:BOk b):FnOk Tryz.prog G3 15 [cB32.enc b,(cInt .u64).enc g] (aK.enc (aQ b g)):=FnOk.av ah mixed Tryz.func15 (rpubK_ex b (seedS b) (pubV (seedS b)) (seedV b) (pubV (seedV b)) g) ⟨hb,rfl,rfl,hb,rfl,rfl,trivial⟩ (aK.ids _) rfl
noncomputable def rpubK_con:Con Tryz.prog G3:=con2 15 Tryz.f15 Tryz.func15 (by kernel_rfl) (by kernel_rfl) cB32 (cInt .u64) (fun b g=>aK.enc (aQ b g)) (fun b g=>[BOk b]) (fun _ _=>aK.ids _) (fun b g h=>rpubK_fn b g h.1)
namespace ktx
noncomputable abbrev fn:=Tryz.f29
noncomputable def body:Code:=bL fn
noncomputable def Γ {G:Glob}:Cons Tryz.prog G:=[num_con,enc.k5.con]
noncomputable def e (G:Glob) (c:Cert):St:=outS (Γ (G:=G)) tys 200 body ⟨aB fn [bK.enc c],[],[]⟩
def L (c:Cert):List (List Int):=[([99,101,114,116].drop 0).take 4,((b4 (numH c.k.gen)++b4 (numL c.k.gen)).drop 0).take 8,((c.k.sg.to++c.k.vr.to).drop 0).take 32,(c.k.vr.to.drop 0).take 32,((b4 (numH c.ep)++b4 (numL c.ep)).drop 0).take 8]
theorem ex {G:Glob} (c:Cert):exec (Γ (G:=G)) tys 200 body ⟨aB fn [bK.enc c],[],[]⟩=some (.ret,⟨(e G c).tm,(e G c).mem,(e G c).orc⟩,[0+4≤4,0+8≤((b4 (numH c.k.gen)++b4 (numL c.k.gen))).length,0+32≤(c.k.sg.to++c.k.vr.to).length,0+32≤c.k.vr.to.length,0+8≤((b4 (numH c.ep)++b4 (numL c.ep))).length,encT (L c)≤1048576]):=by kernel_rfl
theorem res {G:Glob} (c:Cert):eRes tys (e G c).tm (fun k=>(e G c).mem[k]?) fn.results.toList=some [.a (.sld 5 0 0 (encT (L c)) (encT (L c)))]:=by kernel_rfl
theorem row {G:Glob} (c:Cert):(e G c).mem[5]? =some ⟨true,5,.run .u8 (encB (L c))⟩:=by kernel_rfl
theorem L_eq (c:Cert) (h1:U64 c.k.gen) (h2:U64 c.ep):L c=certL c.k c.ep:=by
 have e1:(b4 (numH c.k.gen)++b4 (numL c.k.gen))=num8 c.k.gen:=num8_eq h1.1 h1.2
 have e2:(b4 (numH c.ep)++b4 (numL c.ep))=num8 c.ep:=num8_eq h2.1 h2.2
 unfold L certL
 rw[e1,e2,dt0 (num8 c.k.gen) 8 rfl,dt0 (num8 c.ep) 8 rfl,dt0 c.k.vr.to 32 rfl]
 rfl
theorem run {G:Glob} (c:Cert) (h1:U64 c.k.gen) (h2:U64 c.ep):aD Tryz.prog G 0 body (aB fn [bK.enc c]) [] (aF tys fn (aX (.o (.a (.sld 0 0 0 (encT (certL c.k c.ep)) (encT (certL c.k c.ep))))) (.new 5 (.run .u8 (certM c.k c.ep))))):=by
 have hL:=L_eq c h1 h2
 refine Runs.aG ah mixed (ex c) ⟨by omega,by show 8≤8;omega,by show 32≤64;omega,by show 32≤32;omega,by show 8≤8;omega,by rw[hL];show 108≤1048576;omega,trivial⟩ (aF.ret (res c) ⟨5,?_,?_⟩)
 ·rw[hL];rfl
 ·rw[row,hL];rfl
def spec:List PArg→Option (SV × LEff × Cst)
 | [.val v]=>match bK.dec v with
  | some c=>some (.o (.a (.sld 0 0 0 (encT (certL c.k c.ep)) (encT (certL c.k c.ep)))),.new 5 (.run .u8 (certM c.k c.ep)),[U64 c.k.gen,U64 c.ep])
  | none=>none
 | _=>none
noncomputable def con {G:Glob}:Con Tryz.prog G:=Con.parts ah 29 fn Tryz.func29 (by kernel_rfl) (c:=body) (by kernel_rfl) [.val] spec
 (fun ps r e p h hp=>by
  unfold spec at h
  split at h
  ·split at h<;>cases h
   exact⟨rfl,fun b hb=>by cases hb⟩
  ·cases h)
 (fun ps r e p cap h hp hi=>by
  unfold spec at h
  split at h
  ·split at h<;>cases h
   rename_i c hc
   have:=bK.ok _ _ hc
   subst this
   exact run c hp.1 hp.2.1
  ·cases h)
end ktx
namespace rktx
noncomputable abbrev fn:=Tryz.f26
noncomputable def body:Code:=bL fn
noncomputable def Γ {G:Glob}:Cons Tryz.prog G:=[rnum_con,renc.k5.con]
noncomputable def e (G:Glob) (c:Cert):St:=outS (Γ (G:=G)) tys 200 body ⟨aB fn [bK.enc c],[],[]⟩
def L (c:Cert):List (List Int):=[([99,101,114,116].drop 0).take 4,((num8 c.k.gen).drop 0).take 8,((c.k.sg.to++c.k.vr.to).drop 0).take 32,(c.k.vr.to.drop 0).take 32,((num8 c.ep).drop 0).take 8]
theorem ex {G:Glob} (c:Cert):exec (Γ (G:=G)) tys 200 body ⟨aB fn [bK.enc c],[],[]⟩=some (.ret,⟨(e G c).tm,(e G c).mem,(e G c).orc⟩,[0+4≤4,0+8≤((num8 c.k.gen)).length,0+32≤(c.k.sg.to++c.k.vr.to).length,0+32≤c.k.vr.to.length,0+8≤((num8 c.ep)).length,encT (L c)≤1048576]):=by kernel_rfl
theorem res {G:Glob} (c:Cert):eRes tys (e G c).tm (fun k=>(e G c).mem[k]?) fn.results.toList=some [.a (.slg 5 (encT (L c)))]:=by kernel_rfl
theorem row {G:Glob} (c:Cert):(e G c).mem[5]? =some ⟨true,5,.gro .u8 (encB (L c)) (encT (L c)) none⟩:=by kernel_rfl
theorem L_eq (c:Cert):L c=certL c.k c.ep:=by
 have e1:(num8 c.k.gen)=num8 c.k.gen:=rfl
 have e2:(num8 c.ep)=num8 c.ep:=rfl
 unfold L certL
 rw[e1,e2,dt0 (num8 c.k.gen) 8 rfl,dt0 (num8 c.ep) 8 rfl,dt0 c.k.vr.to 32 rfl]
 rfl
theorem run {G:Glob} (c:Cert):aD Tryz.prog G 0 body (aB fn [bK.enc c]) [] (aF tys fn (aX (.o (.a (.slg 0 (encT (certL c.k c.ep))))) (.new 5 (.gro .u8 (certM c.k c.ep) (encT (certL c.k c.ep)) none)))):=by
 have hL:=L_eq c
 refine Runs.aG ah mixed (ex c) ⟨by omega,by show 8≤8;omega,by show 32≤64;omega,by show 32≤32;omega,by show 8≤8;omega,by rw[hL];show 108≤1048576;omega,trivial⟩ (aF.ret (res c) ⟨5,?_,?_⟩)
 ·rw[hL];rfl
 ·rw[row,hL];rfl
def spec:List PArg→Option (SV × LEff × Cst)
 | [.val v]=>match bK.dec v with
  | some c=>some (.o (.a (.slg 0 (encT (certL c.k c.ep)))),.new 5 (.gro .u8 (certM c.k c.ep) (encT (certL c.k c.ep)) none),[U64 c.k.gen,U64 c.ep])
  | none=>none
 | _=>none
noncomputable def con {G:Glob}:Con Tryz.prog G:=Con.parts ah 26 fn Tryz.func26 (by kernel_rfl) (c:=body) (by kernel_rfl) [.val] spec
 (fun ps r e p h hp=>by
  unfold spec at h
  split at h
  ·split at h<;>cases h
   exact⟨rfl,fun b hb=>by cases hb⟩
  ·cases h)
 (fun ps r e p cap h hp hi=>by
  unfold spec at h
  split at h
  ·split at h<;>cases h
   rename_i c hc
   have:=bK.ok _ _ hc
   subst this
   exact run c
  ·cases h)
end rktx
theorem certM_len (k:Keys) (ep:Int):(certM k ep).length=108:=by
 unfold certM
 rw[encB_len]
 rfl
theorem certM_dt (k:Keys) (ep:Int):((certM k ep).drop 0).take (encT (certL k ep))=certM k ep:=dt0 _ _ (certM_len k ep)
theorem rcert_ex (Z:B32→List Int→B64) (hZ:Z=sigV) (b s:B32) (k:Keys) (ep:Int) (D:B64):runOut ([rkseed_con,rktx.con,(rsgn.con Z hZ).lift g2_g3]:Cons Tryz.prog G3) tys Tryz.f16 100 [cB32.enc b,aK.enc k,(cInt .u64).enc ep] [(12,[.s (cB32.enc s)]),(15,[.s (cB64.enc D)])]=some (bK.enc ⟨k,ep,D⟩,[BOk b,cB32.enc (seedS b)=cB32.enc s,U64 k.gen,U64 ep,0+(encT (certL k ep))≤(certM k ep).length,(encT (certL k ep))≤(encT (certL k ep)),(encT (certL k ep))≤140737488353900,cB64.enc (Z s (((certM k ep).drop 0).take (encT (certL k ep))))=cB64.enc D]):=by kernel_rfl
theorem rcert_fn (b:B32) (k:Keys) (ep:Int) (hb:BOk b) (h1:U64 k.gen) (h2:U64 ep):FnOk Tryz.prog G3 16 [cB32.enc b,aK.enc k,(cInt .u64).enc ep] (bK.enc (aW b k ep)):=by
 have hl:=certM_len k ep
 have hT:=certT k ep
 exact FnOk.av ah mixed Tryz.func16 (rcert_ex sigV rfl b (seedS b) k ep (sigV (seedS b) (certM k ep))) ⟨hb,rfl,h1,h2,by omega,by omega,by omega,by rw[certM_dt],trivial⟩ (bK.ids _) rfl
noncomputable def rcert_con (C:B32→Keys→Int→Cert) (hC:C=aW):Con Tryz.prog G3:=Con.of 16 Tryz.f16 Tryz.func16 (by kernel_rfl) (by kernel_rfl) (fun
 | [x,y,.o (.a (.v (.int .u64 ep)))]=>match cB32.dec x,aK.dec y with
  | some b,some k=>some (bK.enc (C b k ep),[BOk b,U64 k.gen,U64 ep])
  | _,_=>none
 | _=>none) fun args r c h=>by
  subst hC
  split at h<;>try cases h
  split at h<;>cases h
  rename_i h1 h2
  rw[←cB32.ok _ _ h1,←aK.ok _ _ h2]
  exact⟨bK.ids _,fun h=>rcert_fn _ _ _ h.1 h.2.1 h.2.2.1⟩
noncomputable def badK (b:B32):Bool:=bif decOk b then psmallF b else true
def genBad (a:Keys) (c:Cert):Bool:=a.gen==18446744073709551615|| !(c.k.gen==IntKind.u64.wrap (a.gen+1))
noncomputable def ccV (a:Keys) (c:Cert):Int:=bif genBad a c then 1 else bif badK c.k.sg||badK c.k.vr then 2 else verV a.sg (certM c.k c.ep) c.sig
def KOk (k:Keys):Prop:=U64 k.gen∧BOk k.sg∧BOk k.vr
def COk (c:Cert):Prop:=KOk c.k∧U64 c.ep∧BOk (hi64 c.sig)
section
variable (V:B32→List Int→B64→Int) (hV:V=verV)
theorem cc_g1 (a:Keys) (c:Cert):runOut ([psmall_con.lift gx_g3,ktx.con,(ver.con V hV).lift g2_g3]:Cons Tryz.prog G3) tys Tryz.f17 100 [aK.enc a,bK.enc c] [(11,[.b true])]=some ((cInt .i64).enc 1,[(a.gen==18446744073709551615)=true]):=by kernel_rfl
theorem cc_g2 (a:Keys) (c:Cert):runOut ([psmall_con.lift gx_g3,ktx.con,(ver.con V hV).lift g2_g3]:Cons Tryz.prog G3) tys Tryz.f17 100 [aK.enc a,bK.enc c] [(11,[.b false]),(19,[.b true])]=some ((cInt .i64).enc 1,[(a.gen==18446744073709551615)=false,(!(c.k.gen==IntKind.u64.wrap (a.gen+1)))=true]):=by kernel_rfl
theorem cc_a (z:Bool) (a:Keys) (c:Cert):runOut ([psmall_con.lift gx_g3,ktx.con,(ver.con V hV).lift g2_g3]:Cons Tryz.prog G3) tys Tryz.f17 100 [aK.enc a,bK.enc c] [(11,[.b false]),(19,[.b false]),(33,[.s (flagZ z 2)])]=some ((cInt .i64).enc 2,[(a.gen==18446744073709551615)=false,(!(c.k.gen==IntKind.u64.wrap (a.gen+1)))=false,flagZ (psmallF c.k.sg) (errOf (decOk c.k.sg))=flagZ z 2]):=by kernel_rfl
theorem cc_b (a:Keys) (c:Cert):runOut ([psmall_con.lift gx_g3,ktx.con,(ver.con V hV).lift g2_g3]:Cons Tryz.prog G3) tys Tryz.f17 100 [aK.enc a,bK.enc c] [(11,[.b false]),(19,[.b false]),(33,[.s (flagZ true 0)])]=some ((cInt .i64).enc 2,[(a.gen==18446744073709551615)=false,(!(c.k.gen==IntKind.u64.wrap (a.gen+1)))=false,flagZ (psmallF c.k.sg) (errOf (decOk c.k.sg))=flagZ true 0]):=by kernel_rfl
theorem cc_ca (z:Bool) (a:Keys) (c:Cert):runOut ([psmall_con.lift gx_g3,ktx.con,(ver.con V hV).lift g2_g3]:Cons Tryz.prog G3) tys Tryz.f17 100 [aK.enc a,bK.enc c] [(11,[.b false]),(19,[.b false]),(33,[.s (flagZ false 0),.s (flagZ z 2)])]=some ((cInt .i64).enc 2,[(a.gen==18446744073709551615)=false,(!(c.k.gen==IntKind.u64.wrap (a.gen+1)))=false,flagZ (psmallF c.k.sg) (errOf (decOk c.k.sg))=flagZ false 0,flagZ (psmallF c.k.vr) (errOf (decOk c.k.vr))=flagZ z 2]):=by kernel_rfl
theorem cc_cb (a:Keys) (c:Cert):runOut ([psmall_con.lift gx_g3,ktx.con,(ver.con V hV).lift g2_g3]:Cons Tryz.prog G3) tys Tryz.f17 100 [aK.enc a,bK.enc c] [(11,[.b false]),(19,[.b false]),(33,[.s (flagZ false 0),.s (flagZ true 0)])]=some ((cInt .i64).enc 2,[(a.gen==18446744073709551615)=false,(!(c.k.gen==IntKind.u64.wrap (a.gen+1)))=false,flagZ (psmallF c.k.sg) (errOf (decOk c.k.sg))=flagZ false 0,flagZ (psmallF c.k.vr) (errOf (decOk c.k.vr))=flagZ true 0]):=by kernel_rfl
theorem cc_ok (r:Int) (a:Keys) (c:Cert):runOut ([psmall_con.lift gx_g3,ktx.con,(ver.con V hV).lift g2_g3]:Cons Tryz.prog G3) tys Tryz.f17 100 [aK.enc a,bK.enc c] [(11,[.b false]),(19,[.b false]),(33,[.s (flagZ false 0),.s (flagZ false 0)]),(48,[.s ((cInt .i64).enc r)])]=some ((cInt .i64).enc r,[(a.gen==18446744073709551615)=false,(!(c.k.gen==IntKind.u64.wrap (a.gen+1)))=false,flagZ (psmallF c.k.sg) (errOf (decOk c.k.sg))=flagZ false 0,flagZ (psmallF c.k.vr) (errOf (decOk c.k.vr))=flagZ false 0,U64 c.k.gen,U64 c.ep,0+(encT (certL c.k c.ep))≤(certM c.k c.ep).length,(encT (certL c.k c.ep))≤(encT (certL c.k c.ep)),∀i,0≤(hi64 c.sig).at i∧(hi64 c.sig).at i<256,(encT (certL c.k c.ep))≤140737488353900,(cInt .i64).enc (V a.sg (((certM c.k c.ep).drop 0).take (encT (certL c.k c.ep))) c.sig)=(cInt .i64).enc r]):=by kernel_rfl
end
theorem badK_cases (b:B32):(decOk b=false∧badK b=true)∨(decOk b=true∧psmallF b=badK b):=by
 unfold badK
 cases h:decOk b
 ·exact .inl ⟨rfl,rfl⟩
 ·exact .inr ⟨rfl,rfl⟩
theorem fz_bad {b:B32} (h:decOk b=false):flagZ (psmallF b) (errOf (decOk b))=flagZ (psmallF b) 2:=by rw[h];rfl
theorem fz_of {b:B32} {t:Bool} (h:decOk b=true) (h2:psmallF b=t):flagZ (psmallF b) (errOf (decOk b))=flagZ t 0:=by rw[h,h2];rfl
theorem cc_fn (a:Keys) (c:Cert) (hc:COk c):FnOk Tryz.prog G3 17 [aK.enc a,bK.enc c] ((cInt .i64).enc (ccV a c)):=by
 have hl:=certM_len c.k c.ep
 have hT:=certT c.k c.ep
 unfold ccV
 cases hg:genBad a c with
 | true=>
  rw[cond_true]
  unfold genBad at hg
  cases h0:(a.gen==18446744073709551615) with
  | true=>exact FnOk.av ah mixed Tryz.func17 (cc_g1 verV rfl a c) ⟨h0,trivial⟩ rfl rfl
  | false=>
   rw[h0,Bool.false_or] at hg
   exact FnOk.av ah mixed Tryz.func17 (cc_g2 verV rfl a c) ⟨h0,hg,trivial⟩ rfl rfl
 | false=>
  rw[cond_false]
  unfold genBad at hg
  rw[Bool.or_eq_false_iff] at hg
  obtain⟨h0,h1⟩:=hg
  rcases badK_cases c.k.sg with⟨d1,b1⟩ | ⟨d1,b1⟩
  ·rw[b1,Bool.true_or,cond_true]
   exact FnOk.av ah mixed Tryz.func17 (cc_a verV rfl (psmallF c.k.sg) a c) ⟨h0,h1,fz_bad d1,trivial⟩ rfl rfl
  ·cases s1:badK c.k.sg with
   | true=>
    rw[Bool.true_or,cond_true]
    exact FnOk.av ah mixed Tryz.func17 (cc_b verV rfl a c) ⟨h0,h1,fz_of d1 (b1.trans s1),trivial⟩ rfl rfl
   | false=>
    rw[Bool.false_or]
    rcases badK_cases c.k.vr with⟨d2,b2⟩ | ⟨d2,b2⟩
    ·rw[b2,cond_true]
     exact FnOk.av ah mixed Tryz.func17 (cc_ca verV rfl (psmallF c.k.vr) a c) ⟨h0,h1,fz_of d1 (b1.trans s1),fz_bad d2,trivial⟩ rfl rfl
    ·cases s2:badK c.k.vr with
     | true=>
      rw[cond_true]
      exact FnOk.av ah mixed Tryz.func17 (cc_cb verV rfl a c) ⟨h0,h1,fz_of d1 (b1.trans s1),fz_of d2 (b2.trans s2),trivial⟩ rfl rfl
     | false=>
      rw[cond_false]
      exact FnOk.av ah mixed Tryz.func17 (cc_ok verV rfl (verV a.sg (certM c.k c.ep) c.sig) a c) ⟨h0,h1,fz_of d1 (b1.trans s1),fz_of d2 (b2.trans s2),hc.1.1,hc.2.1,by omega,by omega,hc.2.2,by omega,by rw[certM_dt],trivial⟩ rfl rfl
noncomputable def cc_con (V:Keys→Cert→Int) (hV:V=ccV):Con Tryz.prog G3:=con2 17 Tryz.f17 Tryz.func17 (by kernel_rfl) (by kernel_rfl) aK bK (fun a c=>(cInt .i64).enc (V a c)) (fun a c=>[COk c]) (fun _ _=>rfl) (fun a c h=>by subst hV;exact cc_fn a c h.1)
end Go.Proofs.YthlmepolmemejaaGreatDoor

/- The law of made keys and certificates: walked; its content. -/
import Derived.Test.YtbfndladaldajaaGreatDoorJKeyO
namespace Go.Proofs.YtbfndladaldajaaGreatDoor
open Go Go.Eng Go.RowKit
set_option linter.unusedVariables false
set_option linter.unusedSimpArgs false
set_option maxRecDepth 100000
namespace lkmk
noncomputable abbrev fn:=Tryz.f3
noncomputable def Γ (C:B32→Keys→Int→Cert) (hC:C=certV):Cons Tryz.prog G3:=[kawake_con,kseed_con,rkseed_con,vseed_con,rvseed_con,pubK_con,rpubK_con,cert_con C hC,rcert_con C hC]
theorem ex (C:B32→Keys→Int→Cert) (hC:C=certV) (b s t:B32) (k kk:Keys) (ep:Int) (cc:Cert):bM (Γ C hC) tys fn 200 [cB32.enc b,bf.enc k,(cInt .u64).enc ep] [(10,[.s (cB32.enc s)]),(12,[.s (cB32.enc s)]),(13,[.b true]),(16,[.s (cB32.enc t)]),(18,[.s (cB32.enc t)]),(19,[.b true]),(25,[.s (bf.enc kk)]),(29,[.s (bf.enc kk)]),(30,[.b true]),(36,[.s (bD.enc cc)]),(40,[.s (bD.enc cc)]),(41,[.b true])]=some (aN.enc true,[cB32.enc (seedS b)=cB32.enc s,BOk b,cB32.enc (seedS b)=cB32.enc s,sameK s.to=true,cB32.enc (seedV b)=cB32.enc t,BOk b,cB32.enc (seedV b)=cB32.enc t,sameK t.to=true,bf.enc (keysV b k.gen)=bf.enc kk,BOk b,bf.enc (keysV b k.gen)=bf.enc kk,FlatEq Tryz.prog 25 (.u64::List.replicate 64 .u8),sameK kk.to=true,U64 k.gen,U64 ep,bD.enc (C b k ep)=bD.enc cc,BOk b,U64 k.gen,U64 ep,bD.enc (C b k ep)=bD.enc cc,FlatEq Tryz.prog 31 (.u64::(List.replicate 64 .u8++ .u64::List.replicate 64 .u8)),sameK cc.to=true]):=by kernel_rfl
theorem fn_ok (b:B32) (k:Keys) (ep:Int) (hb:BOk b) (hk:KOk k) (he:U64 ep):FnOk Tryz.prog G3 3 [cB32.enc b,bf.enc k,(cInt .u64).enc ep] (aN.enc true):=
 FnOk.av ah mixed Tryz.func3 (ex certV rfl b (seedS b) (seedV b) k (keysV b k.gen) ep (certV b k ep)) ⟨rfl,hb,rfl,sameK_true _,rfl,hb,rfl,sameK_true _,rfl,hb,rfl,flat_keys,sameK_true _,hk.1,he,rfl,hb,hk.1,he,rfl,flat_cert,sameK_true _,trivial⟩ rfl rfl
end lkmk
theorem lkmk_ok (b:B32) (k:Keys) (ep:Int) (W:World) (hb:BOk b) (hk:KOk k) (he:(Lit.int .u64 ep).wf=true) (hg:GlobOk G3 W):
  Calls Tryz.prog 3 #[(cB32.enc b).den lam0,(bf.enc k).den lam0,.int .u64 ep] W fun e W'=>e= .returned (.bool true)∧Below W.heap.size W W':=lkmk.fn_ok b k ep hb hk (u64_wf he) W lam0 hg
end Go.Proofs.YtbfndladaldajaaGreatDoor

/- Packages keyring and beaconref14: Public, what is signed of a certificate, Certify, CheckCert: walks, contracts. -/
import Derived.Test.YtbfndladaldajaaGreatDoorIKeyA
import Derived.Test.YtbfndladaldajaaGreatDoorIMZ
import Derived.Test.YtbfndladaldajaaGreatDoorIMW
namespace Go.Proofs.YtbfndladaldajaaGreatDoor
open Go Go.Eng Go.RowKit
set_option linter.unusedVariables false
set_option linter.unusedSimpArgs false
set_option maxRecDepth 100000
noncomputable def keysV (b:B32) (g:Int):Keys:=⟨g,pubV (seedS b),pubV (seedV b)⟩
theorem pubK_ex (b s x v y:B32) (g:Int):runOut ([kseed_con,vseed_con,public_con.lift g2_g3]:Cons Tryz.prog G3) tys Tryz.f18 100 [cB32.enc b,(cInt .u64).enc g] [(7,[.s (cB32.enc s)]),(8,[.s (cB32.enc x)]),(10,[.s (cB32.enc v)]),(11,[.s (cB32.enc y)])]=some (bA.enc ⟨g,x,y⟩,[cB32.enc (seedS b)=cB32.enc s,cB32.enc (pubV s)=cB32.enc x,cB32.enc (seedV b)=cB32.enc v,cB32.enc (pubV v)=cB32.enc y]):=by kernel_rfl
theorem pubK_fn (b:B32) (g:Int):FnOk Tryz.prog G3 18 [cB32.enc b,(cInt .u64).enc g] (bA.enc (keysV b g)):=FnOk.av ah mixed Tryz.func18 (pubK_ex b (seedS b) (pubV (seedS b)) (seedV b) (pubV (seedV b)) g) ⟨rfl,rfl,rfl,rfl,trivial⟩ (bA.ids _) rfl
noncomputable def pubK_con:Con Tryz.prog G3:=con2 18 Tryz.f18 Tryz.func18 (by kernel_rfl) (by kernel_rfl) cB32 (cInt .u64) (fun b g=>bA.enc (keysV b g)) (fun b g=>[]) (fun _ _=>bA.ids _) (fun b g h=>pubK_fn b g)
theorem rpubK_ex (b s x v y:B32) (g:Int):runOut ([rkseed_con,rvseed_con,rpublic_con.lift g2_g3]:Cons Tryz.prog G3) tys Tryz.f19 100 [cB32.enc b,(cInt .u64).enc g] [(7,[.s (cB32.enc s)]),(8,[.s (cB32.enc x)]),(10,[.s (cB32.enc v)]),(11,[.s (cB32.enc y)])]=some (bA.enc ⟨g,x,y⟩,[BOk b,cB32.enc (seedS b)=cB32.enc s,cB32.enc (pubV s)=cB32.enc x,BOk b,cB32.enc (seedV b)=cB32.enc v,cB32.enc (pubV v)=cB32.enc y]):=by kernel_rfl
theorem rpubK_fn (b:B32) (g:Int) (hb:BOk b):FnOk Tryz.prog G3 19 [cB32.enc b,(cInt .u64).enc g] (bA.enc (keysV b g)):=FnOk.av ah mixed Tryz.func19 (rpubK_ex b (seedS b) (pubV (seedS b)) (seedV b) (pubV (seedV b)) g) ⟨hb,rfl,rfl,hb,rfl,rfl,trivial⟩ (bA.ids _) rfl
noncomputable def rpubK_con:Con Tryz.prog G3:=con2 19 Tryz.f19 Tryz.func19 (by kernel_rfl) (by kernel_rfl) cB32 (cInt .u64) (fun b g=>bA.enc (keysV b g)) (fun b g=>[BOk b]) (fun _ _=>bA.ids _) (fun b g h=>rpubK_fn b g h.1)
def KOk (k:Keys):Prop:=U64 k.gen∧BOk k.sg∧BOk k.vr
end Go.Proofs.YtbfndladaldajaaGreatDoor

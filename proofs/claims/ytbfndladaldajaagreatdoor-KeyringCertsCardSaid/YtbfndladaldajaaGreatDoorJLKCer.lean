/- The law of judged certificates: walked; its content. -/
import Derived.Test.YtbfndladaldajaaGreatDoorJKeyO
namespace Go.Proofs.YtbfndladaldajaaGreatDoor
open Go Go.Eng Go.RowKit
set_option linter.unusedVariables false
set_option linter.unusedSimpArgs false
set_option maxRecDepth 100000
namespace lkce
noncomputable abbrev fn:=Tryz.f8
section
variable (C:B32→Keys→Int→Cert) (hC:C=certV) (V:Keys→Cert→Int) (hV:V=ccV)
noncomputable def Γ:Cons Tryz.prog G3:=[kawake_con,rcert_con C hC,rpubK_con,cc_con V hV,rcc_con V hV]
theorem ex00 (a:Keys) (c:Cert) (b:B32) (w r:Int):bM (Γ C hC V hV) tys fn 200 [bf.enc a,bD.enc c,cB32.enc b,(cInt .i64).enc w] [(13,[.b false]),(26,[.b false]),(34,[.s ((cInt .i64).enc r)]),(37,[.s ((cInt .i64).enc r)]),(38,[.b true])]=some (aN.enc true,[(!(w.tmod 2==0))=false,(!(w.tmod 3==0))=false,COk c,(cInt .i64).enc (V ⟨a.gen,a.sg,a.vr⟩ c)=(cInt .i64).enc r,BOk a.sg,COk c,(cInt .i64).enc (V ⟨a.gen,a.sg,a.vr⟩ c)=(cInt .i64).enc r,(r==r)=true]):=by kernel_rfl
theorem ex01 (g2:Int) (a:Keys) (c:Cert) (b:B32) (w r:Int):bM (Γ C hC V hV) tys fn 200 [bf.enc a,bD.enc c,cB32.enc b,(cInt .i64).enc w] [(13,[.b false]),(26,[.b true]),(30,[.n g2]),(34,[.s ((cInt .i64).enc r)]),(37,[.s ((cInt .i64).enc r)]),(38,[.b true])]=some (aN.enc true,[(!(w.tmod 2==0))=false,(!(w.tmod 3==0))=true,IntKind.u64.wrap (c.k.gen-1)=g2,COk c,(cInt .i64).enc (V ⟨g2,a.sg,a.vr⟩ c)=(cInt .i64).enc r,BOk a.sg,COk c,(cInt .i64).enc (V ⟨g2,a.sg,a.vr⟩ c)=(cInt .i64).enc r,(r==r)=true]):=by kernel_rfl
theorem ex10 (c2:Cert) (kk:Keys) (a:Keys) (c:Cert) (b:B32) (w r:Int):bM (Γ C hC V hV) tys fn 200 [bf.enc a,bD.enc c,cB32.enc b,(cInt .i64).enc w] [(13,[.b true]),(19,[.s (bD.enc c2)]),(21,[.s (bf.enc kk)]),(26,[.b false]),(34,[.s ((cInt .i64).enc r)]),(37,[.s ((cInt .i64).enc r)]),(38,[.b true])]=some (aN.enc true,[(!(w.tmod 2==0))=true,BOk b,U64 c.k.gen,U64 c.ep,bD.enc (C b c.k c.ep)=bD.enc c2,BOk b,bf.enc (keysV b 0)=bf.enc kk,(!(w.tmod 3==0))=false,COk c2,(cInt .i64).enc (V ⟨a.gen,kk.sg,a.vr⟩ c2)=(cInt .i64).enc r,BOk kk.sg,COk c2,(cInt .i64).enc (V ⟨a.gen,kk.sg,a.vr⟩ c2)=(cInt .i64).enc r,(r==r)=true]):=by kernel_rfl
theorem ex11 (c2:Cert) (kk:Keys) (g2:Int) (a:Keys) (c:Cert) (b:B32) (w r:Int):bM (Γ C hC V hV) tys fn 200 [bf.enc a,bD.enc c,cB32.enc b,(cInt .i64).enc w] [(13,[.b true]),(19,[.s (bD.enc c2)]),(21,[.s (bf.enc kk)]),(26,[.b true]),(30,[.n g2]),(34,[.s ((cInt .i64).enc r)]),(37,[.s ((cInt .i64).enc r)]),(38,[.b true])]=some (aN.enc true,[(!(w.tmod 2==0))=true,BOk b,U64 c.k.gen,U64 c.ep,bD.enc (C b c.k c.ep)=bD.enc c2,BOk b,bf.enc (keysV b 0)=bf.enc kk,(!(w.tmod 3==0))=true,IntKind.u64.wrap (c2.k.gen-1)=g2,COk c2,(cInt .i64).enc (V ⟨g2,kk.sg,a.vr⟩ c2)=(cInt .i64).enc r,BOk kk.sg,COk c2,(cInt .i64).enc (V ⟨g2,kk.sg,a.vr⟩ c2)=(cInt .i64).enc r,(r==r)=true]):=by kernel_rfl
end
theorem cert_ok (b:B32) {k:Keys} {e:Int} (hk:KOk k) (he:U64 e):COk (certV b k e):=⟨hk,he,sig_byte _ _⟩
theorem fn_ok (a:Keys) (c:Cert) (b:B32) (w:Int) (ha:BOk a.sg) (hc:COk c) (hb:BOk b):FnOk Tryz.prog G3 8 [bf.enc a,bD.enc c,cB32.enc b,(cInt .i64).enc w] (aN.enc true):=by
 cases h1:(!(w.tmod 2==0)) with
 | false=>
  cases h2:(!(w.tmod 3==0)) with
  | false=>exact FnOk.av ah mixed Tryz.func8 (ex00 certV rfl ccV rfl a c b w (ccV ⟨a.gen,a.sg,a.vr⟩ c)) ⟨h1,h2,hc,rfl,ha,hc,rfl,beq_self_eq_true _,trivial⟩ rfl rfl
  | true=>exact FnOk.av ah mixed Tryz.func8 (ex01 certV rfl ccV rfl (IntKind.u64.wrap (c.k.gen-1)) a c b w (ccV ⟨(IntKind.u64.wrap (c.k.gen-1)),a.sg,a.vr⟩ c)) ⟨h1,h2,rfl,hc,rfl,ha,hc,rfl,beq_self_eq_true _,trivial⟩ rfl rfl
 | true=>
  cases h2:(!(w.tmod 3==0)) with
  | false=>exact FnOk.av ah mixed Tryz.func8 (ex10 certV rfl ccV rfl (certV b c.k c.ep) (keysV b 0) a c b w (ccV ⟨a.gen,(keysV b 0).sg,a.vr⟩ (certV b c.k c.ep))) ⟨h1,hb,hc.1.1,hc.2.1,rfl,hb,rfl,h2,(cert_ok b hc.1 hc.2.1),rfl,(pub_pt _).ok,(cert_ok b hc.1 hc.2.1),rfl,beq_self_eq_true _,trivial⟩ rfl rfl
  | true=>exact FnOk.av ah mixed Tryz.func8 (ex11 certV rfl ccV rfl (certV b c.k c.ep) (keysV b 0) (IntKind.u64.wrap ((certV b c.k c.ep).k.gen-1)) a c b w (ccV ⟨(IntKind.u64.wrap ((certV b c.k c.ep).k.gen-1)),(keysV b 0).sg,a.vr⟩ (certV b c.k c.ep))) ⟨h1,hb,hc.1.1,hc.2.1,rfl,hb,rfl,h2,rfl,(cert_ok b hc.1 hc.2.1),rfl,(pub_pt _).ok,(cert_ok b hc.1 hc.2.1),rfl,beq_self_eq_true _,trivial⟩ rfl rfl
end lkce
theorem lkce_ok (a:Keys) (c:Cert) (b:B32) (w:Int) (W:World) (ha:KOk a) (hc:COk c) (hb:BOk b) (hw:(Lit.int .i64 w).wf=true) (hg:GlobOk G3 W):
  Calls Tryz.prog 8 #[(bf.enc a).den lam0,(bD.enc c).den lam0,(cB32.enc b).den lam0,.int .i64 w] W fun e W'=>e= .returned (.bool true)∧Below W.heap.size W W':=lkce.fn_ok a c b w ha.2.1 hc hb W lam0 hg
end Go.Proofs.YtbfndladaldajaaGreatDoor

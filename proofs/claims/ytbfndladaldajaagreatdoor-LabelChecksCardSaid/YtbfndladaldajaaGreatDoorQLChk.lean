/- The law of judged labels: walked; its content. -/
import Derived.Test.YtbfndladaldajaaGreatDoorQLab
import Derived.Test.YtbfndladaldajaaGreatDoorQEDoor
import Derived.Test.YtbfndladaldajaaGreatDoorQArr80
namespace Go.Proofs.YtbfndladaldajaaGreatDoor
open Go Go.Eng Go.RowKit
set_option linter.unusedVariables false
set_option linter.unusedSimpArgs false
set_option maxRecDepth 100000
namespace lchk
noncomputable abbrev fn:=Tryz.f4
noncomputable def body:Code:=bS fn
section
variable (X:B32→ByteArray→Int→Bool→B32) (hX:X=mkX) (Y:B32→ByteArray→Int→Bool→B80) (hY:Y=mkY) (E:B32→ByteArray→Int→Bool→Int) (hE:E=mkE) (C:B32→ByteArray→Int→Bool→B80→B32) (hC:C=ckX) (F:B32→ByteArray→Int→Bool→B80→Int) (hF:F=ckE)
noncomputable def Γ:Cons Tryz.prog G2:=[awk.con,rmk.con X hX Y hY E hE,ck.con C hC F hF,rck.con C hC F hF,rpublic_con]
theorem ex0 (x:B32) (e:Int) (b q:B32) (s:ByteArray) (v:Int) (st:Bool) (D:B80) (w:Int):aZ (Γ X hX Y hY E hE C hC F hF) tys fn 200 [] [cB32.enc b,cB32.enc q,.o (.a (.v (.string s))),.o (.a (.v (.int .u64 v))),.o (.a (.v (.bool st))),cB80.enc D,(cInt .i64).enc w] [(23,[.b false]),(28,[.b false]),(52,[.s (dx x e)]),(61,[.s (dx x e)]),(66,[.b true]),(70,[.b true])]=some (aN.enc true,[(!(w.tmod 4==0))=false,(!(w.tmod 3==0))=false,s.size≤9223372036854775807,U64 v,D.Ok,dx (C q s v st D) (F q s v st D)=dx x e,s.size≤9223372036854775807,U64 v,BOk q,D.Ok,dx (C q s v st D) (F q s v st D)=dx x e,sameL x.to=true,(e==e)=true]):=by kernel_rfl
theorem ex1 (q2:B32) (x:B32) (e:Int) (b q:B32) (s:ByteArray) (v:Int) (st:Bool) (D:B80) (w:Int):aZ (Γ X hX Y hY E hE C hC F hF) tys fn 200 [] [cB32.enc b,cB32.enc q,.o (.a (.v (.string s))),.o (.a (.v (.int .u64 v))),.o (.a (.v (.bool st))),cB80.enc D,(cInt .i64).enc w] [(23,[.b true]),(25,[.s (cB32.enc q2)]),(28,[.b false]),(52,[.s (dx x e)]),(61,[.s (dx x e)]),(66,[.b true]),(70,[.b true])]=some (aN.enc true,[(!(w.tmod 4==0))=true,cB32.enc (pubV b)=cB32.enc q2,(!(w.tmod 3==0))=false,s.size≤9223372036854775807,U64 v,D.Ok,dx (C q2 s v st D) (F q2 s v st D)=dx x e,s.size≤9223372036854775807,U64 v,BOk q2,D.Ok,dx (C q2 s v st D) (F q2 s v st D)=dx x e,sameL x.to=true,(e==e)=true]):=by kernel_rfl
theorem ex2 (v2 g:Int) (y:B32) (D2:B80) (x:B32) (e:Int) (b q:B32) (s:ByteArray) (v:Int) (st:Bool) (D:B80) (w:Int):aZ (Γ X hX Y hY E hE C hC F hF) tys fn 200 [] [cB32.enc b,cB32.enc q,.o (.a (.v (.string s))),.o (.a (.v (.int .u64 v))),.o (.a (.v (.bool st))),cB80.enc D,(cInt .i64).enc w] [(23,[.b false]),(28,[.b true]),(36,[.n v2]),(42,[.s (trip y D2 g)]),(52,[.s (dx x e)]),(61,[.s (dx x e)]),(66,[.b true]),(70,[.b true])]=some (aN.enc true,[(!(w.tmod 4==0))=false,(!(w.tmod 3==0))=true,(IntKind.u64.wrap (v+IntKind.u64.wrap (w.tmod 2)))=v2,s.size≤9223372036854775807,U64 v2,trip (X b s v2 (!(st==(w.tmod 5==0)))) (Y b s v2 (!(st==(w.tmod 5==0)))) (E b s v2 (!(st==(w.tmod 5==0))))=trip y D2 g,s.size≤9223372036854775807,U64 v,D2.Ok,dx (C q s v st D2) (F q s v st D2)=dx x e,s.size≤9223372036854775807,U64 v,BOk q,D2.Ok,dx (C q s v st D2) (F q s v st D2)=dx x e,sameL x.to=true,(e==e)=true]):=by kernel_rfl
theorem ex3 (q2:B32) (v2 g:Int) (y:B32) (D2:B80) (x:B32) (e:Int) (b q:B32) (s:ByteArray) (v:Int) (st:Bool) (D:B80) (w:Int):aZ (Γ X hX Y hY E hE C hC F hF) tys fn 200 [] [cB32.enc b,cB32.enc q,.o (.a (.v (.string s))),.o (.a (.v (.int .u64 v))),.o (.a (.v (.bool st))),cB80.enc D,(cInt .i64).enc w] [(23,[.b true]),(25,[.s (cB32.enc q2)]),(28,[.b true]),(36,[.n v2]),(42,[.s (trip y D2 g)]),(52,[.s (dx x e)]),(61,[.s (dx x e)]),(66,[.b true]),(70,[.b true])]=some (aN.enc true,[(!(w.tmod 4==0))=true,cB32.enc (pubV b)=cB32.enc q2,(!(w.tmod 3==0))=true,(IntKind.u64.wrap (v+IntKind.u64.wrap (w.tmod 2)))=v2,s.size≤9223372036854775807,U64 v2,trip (X b s v2 (!(st==(w.tmod 5==0)))) (Y b s v2 (!(st==(w.tmod 5==0)))) (E b s v2 (!(st==(w.tmod 5==0))))=trip y D2 g,s.size≤9223372036854775807,U64 v,D2.Ok,dx (C q2 s v st D2) (F q2 s v st D2)=dx x e,s.size≤9223372036854775807,U64 v,BOk q2,D2.Ok,dx (C q2 s v st D2) (F q2 s v st D2)=dx x e,sameL x.to=true,(e==e)=true]):=by kernel_rfl
end
theorem wrap_u64 (n:Int):U64 (IntKind.u64.wrap n):=by
 rw[IntKind.wrap_u64]
 constructor<;>omega
theorem run (b q:B32) (s:ByteArray) (v:Int) (st:Bool) (D:B80) (w:Int) (hs:s.size≤9223372036854775807) (hv:U64 v) (hq:BOk q) (hD:D.Ok):aG Tryz.prog G2 0 body (aA fn [cB32.enc b,cB32.enc q,.o (.a (.v (.string s))),.o (.a (.v (.int .u64 v))),.o (.a (.v (.bool st))),cB80.enc D,(cInt .i64).enc w]) [] (aD tys fn (aX (aN.enc true) .none)):=by
 have hb:fn.body=some body:=by kernel_rfl
 cases h1:(!(w.tmod 4==0)) with
 | false=>
  cases h2:(!(w.tmod 3==0)) with
  | false=>exact aM ah mixed hb (ex0 mkX rfl mkY rfl mkE rfl ckX rfl ckE rfl (ckX q s v st D) (ckE q s v st D) b q s v st D w ) ⟨h1,h2,hs,hv,hD,rfl,hs,hv,hq,hD,rfl,dz _,beq_self_eq_true _,trivial⟩
  | true=>exact aM ah mixed hb (ex2 mkX rfl mkY rfl mkE rfl ckX rfl ckE rfl (IntKind.u64.wrap (v+IntKind.u64.wrap (w.tmod 2))) (mkE b s (IntKind.u64.wrap (v+IntKind.u64.wrap (w.tmod 2))) (!(st==(w.tmod 5==0)))) (mkX b s (IntKind.u64.wrap (v+IntKind.u64.wrap (w.tmod 2))) (!(st==(w.tmod 5==0)))) (mkY b s (IntKind.u64.wrap (v+IntKind.u64.wrap (w.tmod 2))) (!(st==(w.tmod 5==0)))) (ckX q s v st (mkY b s (IntKind.u64.wrap (v+IntKind.u64.wrap (w.tmod 2))) (!(st==(w.tmod 5==0))))) (ckE q s v st (mkY b s (IntKind.u64.wrap (v+IntKind.u64.wrap (w.tmod 2))) (!(st==(w.tmod 5==0))))) b q s v st D w ) ⟨h1,h2,rfl,hs,wrap_u64 _,rfl,hs,hv,mk_ok _ _ _ _,rfl,hs,hv,hq,mk_ok _ _ _ _,rfl,dz _,beq_self_eq_true _,trivial⟩
 | true=>
  cases h2:(!(w.tmod 3==0)) with
  | false=>exact aM ah mixed hb (ex1 mkX rfl mkY rfl mkE rfl ckX rfl ckE rfl (pubV b) (ckX (pubV b) s v st D) (ckE (pubV b) s v st D) b q s v st D w ) ⟨h1,rfl,h2,hs,hv,hD,rfl,hs,hv,(pub_pt b).ok,hD,rfl,dz _,beq_self_eq_true _,trivial⟩
  | true=>exact aM ah mixed hb (ex3 mkX rfl mkY rfl mkE rfl ckX rfl ckE rfl (pubV b) (IntKind.u64.wrap (v+IntKind.u64.wrap (w.tmod 2))) (mkE b s (IntKind.u64.wrap (v+IntKind.u64.wrap (w.tmod 2))) (!(st==(w.tmod 5==0)))) (mkX b s (IntKind.u64.wrap (v+IntKind.u64.wrap (w.tmod 2))) (!(st==(w.tmod 5==0)))) (mkY b s (IntKind.u64.wrap (v+IntKind.u64.wrap (w.tmod 2))) (!(st==(w.tmod 5==0)))) (ckX (pubV b) s v st (mkY b s (IntKind.u64.wrap (v+IntKind.u64.wrap (w.tmod 2))) (!(st==(w.tmod 5==0))))) (ckE (pubV b) s v st (mkY b s (IntKind.u64.wrap (v+IntKind.u64.wrap (w.tmod 2))) (!(st==(w.tmod 5==0))))) b q s v st D w ) ⟨h1,rfl,h2,rfl,hs,wrap_u64 _,rfl,hs,hv,mk_ok _ _ _ _,rfl,hs,hv,(pub_pt b).ok,mk_ok _ _ _ _,rfl,dz _,beq_self_eq_true _,trivial⟩
end lchk
theorem lchk_ok (b q:B32) (s:ByteArray) (v:Int) (st:Bool) (D:B80) (w:Int) (W:World) (hb:BOk b) (hq:BOk q) (hs:s.size≤maxLen) (hv:(Lit.int .u64 v).wf=true) (hD:D.Ok) (hw:(Lit.int .i64 w).wf=true) (hg:GlobOk G2 W):
  Calls Tryz.prog 4 #[(cB32.enc b).den lam0,(cB32.enc q).den lam0,.string s,.int .u64 v,.bool st,(cB80.enc D).den lam0,.int .i64 w] W fun e W'=>e= .returned (.bool true)∧Below W.heap.size W W':=by
 have h8:∀n:Int,(Lit.int .u64 n).wf=true→U64 n:=fun n h=>by
  simp[Lit.wf,IntKind.min,IntKind.max,IntKind.signed,IntKind.bits] at h
  exact⟨h.1,by omega⟩
 have hm:maxLen=9223372036854775807:=by decide
 rw[hm] at hs
 exact law_calls ah Tryz.func4 (c:=lchk.body) (by kernel_rfl) (l:=[]) (args:=[cB32.enc b,cB32.enc q,.o (.a (.v (.string s))),.o (.a (.v (.int .u64 v))),.o (.a (.v (.bool st))),cB80.enc D,(cInt .i64).enc w]) (r:=aN.enc true) hg (fun _=>⟨0,0,0⟩) (fun i b h=>by cases h) (fun x hx k hk=>by
  simp only[List.mem_cons,List.not_mem_nil,or_false] at hx
  rcases hx with rfl | rfl | rfl | rfl | rfl | rfl | rfl
  ·rw[cB32.ids] at hk;cases hk
  ·rw[cB32.ids] at hk;cases hk
  ·cases hk
  ·cases hk
  ·cases hk
  ·rw[cB80.ids] at hk;cases hk
  ·cases hk) rfl (lchk.run b q s v st D w hs (h8 v hv) hq hD)
end Go.Proofs.YtbfndladaldajaaGreatDoor

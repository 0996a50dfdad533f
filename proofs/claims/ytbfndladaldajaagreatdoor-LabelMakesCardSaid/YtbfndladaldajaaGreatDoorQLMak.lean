/- The law of made labels: walked; its content. -/
import Derived.Test.YtbfndladaldajaaGreatDoorQLab
import Derived.Test.YtbfndladaldajaaGreatDoorQEDoor
import Derived.Test.YtbfndladaldajaaGreatDoorQArr80
namespace Go.Proofs.YtbfndladaldajaaGreatDoor
open Go Go.Eng Go.RowKit
set_option linter.unusedVariables false
set_option linter.unusedSimpArgs false
set_option maxRecDepth 100000
namespace lmak
noncomputable abbrev fn:=Tryz.f7
noncomputable def body:Code:=bS fn
section
variable (X:B32→ByteArray→Int→Bool→B32) (hX:X=mkX) (Y:B32→ByteArray→Int→Bool→B80) (hY:Y=mkY) (E:B32→ByteArray→Int→Bool→Int) (hE:E=mkE)
noncomputable def Γ:Cons Tryz.prog G2:=[awk.con,mk.con X hX Y hY E hE,rmk.con X hX Y hY E hE]
theorem ex (x:B32) (D:B80) (e:Int) (b:B32) (s:ByteArray) (v:Int) (st:Bool):aZ (Γ X hX Y hY E hE) tys fn 200 [] [cB32.enc b,.o (.a (.v (.string s))),.o (.a (.v (.int .u64 v))),.o (.a (.v (.bool st)))] [(22,[.s (trip x D e)]),(31,[.s (trip x D e)]),(37,[.b true]),(41,[.b true]),(46,[.b true])]=some (aN.enc true,[s.size≤9223372036854775807,U64 v,trip (X b s v st) (Y b s v st) (E b s v st)=trip x D e,s.size≤9223372036854775807,U64 v,trip (X b s v st) (Y b s v st) (E b s v st)=trip x D e,sameL x.to=true,sameL D.to=true,(e==e)=true]):=by kernel_rfl
end
theorem run (b:B32) (s:ByteArray) (v:Int) (st:Bool) (hs:s.size≤9223372036854775807) (hv:U64 v):aG Tryz.prog G2 0 body (aA fn [cB32.enc b,.o (.a (.v (.string s))),.o (.a (.v (.int .u64 v))),.o (.a (.v (.bool st)))]) [] (aD tys fn (aX (aN.enc true) .none)):=by
 have hb:fn.body=some body:=by kernel_rfl
 exact aM ah mixed hb (ex mkX rfl mkY rfl mkE rfl (mkX b s v st) (mkY b s v st) (mkE b s v st) b s v st) ⟨hs,hv,rfl,hs,hv,rfl,dz _,dz _,beq_self_eq_true _,trivial⟩
end lmak
theorem lmak_ok (b:B32) (s:ByteArray) (v:Int) (st:Bool) (W:World) (hb:BOk b) (hs:s.size≤maxLen) (hv:(Lit.int .u64 v).wf=true) (hg:GlobOk G2 W):
  Calls Tryz.prog 7 #[(cB32.enc b).den lam0,.string s,.int .u64 v,.bool st] W fun e W'=>e= .returned (.bool true)∧Below W.heap.size W W':=by
 have h8:∀n:Int,(Lit.int .u64 n).wf=true→U64 n:=fun n h=>by
  simp[Lit.wf,IntKind.min,IntKind.max,IntKind.signed,IntKind.bits] at h
  exact⟨h.1,by omega⟩
 have hm:maxLen=9223372036854775807:=by decide
 rw[hm] at hs
 exact law_calls ah Tryz.func7 (c:=lmak.body) (by kernel_rfl) (l:=[]) (args:=[cB32.enc b,.o (.a (.v (.string s))),.o (.a (.v (.int .u64 v))),.o (.a (.v (.bool st)))]) (r:=aN.enc true) hg (fun _=>⟨0,0,0⟩) (fun i b h=>by cases h) (fun x hx k hk=>by
  simp only[List.mem_cons,List.not_mem_nil,or_false] at hx
  rcases hx with rfl | rfl | rfl | rfl
  ·rw[cB32.ids] at hk;cases hk
  all_goals cases hk) rfl (lmak.run b s v st hs (h8 v hv))
end Go.Proofs.YtbfndladaldajaaGreatDoor

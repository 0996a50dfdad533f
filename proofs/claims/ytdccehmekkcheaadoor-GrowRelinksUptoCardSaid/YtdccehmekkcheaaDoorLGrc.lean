/- The law GrowRelinks: its content. -/
import Derived.Test.YtdccehmekkcheaaDoorLTrD2
import Derived.Test.YtdccehmekkcheaaDoorLRlL
import Derived.Test.YtdccehmekkcheaaDoorLTOc
namespace Go.Proofs.YtdccehmekkcheaaDoor
open Go Go.Eng Go.RowKit
set_option linter.unusedVariables false
set_option linter.unusedSimpArgs false
set_option maxRecDepth 100000
theorem lrl_ok (x0:B32) (x1:B32) (x2:VArg) (W:World) (h0:BOk x0) (h1:BOk x1) (h2:x2.ok 96 W∧x2.each 96 LkIs) (r2:x2.n≤1048576) (hg:GlobOk GT W):
  Calls Tryd.prog 16 #[(cB32.enc x0).den lam0,(cB32.enc x1).den lam0,x2.val] W fun e W'=>e= .returned (.bool true)∧Below W.heap.size W W':=by
 obtain⟨h2,e2⟩:=h2
 cases x2 with
 | none a2=>
  refine law_calls aj Tryd.func16 (c:=lrl.body) (by kernel_rfl) hg lam0 (l:=[]) (args:=[cB32.enc x0,cB32.enc x1,.o (.a (.v (.slice a2 0 0)))]) (r:=aG.enc true) ?_ ?_ rfl ?_
  ·intro i bb hbb;cases hbb
  ·intro z hz k hk
   simp only[List.mem_cons,List.not_mem_nil,or_false] at hz
   rcases hz with rfl | rfl | rfl
   ·cases hk
   ·cases hk
   ·cases hk
  ·exact lrl.n.run hV rfl hE rfl hS rfl x0 x1 a2
 | win vs2 n2 c2 ty2 L2=>
  obtain⟨g12,g22,g32,g42,fr2,pre2,tail2,g52,g62⟩:=h2
  obtain⟨l2,rfl,hn2,hl2⟩:=split_rows (f:=Lk.vals) (sz:=96) (R:=KOk3) n2 vs2 g12 e2
  have r2:n2≤1048576:=r2
  refine law_calls aj Tryd.func16 (c:=lrl.body) (by kernel_rfl) hg (fun _=>L2) (l:=[⟨false,ty2,.prv (aD l2)⟩]) (args:=[cB32.enc x0,cB32.enc x1,.o (.a (.sld 0 0 0 n2 c2))]) (r:=aG.enc true) ?_ ?_ rfl ?_
  ·intro i bb hbb
   match i,hbb with
   | 0,hbb=>cases hbb;exact⟨rfl,rfl,fr2,pre2,_,g52,g62,⟨tail2,rfl⟩⟩
   | i+1,hbb=>cases hbb
  ·intro z hz k hk
   simp only[List.mem_cons,List.not_mem_nil,or_false] at hz
   rcases hz with rfl | rfl | rfl
   ·cases hk
   ·cases hk
   ·simp[SV.ids,SV1.ids,Atom.ids] at hk;subst hk;show 0<1;omega
  ·rcases Nat.eq_zero_or_pos n2 with z2 | z2
   ·exact lrl.w.run hV rfl hE rfl hS rfl x0 x1 l2 n2 c2 ty2 hn2 (by omega) g22 hl2
   ·exact lrl.w.run hV rfl hE rfl hS rfl x0 x1 l2 n2 c2 ty2 hn2 (by omega) g22 hl2
end Go.Proofs.YtdccehmekkcheaaDoor

/- The law GrowChecks: its content. -/
import Derived.Test.YtdccehmekkcheaaDoorKTrD
import Derived.Test.YtdccehmekkcheaaDoorKLck
import Derived.Test.YtdccehmekkcheaaDoorKTOc
namespace Go.Proofs.YtdccehmekkcheaaDoor
open Go Go.Eng Go.RowKit
set_option linter.unusedVariables false
set_option linter.unusedSimpArgs false
set_option maxRecDepth 100000
theorem lgck_ok (x0:B32) (x1:B32) (x2:VArg) (x3:VArg) (W:World) (h0:BOk x0) (h1:BOk x1) (h2:x2.ok 65 W∧x2.each 65 NdIs) (h3:x3.ok 64 W∧x3.each 64 LfIs) (r2:x2.n≤1048576) (r3:x3.n≤1048576) (hg:GlobOk GT W):
  Calls Tryd.prog 9 #[(cB32.enc x0).den lam0,(cB32.enc x1).den lam0,x2.val,x3.val] W fun e W'=>e= .returned (.bool true)∧Below W.heap.size W W':=by
 obtain⟨h2,e2⟩:=h2
 obtain⟨h3,e3⟩:=h3
 cases x2 with
 | none a2=>
  cases x3 with
  | none a3=>
   refine law_calls ak Tryd.func9 (c:=lgck.body) (by kernel_rfl) hg lam0 (l:=[]) (args:=[cB32.enc x0,cB32.enc x1,.o (.a (.v (.slice a2 0 0))),.o (.a (.v (.slice a3 0 0)))]) (r:=aG.enc true) ?_ ?_ rfl ?_
   ·intro i bb hbb;cases hbb
   ·intro z hz k hk
    simp only[List.mem_cons,List.not_mem_nil,or_false] at hz
    rcases hz with rfl | rfl | rfl | rfl
    ·cases hk
    ·cases hk
    ·cases hk
    ·cases hk
   ·exact lgck.nn.run hV rfl hE rfl hS rfl x0 x1 a2 a3
  | win vs3 n3 c3 ty3 L3=>
   obtain⟨g13,g23,g33,g43,fr3,pre3,tail3,g53,g63⟩:=h3
   obtain⟨l3,rfl,hn3,hl3⟩:=split_rows (f:=Lf.vals) (sz:=64) (R:=LOk) n3 vs3 g13 e3
   have r3:n3≤1048576:=r3
   refine law_calls ak Tryd.func9 (c:=lgck.body) (by kernel_rfl) hg (fun _=>L3) (l:=[⟨false,ty3,.prv (lvals l3)⟩]) (args:=[cB32.enc x0,cB32.enc x1,.o (.a (.v (.slice a2 0 0))),.o (.a (.sld 0 0 0 n3 c3))]) (r:=aG.enc true) ?_ ?_ rfl ?_
   ·intro i bb hbb
    match i,hbb with
    | 0,hbb=>cases hbb;exact⟨rfl,rfl,fr3,pre3,_,g53,g63,⟨tail3,rfl⟩⟩
    | i+1,hbb=>cases hbb
   ·intro z hz k hk
    simp only[List.mem_cons,List.not_mem_nil,or_false] at hz
    rcases hz with rfl | rfl | rfl | rfl
    ·cases hk
    ·cases hk
    ·cases hk
    ·simp[SV.ids,SV1.ids,Atom.ids] at hk;subst hk;show 0<1;omega
   ·rcases Nat.eq_zero_or_pos n3 with z3 | z3
    ·exact lgck.nz.run hV rfl hE rfl hS rfl x0 x1 a2 l3 n3 c3 ty3 hn3 g23 hl3 (by omega) z3
    ·exact lgck.np.run hV rfl hE rfl hS rfl x0 x1 a2 l3 n3 c3 ty3 hn3 g23 hl3 (by omega) z3
 | win vs2 n2 c2 ty2 L2=>
  obtain⟨g12,g22,g32,g42,fr2,pre2,tail2,g52,g62⟩:=h2
  obtain⟨l2,rfl,hn2,hl2⟩:=split_rows (f:=Nd.vals) (sz:=65) (R:=NOk) n2 vs2 g12 e2
  have r2:n2≤1048576:=r2
  cases x3 with
  | none a3=>
   refine law_calls ak Tryd.func9 (c:=lgck.body) (by kernel_rfl) hg (fun _=>L2) (l:=[⟨false,ty2,.prv (ah l2)⟩]) (args:=[cB32.enc x0,cB32.enc x1,.o (.a (.sld 0 0 0 n2 c2)),.o (.a (.v (.slice a3 0 0)))]) (r:=aG.enc true) ?_ ?_ rfl ?_
   ·intro i bb hbb
    match i,hbb with
    | 0,hbb=>cases hbb;exact⟨rfl,rfl,fr2,pre2,_,g52,g62,⟨tail2,rfl⟩⟩
    | i+1,hbb=>cases hbb
   ·intro z hz k hk
    simp only[List.mem_cons,List.not_mem_nil,or_false] at hz
    rcases hz with rfl | rfl | rfl | rfl
    ·cases hk
    ·cases hk
    ·simp[SV.ids,SV1.ids,Atom.ids] at hk;subst hk;show 0<1;omega
    ·cases hk
   ·rcases Nat.eq_zero_or_pos n2 with z2 | z2
    ·exact lgck.zn.run hV rfl hE rfl hS rfl x0 x1 l2 n2 c2 ty2 a3 hn2 g22 hl2 (by omega) z2
    ·exact lgck.pn.run hV rfl hE rfl hS rfl x0 x1 l2 n2 c2 ty2 a3 hn2 g22 hl2 (by omega) z2
  | win vs3 n3 c3 ty3 L3=>
   obtain⟨g13,g23,g33,g43,fr3,pre3,tail3,g53,g63⟩:=h3
   obtain⟨l3,rfl,hn3,hl3⟩:=split_rows (f:=Lf.vals) (sz:=64) (R:=LOk) n3 vs3 g13 e3
   have r3:n3≤1048576:=r3
   refine law_calls ak Tryd.func9 (c:=lgck.body) (by kernel_rfl) hg (fun k=>if k=0 then L2 else L3) (l:=[⟨false,ty2,.prv (ah l2)⟩,⟨false,ty3,.prv (lvals l3)⟩]) (args:=[cB32.enc x0,cB32.enc x1,.o (.a (.sld 0 0 0 n2 c2)),.o (.a (.sld 1 0 0 n3 c3))]) (r:=aG.enc true) ?_ ?_ rfl ?_
   ·intro i bb hbb
    match i,hbb with
    | 0,hbb=>cases hbb;exact⟨rfl,rfl,fr2,pre2,_,g52,g62,⟨tail2,rfl⟩⟩
    | 1,hbb=>cases hbb;exact⟨rfl,rfl,fr3,pre3,_,g53,g63,⟨tail3,rfl⟩⟩
    | i+2,hbb=>cases hbb
   ·intro z hz k hk
    simp only[List.mem_cons,List.not_mem_nil,or_false] at hz
    rcases hz with rfl | rfl | rfl | rfl
    ·cases hk
    ·cases hk
    ·simp[SV.ids,SV1.ids,Atom.ids] at hk;subst hk;show 0<2;omega
    ·simp[SV.ids,SV1.ids,Atom.ids] at hk;subst hk;show 1<2;omega
   ·rcases Nat.eq_zero_or_pos n2 with z2 | z2
    ·rcases Nat.eq_zero_or_pos n3 with z3 | z3
     ·exact lgck.zz.run hV rfl hE rfl hS rfl x0 x1 l2 n2 c2 ty2 l3 n3 c3 ty3 hn2 g22 hl2 hn3 g23 hl3 (by omega) z2 z3
     ·exact lgck.zp.run hV rfl hE rfl hS rfl x0 x1 l2 n2 c2 ty2 l3 n3 c3 ty3 hn2 g22 hl2 hn3 g23 hl3 (by omega) z2 z3
    ·rcases Nat.eq_zero_or_pos n3 with z3 | z3
     ·exact lgck.pz.run hV rfl hE rfl hS rfl x0 x1 l2 n2 c2 ty2 l3 n3 c3 ty3 hn2 g22 hl2 hn3 g23 hl3 (by omega) z2 z3
     ·exact lgck.pp.run hV rfl hE rfl hS rfl x0 x1 l2 n2 c2 ty2 l3 n3 c3 ty3 hn2 g22 hl2 hn3 g23 hl3 (by omega) z2 z3
end Go.Proofs.YtdccehmekkcheaaDoor

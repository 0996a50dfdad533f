/- The law GrowLeast: its content. -/
import Derived.Test.YtdccehmekkcheaaDoorBTrD
import Derived.Test.YtdccehmekkcheaaDoorBGle
import Derived.Test.YtdccehmekkcheaaDoorBTOc
namespace Go.Proofs.YtdccehmekkcheaaDoor
open Go Go.Eng Go.RowKit
set_option linter.unusedVariables false
set_option linter.unusedSimpArgs false
set_option maxRecDepth 100000
theorem lglt_ok (x0:VArg) (x1:VArg) (W:World) (h0:x0.ok 64 W∧x0.each 64 LfIs) (h1:x1.ok 64 W∧x1.each 64 LfIs) (r0:x0.n≤1048576) (r1:x1.n≤1048576) (hg:GlobOk GT W):
  Calls Tryd.prog 11 #[x0.val,x1.val] W fun e W'=>e= .returned (.bool true)∧Below W.heap.size W W':=by
 obtain⟨h0,e0⟩:=h0
 obtain⟨h1,e1⟩:=h1
 obtain⟨_,_,tyD,frD,hgD⟩:=hg 1 _ rfl
 cases x0 with
 | none a0=>
  cases x1 with
  | none a1=>
   refine law_calls aj Tryd.func11 (c:=lglt.body) (by kernel_rfl) hg (fun k=>if k=0 then ⟨1,0,0⟩ else ⟨1,0,0⟩) (l:=[⟨false,tyD,.prv (lvals [])⟩,⟨false,tyD,.prv (lvals [])⟩]) (args:=[.o (.a (.v (.slice a0 0 0))),.o (.a (.v (.slice a1 0 0)))]) (r:=ay.enc true) ?_ ?_ rfl ?_
   ·intro i bb hbb
    match i,hbb with
    | 0,hbb=>cases hbb;exact⟨rfl,rfl,frD,[],_,hgD,rfl,⟨_,rfl⟩⟩
    | 1,hbb=>cases hbb;exact⟨rfl,rfl,frD,[],_,hgD,rfl,⟨_,rfl⟩⟩
    | i+2,hbb=>cases hbb
   ·intro z hz k hk
    simp only[List.mem_cons,List.not_mem_nil,or_false] at hz
    rcases hz with rfl | rfl
    ·cases hk
    ·cases hk
   ·exact lglt.nn.run hV rfl a0 0 tyD a1 0 tyD
  | win vs1 n1 c1 ty1 L1=>
   obtain⟨g11,g21,g31,g41,fr1,pre1,tail1,g51,g61⟩:=h1
   obtain⟨l1,rfl,hn1,hl1⟩:=split_rows (f:=Lf.vals) (sz:=64) (R:=LOk) n1 vs1 g11 e1
   have r1:n1≤1048576:=r1
   refine law_calls aj Tryd.func11 (c:=lglt.body) (by kernel_rfl) hg (fun k=>if k=0 then ⟨1,0,0⟩ else L1) (l:=[⟨false,tyD,.prv (lvals [])⟩,⟨false,ty1,.prv (lvals l1)⟩]) (args:=[.o (.a (.v (.slice a0 0 0))),.o (.a (.sld 1 0 0 n1 c1))]) (r:=ay.enc true) ?_ ?_ rfl ?_
   ·intro i bb hbb
    match i,hbb with
    | 0,hbb=>cases hbb;exact⟨rfl,rfl,frD,[],_,hgD,rfl,⟨_,rfl⟩⟩
    | 1,hbb=>cases hbb;exact⟨rfl,rfl,fr1,pre1,_,g51,g61,⟨tail1,rfl⟩⟩
    | i+2,hbb=>cases hbb
   ·intro z hz k hk
    simp only[List.mem_cons,List.not_mem_nil,or_false] at hz
    rcases hz with rfl | rfl
    ·cases hk
    ·simp[SV.ids,SV1.ids,Atom.ids] at hk;subst hk;show 1<2;omega
   ·rcases Nat.eq_zero_or_pos n1 with z1 | z1
    ·exact lglt.nw.run hV rfl a0 0 tyD l1 n1 c1 ty1 hn1 g21 hl1 (by omega)
    ·exact lglt.nw.run hV rfl a0 0 tyD l1 n1 c1 ty1 hn1 g21 hl1 (by omega)
 | win vs0 n0 c0 ty0 L0=>
  obtain⟨g10,g20,g30,g40,fr0,pre0,tail0,g50,g60⟩:=h0
  obtain⟨l0,rfl,hn0,hl0⟩:=split_rows (f:=Lf.vals) (sz:=64) (R:=LOk) n0 vs0 g10 e0
  have r0:n0≤1048576:=r0
  cases x1 with
  | none a1=>
   refine law_calls aj Tryd.func11 (c:=lglt.body) (by kernel_rfl) hg (fun k=>if k=0 then L0 else ⟨1,0,0⟩) (l:=[⟨false,ty0,.prv (lvals l0)⟩,⟨false,tyD,.prv (lvals [])⟩]) (args:=[.o (.a (.sld 0 0 0 n0 c0)),.o (.a (.v (.slice a1 0 0)))]) (r:=ay.enc true) ?_ ?_ rfl ?_
   ·intro i bb hbb
    match i,hbb with
    | 0,hbb=>cases hbb;exact⟨rfl,rfl,fr0,pre0,_,g50,g60,⟨tail0,rfl⟩⟩
    | 1,hbb=>cases hbb;exact⟨rfl,rfl,frD,[],_,hgD,rfl,⟨_,rfl⟩⟩
    | i+2,hbb=>cases hbb
   ·intro z hz k hk
    simp only[List.mem_cons,List.not_mem_nil,or_false] at hz
    rcases hz with rfl | rfl
    ·simp[SV.ids,SV1.ids,Atom.ids] at hk;subst hk;show 0<2;omega
    ·cases hk
   ·rcases Nat.eq_zero_or_pos n0 with z0 | z0
    ·exact lglt.wn.run hV rfl l0 n0 c0 ty0 a1 0 tyD hn0 g20 hl0 (by omega)
    ·exact lglt.wn.run hV rfl l0 n0 c0 ty0 a1 0 tyD hn0 g20 hl0 (by omega)
  | win vs1 n1 c1 ty1 L1=>
   obtain⟨g11,g21,g31,g41,fr1,pre1,tail1,g51,g61⟩:=h1
   obtain⟨l1,rfl,hn1,hl1⟩:=split_rows (f:=Lf.vals) (sz:=64) (R:=LOk) n1 vs1 g11 e1
   have r1:n1≤1048576:=r1
   refine law_calls aj Tryd.func11 (c:=lglt.body) (by kernel_rfl) hg (fun k=>if k=0 then L0 else L1) (l:=[⟨false,ty0,.prv (lvals l0)⟩,⟨false,ty1,.prv (lvals l1)⟩]) (args:=[.o (.a (.sld 0 0 0 n0 c0)),.o (.a (.sld 1 0 0 n1 c1))]) (r:=ay.enc true) ?_ ?_ rfl ?_
   ·intro i bb hbb
    match i,hbb with
    | 0,hbb=>cases hbb;exact⟨rfl,rfl,fr0,pre0,_,g50,g60,⟨tail0,rfl⟩⟩
    | 1,hbb=>cases hbb;exact⟨rfl,rfl,fr1,pre1,_,g51,g61,⟨tail1,rfl⟩⟩
    | i+2,hbb=>cases hbb
   ·intro z hz k hk
    simp only[List.mem_cons,List.not_mem_nil,or_false] at hz
    rcases hz with rfl | rfl
    ·simp[SV.ids,SV1.ids,Atom.ids] at hk;subst hk;show 0<2;omega
    ·simp[SV.ids,SV1.ids,Atom.ids] at hk;subst hk;show 1<2;omega
   ·rcases Nat.eq_zero_or_pos n0 with z0 | z0
    ·rcases Nat.eq_zero_or_pos n1 with z1 | z1
     ·exact lglt.ww.run hV rfl l0 n0 c0 ty0 l1 n1 c1 ty1 hn0 g20 hl0 hn1 g21 hl1 (by omega)
     ·exact lglt.ww.run hV rfl l0 n0 c0 ty0 l1 n1 c1 ty1 hn0 g20 hl0 hn1 g21 hl1 (by omega)
    ·rcases Nat.eq_zero_or_pos n1 with z1 | z1
     ·exact lglt.ww.run hV rfl l0 n0 c0 ty0 l1 n1 c1 ty1 hn0 g20 hl0 hn1 g21 hl1 (by omega)
     ·exact lglt.ww.run hV rfl l0 n0 c0 ty0 l1 n1 c1 ty1 hn0 g20 hl0 hn1 g21 hl1 (by omega)
end Go.Proofs.YtdccehmekkcheaaDoor

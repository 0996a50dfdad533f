/- The law GrowChain: its content. -/
import Derived.Test.YtdccehmekkcheaaDoorCTrD
import Derived.Test.YtdccehmekkcheaaDoorCMTM
import Derived.Test.YtdccehmekkcheaaDoorCTOc
set_option linter.unusedSimpArgs false
set_option linter.unusedVariables false
namespace Go.Proofs.YtdccehmekkcheaaDoor
open Go Go.Eng Go.RowKit
set_option maxRecDepth 100000
theorem lgch_ok (x0:VArg) (x1:VArg) (x2:VArg) (x3:Int) (W:World) (h0:x0.ok 64 W∧x0.each 64 LfIs) (h1:x1.ok 64 W∧x1.each 64 LfIs) (h2:x2.ok 64 W∧x2.each 64 LfIs) (h3:(Lit.int .i64 x3).wf=true) (r0:x0.n≤1048576) (r1:x1.n≤1048576) (r2:x2.n≤1048576) (hg:GlobOk GT W):
  Calls Tryd.prog 12 #[x0.val,x1.val,x2.val,.int .i64 x3] W fun e W'=>e= .returned (.bool true)∧Below W.heap.size W W':=by
 obtain⟨h0,e0⟩:=h0
 obtain⟨h1,e1⟩:=h1
 obtain⟨h2,e2⟩:=h2
 obtain⟨_,_,tyD,frD,hgD⟩:=hg 1 _ rfl
 cases x0 with
 | none a0=>
  cases x1 with
  | none a1=>
   cases x2 with
   | none a2=>
    refine lC aj Tryd.func12 (c:=lgch.body) (by kernel_rfl) hg (fun k=>if k=0 then ⟨1,0,0⟩ else if k=1 then ⟨1,0,0⟩ else ⟨1,0,0⟩) (l:=[⟨false,tyD,.prv (lvals [])⟩,⟨false,tyD,.prv (lvals [])⟩,⟨false,tyD,.prv (lvals [])⟩]) (args:=[.o (.a (.v (.slice a0 0 0))),.o (.a (.v (.slice a1 0 0))),.o (.a (.v (.slice a2 0 0))),.o (.a (aG .i64 x3))]) (r:=aI.enc true) ?_ ?_ rfl ?_
    ·intro i bb hbb
     match i,hbb with
     | 0,hbb=>cases hbb;exact⟨rfl,rfl,frD,[],_,hgD,rfl,⟨_,rfl⟩⟩
     | 1,hbb=>cases hbb;exact⟨rfl,rfl,frD,[],_,hgD,rfl,⟨_,rfl⟩⟩
     | 2,hbb=>cases hbb;exact⟨rfl,rfl,frD,[],_,hgD,rfl,⟨_,rfl⟩⟩
     | i+3,hbb=>cases hbb
    ·intro z hz k hk
     simp only[List.mem_cons,List.not_mem_nil,or_false] at hz
     rcases hz with rfl | rfl | rfl | rfl
     ·cases hk
     ·cases hk
     ·cases hk
     ·cases hk
    ·exact lgch.run ⟨[],[],[],0,0,0,0,0,0,tyD,tyD,tyD,a0,a1,a2,x3⟩ true true true ⟨rfl,Nat.le_refl _,by show 0≤_;omega,fun _=>rfl⟩ ⟨rfl,Nat.le_refl _,by show 0≤_;omega,fun _=>rfl⟩ ⟨rfl,Nat.le_refl _,by show 0≤_;omega,fun _=>rfl⟩ (fun z hz=>by cases hz) (fun z hz=>by cases hz) (fun z hz=>by cases hz) (by show 0+0+0≤3200000;omega)
   | win vs2 n2 c2 ty2 L2=>
    obtain⟨g12,g22,g32,g42,fr2,pre2,tail2,g52,g62⟩:=h2
    obtain⟨l2,rfl,hn2,hl2⟩:=split_rows (f:=Lf.vals) (sz:=64) (R:=LOk) n2 vs2 g12 e2
    have r2:n2≤1048576:=r2
    refine lC aj Tryd.func12 (c:=lgch.body) (by kernel_rfl) hg (fun k=>if k=0 then ⟨1,0,0⟩ else if k=1 then ⟨1,0,0⟩ else L2) (l:=[⟨false,tyD,.prv (lvals [])⟩,⟨false,tyD,.prv (lvals [])⟩,⟨false,ty2,.prv (lvals l2)⟩]) (args:=[.o (.a (.v (.slice a0 0 0))),.o (.a (.v (.slice a1 0 0))),.o (.a (.sld 2 0 0 n2 c2)),.o (.a (aG .i64 x3))]) (r:=aI.enc true) ?_ ?_ rfl ?_
    ·intro i bb hbb
     match i,hbb with
     | 0,hbb=>cases hbb;exact⟨rfl,rfl,frD,[],_,hgD,rfl,⟨_,rfl⟩⟩
     | 1,hbb=>cases hbb;exact⟨rfl,rfl,frD,[],_,hgD,rfl,⟨_,rfl⟩⟩
     | 2,hbb=>cases hbb;exact⟨rfl,rfl,fr2,pre2,_,g52,g62,⟨tail2,rfl⟩⟩
     | i+3,hbb=>cases hbb
    ·intro z hz k hk
     simp only[List.mem_cons,List.not_mem_nil,or_false] at hz
     rcases hz with rfl | rfl | rfl | rfl
     ·cases hk
     ·cases hk
     ·simp[SV.ids,SV1.ids,Atom.ids] at hk;subst hk;show 2<3;omega
     ·cases hk
    ·rcases Nat.eq_zero_or_pos n2 with z2 | z2
     ·exact lgch.run ⟨[],[],l2,0,0,n2,0,0,c2,tyD,tyD,ty2,a0,a1,none,x3⟩ true true false ⟨rfl,Nat.le_refl _,by show 0≤_;omega,fun _=>rfl⟩ ⟨rfl,Nat.le_refl _,by show 0≤_;omega,fun _=>rfl⟩ ⟨hn2,g22,by show n2≤_;omega,fun h=>by cases h⟩ (fun z hz=>by cases hz) (fun z hz=>by cases hz) hl2 (by show 0+0+n2≤3200000;omega)
     ·exact lgch.run ⟨[],[],l2,0,0,n2,0,0,c2,tyD,tyD,ty2,a0,a1,none,x3⟩ true true false ⟨rfl,Nat.le_refl _,by show 0≤_;omega,fun _=>rfl⟩ ⟨rfl,Nat.le_refl _,by show 0≤_;omega,fun _=>rfl⟩ ⟨hn2,g22,by show n2≤_;omega,fun h=>by cases h⟩ (fun z hz=>by cases hz) (fun z hz=>by cases hz) hl2 (by show 0+0+n2≤3200000;omega)
  | win vs1 n1 c1 ty1 L1=>
   obtain⟨g11,g21,g31,g41,fr1,pre1,tail1,g51,g61⟩:=h1
   obtain⟨l1,rfl,hn1,hl1⟩:=split_rows (f:=Lf.vals) (sz:=64) (R:=LOk) n1 vs1 g11 e1
   have r1:n1≤1048576:=r1
   cases x2 with
   | none a2=>
    refine lC aj Tryd.func12 (c:=lgch.body) (by kernel_rfl) hg (fun k=>if k=0 then ⟨1,0,0⟩ else if k=1 then L1 else ⟨1,0,0⟩) (l:=[⟨false,tyD,.prv (lvals [])⟩,⟨false,ty1,.prv (lvals l1)⟩,⟨false,tyD,.prv (lvals [])⟩]) (args:=[.o (.a (.v (.slice a0 0 0))),.o (.a (.sld 1 0 0 n1 c1)),.o (.a (.v (.slice a2 0 0))),.o (.a (aG .i64 x3))]) (r:=aI.enc true) ?_ ?_ rfl ?_
    ·intro i bb hbb
     match i,hbb with
     | 0,hbb=>cases hbb;exact⟨rfl,rfl,frD,[],_,hgD,rfl,⟨_,rfl⟩⟩
     | 1,hbb=>cases hbb;exact⟨rfl,rfl,fr1,pre1,_,g51,g61,⟨tail1,rfl⟩⟩
     | 2,hbb=>cases hbb;exact⟨rfl,rfl,frD,[],_,hgD,rfl,⟨_,rfl⟩⟩
     | i+3,hbb=>cases hbb
    ·intro z hz k hk
     simp only[List.mem_cons,List.not_mem_nil,or_false] at hz
     rcases hz with rfl | rfl | rfl | rfl
     ·cases hk
     ·simp[SV.ids,SV1.ids,Atom.ids] at hk;subst hk;show 1<3;omega
     ·cases hk
     ·cases hk
    ·rcases Nat.eq_zero_or_pos n1 with z1 | z1
     ·exact lgch.run ⟨[],l1,[],0,n1,0,0,c1,0,tyD,ty1,tyD,a0,none,a2,x3⟩ true false true ⟨rfl,Nat.le_refl _,by show 0≤_;omega,fun _=>rfl⟩ ⟨hn1,g21,by show n1≤_;omega,fun h=>by cases h⟩ ⟨rfl,Nat.le_refl _,by show 0≤_;omega,fun _=>rfl⟩ (fun z hz=>by cases hz) hl1 (fun z hz=>by cases hz) (by show 0+n1+0≤3200000;omega)
     ·exact lgch.run ⟨[],l1,[],0,n1,0,0,c1,0,tyD,ty1,tyD,a0,none,a2,x3⟩ true false true ⟨rfl,Nat.le_refl _,by show 0≤_;omega,fun _=>rfl⟩ ⟨hn1,g21,by show n1≤_;omega,fun h=>by cases h⟩ ⟨rfl,Nat.le_refl _,by show 0≤_;omega,fun _=>rfl⟩ (fun z hz=>by cases hz) hl1 (fun z hz=>by cases hz) (by show 0+n1+0≤3200000;omega)
   | win vs2 n2 c2 ty2 L2=>
    obtain⟨g12,g22,g32,g42,fr2,pre2,tail2,g52,g62⟩:=h2
    obtain⟨l2,rfl,hn2,hl2⟩:=split_rows (f:=Lf.vals) (sz:=64) (R:=LOk) n2 vs2 g12 e2
    have r2:n2≤1048576:=r2
    refine lC aj Tryd.func12 (c:=lgch.body) (by kernel_rfl) hg (fun k=>if k=0 then ⟨1,0,0⟩ else if k=1 then L1 else L2) (l:=[⟨false,tyD,.prv (lvals [])⟩,⟨false,ty1,.prv (lvals l1)⟩,⟨false,ty2,.prv (lvals l2)⟩]) (args:=[.o (.a (.v (.slice a0 0 0))),.o (.a (.sld 1 0 0 n1 c1)),.o (.a (.sld 2 0 0 n2 c2)),.o (.a (aG .i64 x3))]) (r:=aI.enc true) ?_ ?_ rfl ?_
    ·intro i bb hbb
     match i,hbb with
     | 0,hbb=>cases hbb;exact⟨rfl,rfl,frD,[],_,hgD,rfl,⟨_,rfl⟩⟩
     | 1,hbb=>cases hbb;exact⟨rfl,rfl,fr1,pre1,_,g51,g61,⟨tail1,rfl⟩⟩
     | 2,hbb=>cases hbb;exact⟨rfl,rfl,fr2,pre2,_,g52,g62,⟨tail2,rfl⟩⟩
     | i+3,hbb=>cases hbb
    ·intro z hz k hk
     simp only[List.mem_cons,List.not_mem_nil,or_false] at hz
     rcases hz with rfl | rfl | rfl | rfl
     ·cases hk
     ·simp[SV.ids,SV1.ids,Atom.ids] at hk;subst hk;show 1<3;omega
     ·simp[SV.ids,SV1.ids,Atom.ids] at hk;subst hk;show 2<3;omega
     ·cases hk
    ·rcases Nat.eq_zero_or_pos n1 with z1 | z1
     ·rcases Nat.eq_zero_or_pos n2 with z2 | z2
      ·exact lgch.run ⟨[],l1,l2,0,n1,n2,0,c1,c2,tyD,ty1,ty2,a0,none,none,x3⟩ true false false ⟨rfl,Nat.le_refl _,by show 0≤_;omega,fun _=>rfl⟩ ⟨hn1,g21,by show n1≤_;omega,fun h=>by cases h⟩ ⟨hn2,g22,by show n2≤_;omega,fun h=>by cases h⟩ (fun z hz=>by cases hz) hl1 hl2 (by show 0+n1+n2≤3200000;omega)
      ·exact lgch.run ⟨[],l1,l2,0,n1,n2,0,c1,c2,tyD,ty1,ty2,a0,none,none,x3⟩ true false false ⟨rfl,Nat.le_refl _,by show 0≤_;omega,fun _=>rfl⟩ ⟨hn1,g21,by show n1≤_;omega,fun h=>by cases h⟩ ⟨hn2,g22,by show n2≤_;omega,fun h=>by cases h⟩ (fun z hz=>by cases hz) hl1 hl2 (by show 0+n1+n2≤3200000;omega)
     ·rcases Nat.eq_zero_or_pos n2 with z2 | z2
      ·exact lgch.run ⟨[],l1,l2,0,n1,n2,0,c1,c2,tyD,ty1,ty2,a0,none,none,x3⟩ true false false ⟨rfl,Nat.le_refl _,by show 0≤_;omega,fun _=>rfl⟩ ⟨hn1,g21,by show n1≤_;omega,fun h=>by cases h⟩ ⟨hn2,g22,by show n2≤_;omega,fun h=>by cases h⟩ (fun z hz=>by cases hz) hl1 hl2 (by show 0+n1+n2≤3200000;omega)
      ·exact lgch.run ⟨[],l1,l2,0,n1,n2,0,c1,c2,tyD,ty1,ty2,a0,none,none,x3⟩ true false false ⟨rfl,Nat.le_refl _,by show 0≤_;omega,fun _=>rfl⟩ ⟨hn1,g21,by show n1≤_;omega,fun h=>by cases h⟩ ⟨hn2,g22,by show n2≤_;omega,fun h=>by cases h⟩ (fun z hz=>by cases hz) hl1 hl2 (by show 0+n1+n2≤3200000;omega)
 | win vs0 n0 c0 ty0 L0=>
  obtain⟨g10,g20,g30,g40,fr0,kD,tail0,g50,g60⟩:=h0
  obtain⟨l0,rfl,hn0,hl0⟩:=split_rows (f:=Lf.vals) (sz:=64) (R:=LOk) n0 vs0 g10 e0
  have r0:n0≤1048576:=r0
  cases x1 with
  | none a1=>
   cases x2 with
   | none a2=>
    refine lC aj Tryd.func12 (c:=lgch.body) (by kernel_rfl) hg (fun k=>if k=0 then L0 else if k=1 then ⟨1,0,0⟩ else ⟨1,0,0⟩) (l:=[⟨false,ty0,.prv (lvals l0)⟩,⟨false,tyD,.prv (lvals [])⟩,⟨false,tyD,.prv (lvals [])⟩]) (args:=[.o (.a (.sld 0 0 0 n0 c0)),.o (.a (.v (.slice a1 0 0))),.o (.a (.v (.slice a2 0 0))),.o (.a (aG .i64 x3))]) (r:=aI.enc true) ?_ ?_ rfl ?_
    ·intro i bb hbb
     match i,hbb with
     | 0,hbb=>cases hbb;exact⟨rfl,rfl,fr0,kD,_,g50,g60,⟨tail0,rfl⟩⟩
     | 1,hbb=>cases hbb;exact⟨rfl,rfl,frD,[],_,hgD,rfl,⟨_,rfl⟩⟩
     | 2,hbb=>cases hbb;exact⟨rfl,rfl,frD,[],_,hgD,rfl,⟨_,rfl⟩⟩
     | i+3,hbb=>cases hbb
    ·intro z hz k hk
     simp only[List.mem_cons,List.not_mem_nil,or_false] at hz
     rcases hz with rfl | rfl | rfl | rfl
     ·simp[SV.ids,SV1.ids,Atom.ids] at hk;subst hk;show 0<3;omega
     ·cases hk
     ·cases hk
     ·cases hk
    ·rcases Nat.eq_zero_or_pos n0 with z0 | z0
     ·exact lgch.run ⟨l0,[],[],n0,0,0,c0,0,0,ty0,tyD,tyD,none,a1,a2,x3⟩ false true true ⟨hn0,g20,by show n0≤_;omega,fun h=>by cases h⟩ ⟨rfl,Nat.le_refl _,by show 0≤_;omega,fun _=>rfl⟩ ⟨rfl,Nat.le_refl _,by show 0≤_;omega,fun _=>rfl⟩ hl0 (fun z hz=>by cases hz) (fun z hz=>by cases hz) (by show n0+0+0≤3200000;omega)
     ·exact lgch.run ⟨l0,[],[],n0,0,0,c0,0,0,ty0,tyD,tyD,none,a1,a2,x3⟩ false true true ⟨hn0,g20,by show n0≤_;omega,fun h=>by cases h⟩ ⟨rfl,Nat.le_refl _,by show 0≤_;omega,fun _=>rfl⟩ ⟨rfl,Nat.le_refl _,by show 0≤_;omega,fun _=>rfl⟩ hl0 (fun z hz=>by cases hz) (fun z hz=>by cases hz) (by show n0+0+0≤3200000;omega)
   | win vs2 n2 c2 ty2 L2=>
    obtain⟨g12,g22,g32,g42,fr2,pre2,tail2,g52,g62⟩:=h2
    obtain⟨l2,rfl,hn2,hl2⟩:=split_rows (f:=Lf.vals) (sz:=64) (R:=LOk) n2 vs2 g12 e2
    have r2:n2≤1048576:=r2
    refine lC aj Tryd.func12 (c:=lgch.body) (by kernel_rfl) hg (fun k=>if k=0 then L0 else if k=1 then ⟨1,0,0⟩ else L2) (l:=[⟨false,ty0,.prv (lvals l0)⟩,⟨false,tyD,.prv (lvals [])⟩,⟨false,ty2,.prv (lvals l2)⟩]) (args:=[.o (.a (.sld 0 0 0 n0 c0)),.o (.a (.v (.slice a1 0 0))),.o (.a (.sld 2 0 0 n2 c2)),.o (.a (aG .i64 x3))]) (r:=aI.enc true) ?_ ?_ rfl ?_
    ·intro i bb hbb
     match i,hbb with
     | 0,hbb=>cases hbb;exact⟨rfl,rfl,fr0,kD,_,g50,g60,⟨tail0,rfl⟩⟩
     | 1,hbb=>cases hbb;exact⟨rfl,rfl,frD,[],_,hgD,rfl,⟨_,rfl⟩⟩
     | 2,hbb=>cases hbb;exact⟨rfl,rfl,fr2,pre2,_,g52,g62,⟨tail2,rfl⟩⟩
     | i+3,hbb=>cases hbb
    ·intro z hz k hk
     simp only[List.mem_cons,List.not_mem_nil,or_false] at hz
     rcases hz with rfl | rfl | rfl | rfl
     ·simp[SV.ids,SV1.ids,Atom.ids] at hk;subst hk;show 0<3;omega
     ·cases hk
     ·simp[SV.ids,SV1.ids,Atom.ids] at hk;subst hk;show 2<3;omega
     ·cases hk
    ·rcases Nat.eq_zero_or_pos n0 with z0 | z0
     ·rcases Nat.eq_zero_or_pos n2 with z2 | z2
      ·exact lgch.run ⟨l0,[],l2,n0,0,n2,c0,0,c2,ty0,tyD,ty2,none,a1,none,x3⟩ false true false ⟨hn0,g20,by show n0≤_;omega,fun h=>by cases h⟩ ⟨rfl,Nat.le_refl _,by show 0≤_;omega,fun _=>rfl⟩ ⟨hn2,g22,by show n2≤_;omega,fun h=>by cases h⟩ hl0 (fun z hz=>by cases hz) hl2 (by show n0+0+n2≤3200000;omega)
      ·exact lgch.run ⟨l0,[],l2,n0,0,n2,c0,0,c2,ty0,tyD,ty2,none,a1,none,x3⟩ false true false ⟨hn0,g20,by show n0≤_;omega,fun h=>by cases h⟩ ⟨rfl,Nat.le_refl _,by show 0≤_;omega,fun _=>rfl⟩ ⟨hn2,g22,by show n2≤_;omega,fun h=>by cases h⟩ hl0 (fun z hz=>by cases hz) hl2 (by show n0+0+n2≤3200000;omega)
     ·rcases Nat.eq_zero_or_pos n2 with z2 | z2
      ·exact lgch.run ⟨l0,[],l2,n0,0,n2,c0,0,c2,ty0,tyD,ty2,none,a1,none,x3⟩ false true false ⟨hn0,g20,by show n0≤_;omega,fun h=>by cases h⟩ ⟨rfl,Nat.le_refl _,by show 0≤_;omega,fun _=>rfl⟩ ⟨hn2,g22,by show n2≤_;omega,fun h=>by cases h⟩ hl0 (fun z hz=>by cases hz) hl2 (by show n0+0+n2≤3200000;omega)
      ·exact lgch.run ⟨l0,[],l2,n0,0,n2,c0,0,c2,ty0,tyD,ty2,none,a1,none,x3⟩ false true false ⟨hn0,g20,by show n0≤_;omega,fun h=>by cases h⟩ ⟨rfl,Nat.le_refl _,by show 0≤_;omega,fun _=>rfl⟩ ⟨hn2,g22,by show n2≤_;omega,fun h=>by cases h⟩ hl0 (fun z hz=>by cases hz) hl2 (by show n0+0+n2≤3200000;omega)
  | win vs1 n1 c1 ty1 L1=>
   obtain⟨g11,g21,g31,g41,fr1,pre1,tail1,g51,g61⟩:=h1
   obtain⟨l1,rfl,hn1,hl1⟩:=split_rows (f:=Lf.vals) (sz:=64) (R:=LOk) n1 vs1 g11 e1
   have r1:n1≤1048576:=r1
   cases x2 with
   | none a2=>
    refine lC aj Tryd.func12 (c:=lgch.body) (by kernel_rfl) hg (fun k=>if k=0 then L0 else if k=1 then L1 else ⟨1,0,0⟩) (l:=[⟨false,ty0,.prv (lvals l0)⟩,⟨false,ty1,.prv (lvals l1)⟩,⟨false,tyD,.prv (lvals [])⟩]) (args:=[.o (.a (.sld 0 0 0 n0 c0)),.o (.a (.sld 1 0 0 n1 c1)),.o (.a (.v (.slice a2 0 0))),.o (.a (aG .i64 x3))]) (r:=aI.enc true) ?_ ?_ rfl ?_
    ·intro i bb hbb
     match i,hbb with
     | 0,hbb=>cases hbb;exact⟨rfl,rfl,fr0,kD,_,g50,g60,⟨tail0,rfl⟩⟩
     | 1,hbb=>cases hbb;exact⟨rfl,rfl,fr1,pre1,_,g51,g61,⟨tail1,rfl⟩⟩
     | 2,hbb=>cases hbb;exact⟨rfl,rfl,frD,[],_,hgD,rfl,⟨_,rfl⟩⟩
     | i+3,hbb=>cases hbb
    ·intro z hz k hk
     simp only[List.mem_cons,List.not_mem_nil,or_false] at hz
     rcases hz with rfl | rfl | rfl | rfl
     ·simp[SV.ids,SV1.ids,Atom.ids] at hk;subst hk;show 0<3;omega
     ·simp[SV.ids,SV1.ids,Atom.ids] at hk;subst hk;show 1<3;omega
     ·cases hk
     ·cases hk
    ·rcases Nat.eq_zero_or_pos n0 with z0 | z0
     ·rcases Nat.eq_zero_or_pos n1 with z1 | z1
      ·exact lgch.run ⟨l0,l1,[],n0,n1,0,c0,c1,0,ty0,ty1,tyD,none,none,a2,x3⟩ false false true ⟨hn0,g20,by show n0≤_;omega,fun h=>by cases h⟩ ⟨hn1,g21,by show n1≤_;omega,fun h=>by cases h⟩ ⟨rfl,Nat.le_refl _,by show 0≤_;omega,fun _=>rfl⟩ hl0 hl1 (fun z hz=>by cases hz) (by show n0+n1+0≤3200000;omega)
      ·exact lgch.run ⟨l0,l1,[],n0,n1,0,c0,c1,0,ty0,ty1,tyD,none,none,a2,x3⟩ false false true ⟨hn0,g20,by show n0≤_;omega,fun h=>by cases h⟩ ⟨hn1,g21,by show n1≤_;omega,fun h=>by cases h⟩ ⟨rfl,Nat.le_refl _,by show 0≤_;omega,fun _=>rfl⟩ hl0 hl1 (fun z hz=>by cases hz) (by show n0+n1+0≤3200000;omega)
     ·rcases Nat.eq_zero_or_pos n1 with z1 | z1
      ·exact lgch.run ⟨l0,l1,[],n0,n1,0,c0,c1,0,ty0,ty1,tyD,none,none,a2,x3⟩ false false true ⟨hn0,g20,by show n0≤_;omega,fun h=>by cases h⟩ ⟨hn1,g21,by show n1≤_;omega,fun h=>by cases h⟩ ⟨rfl,Nat.le_refl _,by show 0≤_;omega,fun _=>rfl⟩ hl0 hl1 (fun z hz=>by cases hz) (by show n0+n1+0≤3200000;omega)
      ·exact lgch.run ⟨l0,l1,[],n0,n1,0,c0,c1,0,ty0,ty1,tyD,none,none,a2,x3⟩ false false true ⟨hn0,g20,by show n0≤_;omega,fun h=>by cases h⟩ ⟨hn1,g21,by show n1≤_;omega,fun h=>by cases h⟩ ⟨rfl,Nat.le_refl _,by show 0≤_;omega,fun _=>rfl⟩ hl0 hl1 (fun z hz=>by cases hz) (by show n0+n1+0≤3200000;omega)
   | win vs2 n2 c2 ty2 L2=>
    obtain⟨g12,g22,g32,g42,fr2,pre2,tail2,g52,g62⟩:=h2
    obtain⟨l2,rfl,hn2,hl2⟩:=split_rows (f:=Lf.vals) (sz:=64) (R:=LOk) n2 vs2 g12 e2
    have r2:n2≤1048576:=r2
    refine lC aj Tryd.func12 (c:=lgch.body) (by kernel_rfl) hg (fun k=>if k=0 then L0 else if k=1 then L1 else L2) (l:=[⟨false,ty0,.prv (lvals l0)⟩,⟨false,ty1,.prv (lvals l1)⟩,⟨false,ty2,.prv (lvals l2)⟩]) (args:=[.o (.a (.sld 0 0 0 n0 c0)),.o (.a (.sld 1 0 0 n1 c1)),.o (.a (.sld 2 0 0 n2 c2)),.o (.a (aG .i64 x3))]) (r:=aI.enc true) ?_ ?_ rfl ?_
    ·intro i bb hbb
     match i,hbb with
     | 0,hbb=>cases hbb;exact⟨rfl,rfl,fr0,kD,_,g50,g60,⟨tail0,rfl⟩⟩
     | 1,hbb=>cases hbb;exact⟨rfl,rfl,fr1,pre1,_,g51,g61,⟨tail1,rfl⟩⟩
     | 2,hbb=>cases hbb;exact⟨rfl,rfl,fr2,pre2,_,g52,g62,⟨tail2,rfl⟩⟩
     | i+3,hbb=>cases hbb
    ·intro z hz k hk
     simp only[List.mem_cons,List.not_mem_nil,or_false] at hz
     rcases hz with rfl | rfl | rfl | rfl
     ·simp[SV.ids,SV1.ids,Atom.ids] at hk;subst hk;show 0<3;omega
     ·simp[SV.ids,SV1.ids,Atom.ids] at hk;subst hk;show 1<3;omega
     ·simp[SV.ids,SV1.ids,Atom.ids] at hk;subst hk;show 2<3;omega
     ·cases hk
    ·rcases Nat.eq_zero_or_pos n0 with z0 | z0
     ·rcases Nat.eq_zero_or_pos n1 with z1 | z1
      ·rcases Nat.eq_zero_or_pos n2 with z2 | z2
       ·exact lgch.run ⟨l0,l1,l2,n0,n1,n2,c0,c1,c2,ty0,ty1,ty2,none,none,none,x3⟩ false false false ⟨hn0,g20,by show n0≤_;omega,fun h=>by cases h⟩ ⟨hn1,g21,by show n1≤_;omega,fun h=>by cases h⟩ ⟨hn2,g22,by show n2≤_;omega,fun h=>by cases h⟩ hl0 hl1 hl2 (by show n0+n1+n2≤3200000;omega)
       ·exact lgch.run ⟨l0,l1,l2,n0,n1,n2,c0,c1,c2,ty0,ty1,ty2,none,none,none,x3⟩ false false false ⟨hn0,g20,by show n0≤_;omega,fun h=>by cases h⟩ ⟨hn1,g21,by show n1≤_;omega,fun h=>by cases h⟩ ⟨hn2,g22,by show n2≤_;omega,fun h=>by cases h⟩ hl0 hl1 hl2 (by show n0+n1+n2≤3200000;omega)
      ·rcases Nat.eq_zero_or_pos n2 with z2 | z2
       ·exact lgch.run ⟨l0,l1,l2,n0,n1,n2,c0,c1,c2,ty0,ty1,ty2,none,none,none,x3⟩ false false false ⟨hn0,g20,by show n0≤_;omega,fun h=>by cases h⟩ ⟨hn1,g21,by show n1≤_;omega,fun h=>by cases h⟩ ⟨hn2,g22,by show n2≤_;omega,fun h=>by cases h⟩ hl0 hl1 hl2 (by show n0+n1+n2≤3200000;omega)
       ·exact lgch.run ⟨l0,l1,l2,n0,n1,n2,c0,c1,c2,ty0,ty1,ty2,none,none,none,x3⟩ false false false ⟨hn0,g20,by show n0≤_;omega,fun h=>by cases h⟩ ⟨hn1,g21,by show n1≤_;omega,fun h=>by cases h⟩ ⟨hn2,g22,by show n2≤_;omega,fun h=>by cases h⟩ hl0 hl1 hl2 (by show n0+n1+n2≤3200000;omega)
     ·rcases Nat.eq_zero_or_pos n1 with z1 | z1
      ·rcases Nat.eq_zero_or_pos n2 with z2 | z2
       ·exact lgch.run ⟨l0,l1,l2,n0,n1,n2,c0,c1,c2,ty0,ty1,ty2,none,none,none,x3⟩ false false false ⟨hn0,g20,by show n0≤_;omega,fun h=>by cases h⟩ ⟨hn1,g21,by show n1≤_;omega,fun h=>by cases h⟩ ⟨hn2,g22,by show n2≤_;omega,fun h=>by cases h⟩ hl0 hl1 hl2 (by show n0+n1+n2≤3200000;omega)
       ·exact lgch.run ⟨l0,l1,l2,n0,n1,n2,c0,c1,c2,ty0,ty1,ty2,none,none,none,x3⟩ false false false ⟨hn0,g20,by show n0≤_;omega,fun h=>by cases h⟩ ⟨hn1,g21,by show n1≤_;omega,fun h=>by cases h⟩ ⟨hn2,g22,by show n2≤_;omega,fun h=>by cases h⟩ hl0 hl1 hl2 (by show n0+n1+n2≤3200000;omega)
      ·rcases Nat.eq_zero_or_pos n2 with z2 | z2
       ·exact lgch.run ⟨l0,l1,l2,n0,n1,n2,c0,c1,c2,ty0,ty1,ty2,none,none,none,x3⟩ false false false ⟨hn0,g20,by show n0≤_;omega,fun h=>by cases h⟩ ⟨hn1,g21,by show n1≤_;omega,fun h=>by cases h⟩ ⟨hn2,g22,by show n2≤_;omega,fun h=>by cases h⟩ hl0 hl1 hl2 (by show n0+n1+n2≤3200000;omega)
       ·exact lgch.run ⟨l0,l1,l2,n0,n1,n2,c0,c1,c2,ty0,ty1,ty2,none,none,none,x3⟩ false false false ⟨hn0,g20,by show n0≤_;omega,fun h=>by cases h⟩ ⟨hn1,g21,by show n1≤_;omega,fun h=>by cases h⟩ ⟨hn2,g22,by show n2≤_;omega,fun h=>by cases h⟩ hl0 hl1 hl2 (by show n0+n1+n2≤3200000;omega)
end Go.Proofs.YtdccehmekkcheaaDoor

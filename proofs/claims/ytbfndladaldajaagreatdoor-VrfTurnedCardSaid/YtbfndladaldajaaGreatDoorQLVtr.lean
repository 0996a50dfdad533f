/- The law of turned proofs: walked; its content. -/
import Derived.Test.YtbfndladaldajaaGreatDoorQMO
import Derived.Test.YtbfndladaldajaaGreatDoorQEDoor
import Derived.Test.YtbfndladaldajaaGreatDoorQRVrB
import Derived.Test.YtbfndladaldajaaGreatDoorQArr80
namespace Go.Proofs.YtbfndladaldajaaGreatDoor
open Go Go.Eng Go.RowKit
set_option linter.unusedVariables false
set_option linter.unusedSimpArgs false
set_option maxRecDepth 100000
theorem xor_byt (a b:Int):(Lit.int .u8 (bits .xor .u8 a b)).wf=true:=by
 have h:0≤bits .xor .u8 a b∧bits .xor .u8 a b<256:=by
  unfold bits
  rw[IntKind.wrap_u8]
  omega
 simp[Lit.wf,IntKind.min,IntKind.max,IntKind.signed,IntKind.bits]
 omega
theorem byt_wf {z:Int} (h:0≤z∧z<256):(Lit.int .u8 z).wf=true:=by
 simp[Lit.wf,IntKind.min,IntKind.max,IntKind.signed,IntKind.bits]
 omega
theorem mem_putI (o:Nat) (z:Int):∀(xs:List Int) (i:Nat) (x:Int),x∈putI o [z] i xs→x=z∨x∈xs
 | [],_,x,h=>by cases h
 | y::r,i,x,h=>by
  rw[putI] at h
  rcases List.mem_cons.1 h with h | h
  ·cases hc:(Nat.ble o i&&Nat.blt (i-o) [z].length) with
   | false=>rw[hc,cond_false] at h;exact .inr (by rw[h];exact List.mem_cons_self ..)
   | true=>
    rw[hc,cond_true] at h
    rw[Bool.and_eq_true] at hc
    have h2:i-o<1:=Nat.le_of_ble_eq_true hc.2
    have h3:i-o=0:=by omega
    rw[h3] at h
    exact .inl h
  ·rcases mem_putI o z r (i+1) x h with h | h
   ·exact .inl h
   ·exact .inr (List.mem_cons_of_mem _ h)
theorem put80 (D:B80) (hD:D.Ok) (k:Nat) (z:Int) (hz:(Lit.int .u8 z).wf=true):∃E:B80,putI k [z] 0 D.to=E.to∧E.Ok:=by
 refine b80_of_list _ (by rw[bE];rfl) fun x hx=> ?_
 rcases mem_putI k z _ _ x hx with h | h
 ·rw[h];exact hz
 ·obtain⟨i,hi,rfl⟩:=List.mem_iff_getElem.1 h
  refine byt_wf ?_
  have h:i<80:=hi
  match i,h with
  | 0,_=>exact hD.1 0
  | 1,_=>exact hD.1 1
  | 2,_=>exact hD.1 2
  | 3,_=>exact hD.1 3
  | 4,_=>exact hD.1 4
  | 5,_=>exact hD.1 5
  | 6,_=>exact hD.1 6
  | 7,_=>exact hD.1 7
  | 8,_=>exact hD.1 8
  | 9,_=>exact hD.1 9
  | 10,_=>exact hD.1 10
  | 11,_=>exact hD.1 11
  | 12,_=>exact hD.1 12
  | 13,_=>exact hD.1 13
  | 14,_=>exact hD.1 14
  | 15,_=>exact hD.1 15
  | 16,_=>exact hD.1 16
  | 17,_=>exact hD.1 17
  | 18,_=>exact hD.1 18
  | 19,_=>exact hD.1 19
  | 20,_=>exact hD.1 20
  | 21,_=>exact hD.1 21
  | 22,_=>exact hD.1 22
  | 23,_=>exact hD.1 23
  | 24,_=>exact hD.1 24
  | 25,_=>exact hD.1 25
  | 26,_=>exact hD.1 26
  | 27,_=>exact hD.1 27
  | 28,_=>exact hD.1 28
  | 29,_=>exact hD.1 29
  | 30,_=>exact hD.1 30
  | 31,_=>exact hD.1 31
  | 32,_=>exact hD.2.1 0
  | 33,_=>exact hD.2.1 1
  | 34,_=>exact hD.2.1 2
  | 35,_=>exact hD.2.1 3
  | 36,_=>exact hD.2.1 4
  | 37,_=>exact hD.2.1 5
  | 38,_=>exact hD.2.1 6
  | 39,_=>exact hD.2.1 7
  | 40,_=>exact hD.2.1 8
  | 41,_=>exact hD.2.1 9
  | 42,_=>exact hD.2.1 10
  | 43,_=>exact hD.2.1 11
  | 44,_=>exact hD.2.1 12
  | 45,_=>exact hD.2.1 13
  | 46,_=>exact hD.2.1 14
  | 47,_=>exact hD.2.1 15
  | 48,_=>exact hD.2.2 0
  | 49,_=>exact hD.2.2 1
  | 50,_=>exact hD.2.2 2
  | 51,_=>exact hD.2.2 3
  | 52,_=>exact hD.2.2 4
  | 53,_=>exact hD.2.2 5
  | 54,_=>exact hD.2.2 6
  | 55,_=>exact hD.2.2 7
  | 56,_=>exact hD.2.2 8
  | 57,_=>exact hD.2.2 9
  | 58,_=>exact hD.2.2 10
  | 59,_=>exact hD.2.2 11
  | 60,_=>exact hD.2.2 12
  | 61,_=>exact hD.2.2 13
  | 62,_=>exact hD.2.2 14
  | 63,_=>exact hD.2.2 15
  | 64,_=>exact hD.2.2 16
  | 65,_=>exact hD.2.2 17
  | 66,_=>exact hD.2.2 18
  | 67,_=>exact hD.2.2 19
  | 68,_=>exact hD.2.2 20
  | 69,_=>exact hD.2.2 21
  | 70,_=>exact hD.2.2 22
  | 71,_=>exact hD.2.2 23
  | 72,_=>exact hD.2.2 24
  | 73,_=>exact hD.2.2 25
  | 74,_=>exact hD.2.2 26
  | 75,_=>exact hD.2.2 27
  | 76,_=>exact hD.2.2 28
  | 77,_=>exact hD.2.2 29
  | 78,_=>exact hD.2.2 30
  | 79,_=>exact hD.2.2 31
  | j+80,h=>exact absurd h (by omega)
theorem put32 (b:B32) (hb:BOk b) (k:Nat) (z:Int) (hz:(Lit.int .u8 z).wf=true):∃E:B32,putI k [z] 0 b.to=E.to∧BOk E:=by
 refine b32_of_list _ (by rw[bE];rfl) fun x hx=> ?_
 rcases mem_putI k z _ _ x hx with h | h
 ·rw[h];exact hz
 ·obtain⟨i,hi,rfl⟩:=List.mem_iff_getElem.1 h
  have:∀i (h:i<b.to.length),b.to[i]=b.at i:=fun i h=>by
   have h:i<32:=h
   match i,h with
   | 0,_=>rfl
   | 1,_=>rfl
   | 2,_=>rfl
   | 3,_=>rfl
   | 4,_=>rfl
   | 5,_=>rfl
   | 6,_=>rfl
   | 7,_=>rfl
   | 8,_=>rfl
   | 9,_=>rfl
   | 10,_=>rfl
   | 11,_=>rfl
   | 12,_=>rfl
   | 13,_=>rfl
   | 14,_=>rfl
   | 15,_=>rfl
   | 16,_=>rfl
   | 17,_=>rfl
   | 18,_=>rfl
   | 19,_=>rfl
   | 20,_=>rfl
   | 21,_=>rfl
   | 22,_=>rfl
   | 23,_=>rfl
   | 24,_=>rfl
   | 25,_=>rfl
   | 26,_=>rfl
   | 27,_=>rfl
   | 28,_=>rfl
   | 29,_=>rfl
   | 30,_=>rfl
   | 31,_=>rfl
   | j+32,h=>exact absurd h (by omega)
  rw[this]
  exact byt_wf (hb i)
namespace lvtr
noncomputable abbrev fn:=Tryz.f5
noncomputable def body:Code:=bS fn
noncomputable def R5:Code:=cs1 (csuf 4 body)
noncomputable def i5:Nat:=match R5 with | .region i _ _=>i | _=>0
noncomputable def T6:Code:=csuf 5 body
theorem suf_eq:csuf 4 body= .seq (.region i5 (opsOf R5) false) T6:=by kernel_rfl
theorem nil5:(opsOf R5).toList.drop 4=[]:=by kernel_rfl
noncomputable def Γ (R:B32→List Int→SV) (hR:R=prvR) (X:B32→List Int→B80→B64) (hX:X=vfX) (E:B32→List Int→B80→Int) (hE:E=vfE):Cons Tryz.prog G2:=[awake6_con,rprv.con R hR,rpublic_con,vfy.con X hX E hE,rvfy.con X hX E hE]
def uI (w:Int) (m:Int):Int:=IntKind.i64.wrap ((IntKind.u64.wrap w).tmod m)
theorem uI_bd (w:Int) {m:Int} (h0:0<m) (h1:m<1000):0≤uI w m∧uI w m<m:=by
 have h:0≤IntKind.u64.wrap w:=by rw[wrap64];exact Int.emod_nonneg _ (by decide)
 have h2:(IntKind.u64.wrap w).tmod m=IntKind.u64.wrap w%m:=Int.tmod_eq_emod_of_nonneg h
 have h3:=Int.emod_nonneg (IntKind.u64.wrap w) (show m≠0 by omega)
 have h4:=Int.emod_lt_of_pos (IntKind.u64.wrap w) h0
 unfold uI
 rw[h2,dQ _ (by omega) (by omega)]
 exact⟨h3,h4⟩
namespace w
def MA (ys:List Int) (n c:Nat) (ty:TypeId) (e:B32) (wh at_:Int):List (Option SV):=aJ 93 0 [(1,.o (.a (.sld 0 0 0 n c))),(2,(cInt .i64).enc wh),(3,(cInt .i64).enc at_),(9,.o (.a (.ptr 2 0))),(11,.o (.a (.ptr 3 0)))]
def MB (ys:List Int) (n c:Nat) (ty:TypeId) (e:B32) (wh at_:Int) (l:Nat):List (Option SV):=aJ 93 0 [(2,(cInt .i64).enc wh),(3,(cInt .i64).enc at_),(9,.o (.a (.ptr 2 0))),(11,.o (.a (.ptr 3 0))),(12,.o (.a (.slg 4 l)))]
def MZ (ys:List Int) (n c:Nat) (ty:TypeId) (e:B32) (wh at_:Int):List (Option SV):=aJ 93 0 [(8,aN.enc true)]
def args (ys:List Int) (n c:Nat) (ty:TypeId) (e:B32) (wh at_:Int):List Blk:=[⟨false,ty,.pre .u8 ys⟩]
section
variable (ys:List Int) (n c:Nat) (ty:TypeId) (e:B32) (wh at_:Int)
def memA (q:B32) (D:B80):List Blk:=args ys n c ty e wh at_++[⟨true,22,.lit (cB32.row e)⟩,⟨true,34,.lit (cB80.row D)⟩,⟨true,22,.lit (cB32.row q)⟩]
def memB (q:B32) (D:B80) (xs:List Int) (lo:Nat) (hi:Option Nat):List Blk:=memA ys n c ty e wh at_ q D++[⟨true,5,.gro .u8 xs lo hi⟩]
theorem idsA (q:B32) (D:B80):aF (memA ys n c ty e wh at_ q D).length (MA ys n c ty e wh at_ ) (memA ys n c ty e wh at_ q D)=true:=by kernel_rfl
theorem idsB (q:B32) (D:B80) (xs:List Int) (lo:Nat) (hi:Option Nat) (l:Nat):aF (memB ys n c ty e wh at_ q D xs lo hi).length (MB ys n c ty e wh at_ l) (memB ys n c ty e wh at_ q D xs lo hi)=true:=by kernel_rfl
theorem idsZ:aF (args ys n c ty e wh at_ ).length (MZ ys n c ty e wh at_ ) (args ys n c ty e wh at_ )=true:=by kernel_rfl
end
theorem s0 (R:B32→List Int→SV) (hR:R=prvR) (X:B32→List Int→B80→B64) (hX:X=vfX) (E:B32→List Int→B80→Int) (hE:E=vfE) (ys:List Int) (n c:Nat) (ty:TypeId) (e:B32) (wh at_:Int) (q:B32) (D:B80) (f:Int):outX (memA ys n c ty e wh at_ q D).length (MA ys n c ty e wh at_ ) (exec (Γ R hR X hX E hE) tys 100 (cpre 4 body) ⟨aA fn [cB32.enc e,.o (.a (.sld 0 0 0 n c)),(cInt .i64).enc wh,(cInt .i64).enc at_],args ys n c ty e wh at_ ,[(22,[.s (pairP D f)]),(26,[.s (cB32.enc q)])]⟩)=some (.normal,live (MA ys n c ty e wh at_ ),(MA ys n c ty e wh at_ ).length,memA ys n c ty e wh at_ q D,[0+n≤ys.length,n≤c,n≤140737488353900,R e ((ys.drop 0).take n)=pairP D f,cB32.enc (pubV e)=cB32.enc q]):=by kernel_rfl
section
variable (ys:List Int) (n c:Nat) (ty:TypeId) (e:B32) (wh at_:Int) (q:B32) (D:B80) (g:Nat→SV)
theorem e5:outXL (memB ys n c ty e wh at_ q D ([]++((ys.drop 0).take n)) 0 (some 1)).length (MB ys n c ty e wh at_ (0+n)) (bV (Γ prvR rfl vfX rfl vfE rfl) tys (opsOf R5).toList ((opsOf R5).toList.take 4) ⟨fill g 0 (MA ys n c ty e wh at_ ),memA ys n c ty e wh at_ q D,[(27,[.dyn]),(29,[.dyn])]⟩)=some (live (MB ys n c ty e wh at_ (0+n)),(MB ys n c ty e wh at_ (0+n)).length,memB ys n c ty e wh at_ q D ([]++((ys.drop 0).take n)) 0 (some 1),[0+n≤ys.length,0=0,0+n≤0]):=by kernel_rfl
theorem f5:outNL [0,1,2,3,5] (MB ys n c ty e wh at_ (0+n)) (bV (Γ prvR rfl vfX rfl vfE rfl) tys (opsOf R5).toList ((opsOf R5).toList.take 4) ⟨fill g 0 (MA ys n c ty e wh at_ ),memA ys n c ty e wh at_ q D,[(27,[.dyn])]⟩)=some ((live (MB ys n c ty e wh at_ (0+n))).map (SV.ren (piF [0,1,2,3,5])),(MB ys n c ty e wh at_ (0+n)).length,(memB ys n c ty e wh at_ q D ([]++((ys.drop 0).take n)) (0+n) none).map (fun b=>some (b.ren (piF [0,1,2,3,5]))),[0+n≤ys.length,0=0,1≤0+n,Room Tryz.prog 5 (0+n)]):=by kernel_rfl
end
theorem t0 (R:B32→List Int→SV) (hR:R=prvR) (X:B32→List Int→B80→B64) (hX:X=vfX) (E:B32→List Int→B80→Int) (hE:E=vfE) (ys:List Int) (n c:Nat) (ty:TypeId) (e:B32) (wh at_:Int) (q:B32) (D:B80) (F:B80) (xs:List Int) (l lo k:Nat) (av z r:Int) (x:B64) (g:Nat→SV):∀(s:Nat),s<8→outX (args ys n c ty e wh at_ ).length (MZ ys n c ty e wh at_ ) (exec (Γ R hR X hX E hE) tys 100 T6 ⟨fill g 0 (MB ys n c ty e wh at_ l),memB ys n c ty e wh at_ q D xs lo none,[(33,[.n av]),(37,[.n 0]),(46,[.n (k:Int)]),(48,[.n (k:Int)]),(49,[.dyn]),(52,[.n (s:Int)]),(55,[.n z]),(56,[.dyn]),(74,[.s (cB80.enc F)]),(81,[.s (cB80.enc F)]),(75,[.s (aC x r)]),(82,[.s (aC x r)]),(87,[.b true]),(91,[.b true])]⟩)=some (.ret,live (MZ ys n c ty e wh at_ ),(MZ ys n c ty e wh at_ ).length,args ys n c ty e wh at_ ,[uI at_ 640=av,uI wh 3=0,IntKind.i64.wrap (av.tdiv 8)=(k:Int),IntKind.i64.wrap (av.tdiv 8)=(k:Int),0≤(k:Int),(k:Int)<80,0+k<D.to.length,av.tmod 8=(s:Int),bits .xor .u8 (D.to.getD (0+k) 0) ((2:Int)^s)=z,0≤(k:Int),(k:Int)<80,0+k+1≤D.to.length,SV.o (.g ((putI (0+k) [z] 0 D.to).map (int1 .u8)))=cB80.enc F,0+l≤xs.length,l≤lo,F.Ok,l≤140737488353900,aC (X q ((xs.drop 0).take l) F) (E q ((xs.drop 0).take l) F)=aC x r,SV.o (.g ((putI (0+k) [z] 0 D.to).map (int1 .u8)))=cB80.enc F,0+l≤xs.length,l≤lo,BOk q,F.Ok,l≤140737488353900,aC (X q ((xs.drop 0).take l) F) (E q ((xs.drop 0).take l) F)=aC x r,sameL x.to=true,(r==r)=true])
 | 0,_=>by kernel_rfl
 | 1,_=>by kernel_rfl
 | 2,_=>by kernel_rfl
 | 3,_=>by kernel_rfl
 | 4,_=>by kernel_rfl
 | 5,_=>by kernel_rfl
 | 6,_=>by kernel_rfl
 | 7,_=>by kernel_rfl
 | j+8,h=>absurd h (by omega)
theorem t1 (R:B32→List Int→SV) (hR:R=prvR) (X:B32→List Int→B80→B64) (hX:X=vfX) (E:B32→List Int→B80→Int) (hE:E=vfE) (ys:List Int) (n c:Nat) (ty:TypeId) (e:B32) (wh at_:Int) (q:B32) (D:B80) (F:B32) (xs:List Int) (l lo k:Nat) (av z r:Int) (x:B64) (g:Nat→SV):∀(s:Nat),s<8→outX (args ys n c ty e wh at_ ).length (MZ ys n c ty e wh at_ ) (exec (Γ R hR X hX E hE) tys 100 T6 ⟨fill g 0 (MB ys n c ty e wh at_ l),memB ys n c ty e wh at_ q D xs lo none,[(33,[.n av]),(37,[.n 1]),(60,[.n (k:Int)]),(62,[.n (k:Int)]),(63,[.dyn]),(66,[.n (s:Int)]),(69,[.n z]),(70,[.dyn]),(72,[.s (cB32.enc F)]),(79,[.s (cB32.enc F)]),(75,[.s (aC x r)]),(82,[.s (aC x r)]),(87,[.b true]),(91,[.b true])]⟩)=some (.ret,live (MZ ys n c ty e wh at_ ),(MZ ys n c ty e wh at_ ).length,args ys n c ty e wh at_ ,[uI at_ 640=av,uI wh 3=1,IntKind.i64.wrap (av.tdiv 20)=(k:Int),IntKind.i64.wrap (av.tdiv 20)=(k:Int),0≤(k:Int),(k:Int)<32,0+k<q.to.length,av.tmod 8=(s:Int),bits .xor .u8 (q.to.getD (0+k) 0) ((2:Int)^s)=z,0≤(k:Int),(k:Int)<32,0+k+1≤q.to.length,SV.o (.g ((putI (0+k) [z] 0 q.to).map (int1 .u8)))=cB32.enc F,0+l≤xs.length,l≤lo,D.Ok,l≤140737488353900,aC (X F ((xs.drop 0).take l) D) (E F ((xs.drop 0).take l) D)=aC x r,SV.o (.g ((putI (0+k) [z] 0 q.to).map (int1 .u8)))=cB32.enc F,0+l≤xs.length,l≤lo,BOk F,D.Ok,l≤140737488353900,aC (X F ((xs.drop 0).take l) D) (E F ((xs.drop 0).take l) D)=aC x r,sameL x.to=true,(r==r)=true])
 | 0,_=>by kernel_rfl
 | 1,_=>by kernel_rfl
 | 2,_=>by kernel_rfl
 | 3,_=>by kernel_rfl
 | 4,_=>by kernel_rfl
 | 5,_=>by kernel_rfl
 | 6,_=>by kernel_rfl
 | 7,_=>by kernel_rfl
 | j+8,h=>absurd h (by omega)
section
variable (R:B32→List Int→SV) (hR:R=prvR) (X:B32→List Int→B80→B64) (hX:X=vfX) (E:B32→List Int→B80→Int) (hE:E=vfE) (ys:List Int) (n c:Nat) (ty:TypeId) (e:B32) (wh at_:Int) (q:B32) (D:B80) (xs:List Int)
theorem t2 (l lo:Nat) (av z r:Int) (x:B64) (g:Nat→SV):outX (args ys n c ty e wh at_ ).length (MZ ys n c ty e wh at_ ) (exec (Γ R hR X hX E hE) tys 100 T6 ⟨fill g 0 (MB ys n c ty e wh at_ l),memB ys n c ty e wh at_ q D xs (l+1) none,[(33,[.n av]),(37,[.n 2]),(40,[.n z]),(75,[.s (aC x r)]),(82,[.s (aC x r)]),(87,[.b true]),(91,[.b true])]⟩)=some (.ret,live (MZ ys n c ty e wh at_ ),(MZ ys n c ty e wh at_ ).length,args ys n c ty e wh at_ ,[uI at_ 640=av,uI wh 3=2,IntKind.u8.wrap av=z,0+1≤1,l=xs.length,l+1≤l+1,0+(l+1)≤(xs++[z]).length,(l+1)≤(l+1),D.Ok,(l+1)≤140737488353900,aC (X q (((xs++[z]).drop 0).take (l+1)) D) (E q (((xs++[z]).drop 0).take (l+1)) D)=aC x r,0+(l+1)≤(xs++[z]).length,(l+1)≤(l+1),BOk q,D.Ok,(l+1)≤140737488353900,aC (X q (((xs++[z]).drop 0).take (l+1)) D) (E q (((xs++[z]).drop 0).take (l+1)) D)=aC x r,sameL x.to=true,(r==r)=true]):=by kernel_rfl
theorem t3 (l lo:Nat) (av z r:Int) (x:B64) (g:Nat→SV):outX (args ys n c ty e wh at_ ).length (MZ ys n c ty e wh at_ ) (exec (Γ R hR X hX E hE) tys 100 T6 ⟨fill g 0 (MB ys n c ty e wh at_ l),memB ys n c ty e wh at_ q D xs lo (some (l+1)),[(33,[.n av]),(37,[.n 2]),(40,[.n z]),(75,[.s (aC x r)]),(82,[.s (aC x r)]),(87,[.b true]),(91,[.b true])]⟩)=some (.ret,live (MZ ys n c ty e wh at_ ),(MZ ys n c ty e wh at_ ).length,args ys n c ty e wh at_ ,[uI at_ 640=av,uI wh 3=2,IntKind.u8.wrap av=z,0+1≤1,l=xs.length,l+1≤l+1,Room Tryz.prog 5 (l+1),0+(l+1)≤(xs++[z]).length,(l+1)≤(l+1),D.Ok,(l+1)≤140737488353900,aC (X q (((xs++[z]).drop 0).take (l+1)) D) (E q (((xs++[z]).drop 0).take (l+1)) D)=aC x r,0+(l+1)≤(xs++[z]).length,(l+1)≤(l+1),BOk q,D.Ok,(l+1)≤140737488353900,aC (X q (((xs++[z]).drop 0).take (l+1)) D) (E q (((xs++[z]).drop 0).take (l+1)) D)=aC x r,sameL x.to=true,(r==r)=true]):=by kernel_rfl
end
section
variable (ys:List Int) (n c:Nat) (ty:TypeId) (e:B32) (wh at_:Int)
theorem zr (g:Nat→SV):eRes tys (fill g 0 (MZ ys n c ty e wh at_ )) (fun k=>(args ys n c ty e wh at_ )[k]?) fn.results.toList=some [.a (bool1 true)]:=by kernel_rfl
theorem one (q:B32) (D:B80) (hy:ys.length=n) (hn:n≤140737488353800) {Post:Ex→List SV→List Blk→Prop} (hp:∀g lo,n≤lo→Post .normal (fill g 0 (MB ys n c ty e wh at_ (0+n))) (memB ys n c ty e wh at_ q D ([]++((ys.drop 0).take n)) lo none)) (g:Nat→SV):
  aR Tryz.prog G2 1 (opsOf R5) (opsOf R5).toList (fill g 0 (MA ys n c ty e wh at_ )) (memA ys n c ty e wh at_ q D) Post:=by
 by_cases h0:n=0
 ·refine aR.ak ah 4 (e5 ys n c ty e wh at_ q D g) ⟨by omega,rfl,by omega,trivial⟩ (idsB ys n c ty e wh at_ _ _ _ _ _ _) rfl fun g=> ?_
  refine aR.weak 4 (own:=true) (ty:=5) (kd:= .u8) (xs:=[]++((ys.drop 0).take n)) (lo:=0) (lo':=0) (hi:=some 1) rfl (Nat.le_refl _) ?_
  rw[nil5]
  exact aR.nil (hp g 0 (by omega))
 ·refine aR.bA ah 4 _ (f5 ys n c ty e wh at_ q D g) ⟨by omega,rfl,by omega,roomU _ (by omega),trivial⟩ (idsB ys n c ty e wh at_ _ _ _ _ _ _) rfl fun g=> ?_
  rw[nil5]
  exact aR.nil (hp g (0+n) (by omega))
theorem fin (q:B32) (D:B80) (hq:BOk q) (hD:D.Ok) (xs:List Int) (lo:Nat) (hx:xs.length=0+n) (hlo:0+n≤lo) (hn:n≤140737488353800) (g:Nat→SV):
  aG Tryz.prog G2 1 T6 (fill g 0 (MB ys n c ty e wh at_ (0+n))) (memB ys n c ty e wh at_ q D xs lo none) (aD tys fn (aX (aN.enc true) .none)):=by
 have hat:=uI_bd at_ (m:=640) (by decide) (by decide)
 have hwh:=uI_bd wh (m:=3) (by decide) (by decide)
 have hs:(uI at_ 640).tmod 8=(((uI at_ 640%8).toNat:Nat):Int):=by
  rw[Int.tmod_eq_emod_of_nonneg hat.1]
  omega
 have hs8:(uI at_ 640%8).toNat<8:=by omega
 have h3:uI wh 3=0∨uI wh 3=1∨uI wh 3=2:=by omega
 rcases h3 with h | h | h
 ·
  have hk:IntKind.i64.wrap ((uI at_ 640).tdiv 8)=(((uI at_ 640/8).toNat:Nat):Int):=by
   rw[Int.tdiv_eq_ediv_of_nonneg hat.1,dQ _ (by omega) (by omega)]
   omega
  have hk2:(uI at_ 640/8).toNat<80:=by omega
  have hl:D.to.length=80:=rfl
  generalize (uI at_ 640/8).toNat=k at*
  generalize (uI at_ 640%8).toNat=s at*
  obtain⟨F,hE1,hE2⟩:=put80 D hD (0+k) (bits .xor .u8 (D.to.getD (0+k) 0) ((2:Int)^s)) (xor_byt _ _)
  exact Runs.ak ah mixed (t0 prvR rfl vfX rfl vfE rfl ys n c ty e wh at_ q D F xs (0+n) lo k (uI at_ 640) _ (vfE q ((xs.drop 0).take (0+n)) F) (vfX q ((xs.drop 0).take (0+n)) F) g s hs8) ⟨rfl,h,hk,hk,by omega,by omega,by omega,hs,rfl,by omega,by omega,by omega,by rw[hE1];rfl,by omega,by omega,hE2,by omega,rfl,by rw[hE1];rfl,by omega,by omega,hq,hE2,by omega,rfl,dz _,beq_self_eq_true _,trivial⟩ (idsZ ys n c ty e wh at_ ) rfl fun g'=>aD.ret (zr ys n c ty e wh at_ g') rfl
 ·
  have hk:IntKind.i64.wrap ((uI at_ 640).tdiv 20)=(((uI at_ 640/20).toNat:Nat):Int):=by
   rw[Int.tdiv_eq_ediv_of_nonneg hat.1,dQ _ (by omega) (by omega)]
   omega
  have hk2:(uI at_ 640/20).toNat<32:=by omega
  have hl:q.to.length=32:=rfl
  generalize (uI at_ 640/20).toNat=k at*
  generalize (uI at_ 640%8).toNat=s at*
  obtain⟨F,hE1,hE2⟩:=put32 q hq (0+k) (bits .xor .u8 (q.to.getD (0+k) 0) ((2:Int)^s)) (xor_byt _ _)
  exact Runs.ak ah mixed (t1 prvR rfl vfX rfl vfE rfl ys n c ty e wh at_ q D F xs (0+n) lo k (uI at_ 640) _ (vfE F ((xs.drop 0).take (0+n)) D) (vfX F ((xs.drop 0).take (0+n)) D) g s hs8) ⟨rfl,h,hk,hk,by omega,by omega,by omega,hs,rfl,by omega,by omega,by omega,by rw[hE1];rfl,by omega,by omega,hD,by omega,rfl,by rw[hE1];rfl,by omega,by omega,hE2,hD,by omega,rfl,dz _,beq_self_eq_true _,trivial⟩ (idsZ ys n c ty e wh at_ ) rfl fun g'=>aD.ret (zr ys n c ty e wh at_ g') rfl
 ·clear hs hs8
  refine Runs.room 4 (0+n+1) (own:=true) (ty:=5) (kd:= .u8) (xs:=xs) (lo:=lo) rfl ?_ ?_
  ·exact Runs.ak ah mixed (t2 prvR rfl vfX rfl vfE rfl ys n c ty e wh at_ q D xs (0+n) lo (uI at_ 640) (IntKind.u8.wrap (uI at_ 640)) (vfE q (((xs++[IntKind.u8.wrap (uI at_ 640)]).drop 0).take (0+n+1)) D) (vfX q (((xs++[IntKind.u8.wrap (uI at_ 640)]).drop 0).take (0+n+1)) D) g) ⟨rfl,h,rfl,by omega,hx.symm,by omega,by rw[List.length_append,hx];simp,by omega,hD,by omega,rfl,by rw[List.length_append,hx];simp,by omega,hq,hD,by omega,rfl,dz _,beq_self_eq_true _,trivial⟩ (idsZ ys n c ty e wh at_ ) rfl fun g'=>aD.ret (zr ys n c ty e wh at_ g') rfl
  ·exact Runs.ak ah mixed (t3 prvR rfl vfX rfl vfE rfl ys n c ty e wh at_ q D xs (0+n) lo (uI at_ 640) (IntKind.u8.wrap (uI at_ 640)) (vfE q (((xs++[IntKind.u8.wrap (uI at_ 640)]).drop 0).take (0+n+1)) D) (vfX q (((xs++[IntKind.u8.wrap (uI at_ 640)]).drop 0).take (0+n+1)) D) g) ⟨rfl,h,rfl,by omega,hx.symm,by omega,roomU _ (by omega),by rw[List.length_append,hx];simp,by omega,hD,by omega,rfl,by rw[List.length_append,hx];simp,by omega,hq,hD,by omega,rfl,dz _,beq_self_eq_true _,trivial⟩ (idsZ ys n c ty e wh at_ ) rfl fun g'=>aD.ret (zr ys n c ty e wh at_ g') rfl
theorem walk (hy:ys.length=n) (hn:n≤140737488353800) (hc:n≤c):aG Tryz.prog G2 1 body (aA fn [cB32.enc e,.o (.a (.sld 0 0 0 n c)),(cInt .i64).enc wh,(cInt .i64).enc at_]) (args ys n c ty e wh at_ ) (aD tys fn (aX (aN.enc true) .none)):=by
 obtain⟨D,f,hp,hk⟩:=prv_ex e ((ys.drop 0).take n)
 refine Runs.bI ah mixed 4 (s0 prvR rfl vfX rfl vfE rfl ys n c ty e wh at_ (pubV e) D f) ⟨by omega,hc,by omega,hp,rfl,trivial⟩ (idsA ys n c ty e wh at_ _ _) rfl fun g=> ?_
 rw[suf_eq]
 refine Runs.seq (Runs.region (one ys n c ty e wh at_ _ _ hy hn (fun g lo hlo=> ?_) g))
 exact fin ys n c ty e wh at_ _ _ (pub_pt e).ok hk _ lo (by rw[List.nil_append,List.length_take,List.drop_zero];omega) (by omega) (by omega) g
end
end w
namespace v
def MA (a:Option Addr) (e:B32) (wh at_:Int):List (Option SV):=aJ 93 0 [(1,.o (.a (.v (.slice a 0 0)))),(2,(cInt .i64).enc wh),(3,(cInt .i64).enc at_),(9,.o (.a (.ptr 1 0))),(11,.o (.a (.ptr 2 0)))]
def MB (a:Option Addr) (e:B32) (wh at_:Int) (l:Nat):List (Option SV):=aJ 93 0 [(2,(cInt .i64).enc wh),(3,(cInt .i64).enc at_),(9,.o (.a (.ptr 1 0))),(11,.o (.a (.ptr 2 0))),(12,.o (.a (.slg 3 l)))]
def MZ (a:Option Addr) (e:B32) (wh at_:Int):List (Option SV):=aJ 93 0 [(8,aN.enc true)]
def args (a:Option Addr) (e:B32) (wh at_:Int):List Blk:=[]
section
variable (a:Option Addr) (e:B32) (wh at_:Int) (q:B32) (D:B80)
def memA:List Blk:=args a e wh at_++[⟨true,22,.lit (cB32.row e)⟩,⟨true,34,.lit (cB80.row D)⟩,⟨true,22,.lit (cB32.row q)⟩]
def memB (xs:List Int) (lo:Nat) (hi:Option Nat):List Blk:=memA a e wh at_ q D++[⟨true,5,.gro .u8 xs lo hi⟩]
theorem idsA:aF (memA a e wh at_ q D).length (MA a e wh at_ ) (memA a e wh at_ q D)=true:=by kernel_rfl
theorem idsB (xs:List Int) (lo:Nat) (hi:Option Nat) (l:Nat):aF (memB a e wh at_ q D xs lo hi).length (MB a e wh at_ l) (memB a e wh at_ q D xs lo hi)=true:=by kernel_rfl
end
theorem idsZ (a:Option Addr) (e:B32) (wh at_:Int):aF (args a e wh at_ ).length (MZ a e wh at_ ) (args a e wh at_ )=true:=by kernel_rfl
theorem s0 (R:B32→List Int→SV) (hR:R=prvR) (X:B32→List Int→B80→B64) (hX:X=vfX) (E:B32→List Int→B80→Int) (hE:E=vfE) (a:Option Addr) (e:B32) (wh at_:Int) (q:B32) (D:B80) (f:Int):outX (memA a e wh at_ q D).length (MA a e wh at_ ) (exec (Γ R hR X hX E hE) tys 100 (cpre 4 body) ⟨aA fn [cB32.enc e,.o (.a (.v (.slice a 0 0))),(cInt .i64).enc wh,(cInt .i64).enc at_],args a e wh at_ ,[(22,[.s (pairP D f)]),(26,[.s (cB32.enc q)])]⟩)=some (.normal,live (MA a e wh at_ ),(MA a e wh at_ ).length,memA a e wh at_ q D,[R e []=pairP D f,cB32.enc (pubV e)=cB32.enc q]):=by kernel_rfl
theorem e5 (a:Option Addr) (e:B32) (wh at_:Int) (q:B32) (D:B80) (g:Nat→SV):outXL (memB a e wh at_ q D ([]++[]) 0 (some 1)).length (MB a e wh at_ (0+0)) (bV (Γ prvR rfl vfX rfl vfE rfl) tys (opsOf R5).toList ((opsOf R5).toList.take 4) ⟨fill g 0 (MA a e wh at_ ),memA a e wh at_ q D,[(27,[.dyn]),(29,[.dyn])]⟩)=some (live (MB a e wh at_ (0+0)),(MB a e wh at_ (0+0)).length,memB a e wh at_ q D ([]++[]) 0 (some 1),[0=0,0+0≤0]):=by kernel_rfl
theorem t0 (R:B32→List Int→SV) (hR:R=prvR) (X:B32→List Int→B80→B64) (hX:X=vfX) (E:B32→List Int→B80→Int) (hE:E=vfE) (a:Option Addr) (e:B32) (wh at_:Int) (q:B32) (D:B80) (F:B80) (xs:List Int) (l lo k:Nat) (av z r:Int) (x:B64) (g:Nat→SV):∀(s:Nat),s<8→outX (args a e wh at_ ).length (MZ a e wh at_ ) (exec (Γ R hR X hX E hE) tys 100 T6 ⟨fill g 0 (MB a e wh at_ l),memB a e wh at_ q D xs lo none,[(33,[.n av]),(37,[.n 0]),(46,[.n (k:Int)]),(48,[.n (k:Int)]),(49,[.dyn]),(52,[.n (s:Int)]),(55,[.n z]),(56,[.dyn]),(74,[.s (cB80.enc F)]),(81,[.s (cB80.enc F)]),(75,[.s (aC x r)]),(82,[.s (aC x r)]),(87,[.b true]),(91,[.b true])]⟩)=some (.ret,live (MZ a e wh at_ ),(MZ a e wh at_ ).length,args a e wh at_ ,[uI at_ 640=av,uI wh 3=0,IntKind.i64.wrap (av.tdiv 8)=(k:Int),IntKind.i64.wrap (av.tdiv 8)=(k:Int),0≤(k:Int),(k:Int)<80,0+k<D.to.length,av.tmod 8=(s:Int),bits .xor .u8 (D.to.getD (0+k) 0) ((2:Int)^s)=z,0≤(k:Int),(k:Int)<80,0+k+1≤D.to.length,SV.o (.g ((putI (0+k) [z] 0 D.to).map (int1 .u8)))=cB80.enc F,0+l≤xs.length,l≤lo,F.Ok,l≤140737488353900,aC (X q ((xs.drop 0).take l) F) (E q ((xs.drop 0).take l) F)=aC x r,SV.o (.g ((putI (0+k) [z] 0 D.to).map (int1 .u8)))=cB80.enc F,0+l≤xs.length,l≤lo,BOk q,F.Ok,l≤140737488353900,aC (X q ((xs.drop 0).take l) F) (E q ((xs.drop 0).take l) F)=aC x r,sameL x.to=true,(r==r)=true])
 | 0,_=>by kernel_rfl
 | 1,_=>by kernel_rfl
 | 2,_=>by kernel_rfl
 | 3,_=>by kernel_rfl
 | 4,_=>by kernel_rfl
 | 5,_=>by kernel_rfl
 | 6,_=>by kernel_rfl
 | 7,_=>by kernel_rfl
 | j+8,h=>absurd h (by omega)
theorem t1 (R:B32→List Int→SV) (hR:R=prvR) (X:B32→List Int→B80→B64) (hX:X=vfX) (E:B32→List Int→B80→Int) (hE:E=vfE) (a:Option Addr) (e:B32) (wh at_:Int) (q:B32) (D:B80) (F:B32) (xs:List Int) (l lo k:Nat) (av z r:Int) (x:B64) (g:Nat→SV):∀(s:Nat),s<8→outX (args a e wh at_ ).length (MZ a e wh at_ ) (exec (Γ R hR X hX E hE) tys 100 T6 ⟨fill g 0 (MB a e wh at_ l),memB a e wh at_ q D xs lo none,[(33,[.n av]),(37,[.n 1]),(60,[.n (k:Int)]),(62,[.n (k:Int)]),(63,[.dyn]),(66,[.n (s:Int)]),(69,[.n z]),(70,[.dyn]),(72,[.s (cB32.enc F)]),(79,[.s (cB32.enc F)]),(75,[.s (aC x r)]),(82,[.s (aC x r)]),(87,[.b true]),(91,[.b true])]⟩)=some (.ret,live (MZ a e wh at_ ),(MZ a e wh at_ ).length,args a e wh at_ ,[uI at_ 640=av,uI wh 3=1,IntKind.i64.wrap (av.tdiv 20)=(k:Int),IntKind.i64.wrap (av.tdiv 20)=(k:Int),0≤(k:Int),(k:Int)<32,0+k<q.to.length,av.tmod 8=(s:Int),bits .xor .u8 (q.to.getD (0+k) 0) ((2:Int)^s)=z,0≤(k:Int),(k:Int)<32,0+k+1≤q.to.length,SV.o (.g ((putI (0+k) [z] 0 q.to).map (int1 .u8)))=cB32.enc F,0+l≤xs.length,l≤lo,D.Ok,l≤140737488353900,aC (X F ((xs.drop 0).take l) D) (E F ((xs.drop 0).take l) D)=aC x r,SV.o (.g ((putI (0+k) [z] 0 q.to).map (int1 .u8)))=cB32.enc F,0+l≤xs.length,l≤lo,BOk F,D.Ok,l≤140737488353900,aC (X F ((xs.drop 0).take l) D) (E F ((xs.drop 0).take l) D)=aC x r,sameL x.to=true,(r==r)=true])
 | 0,_=>by kernel_rfl
 | 1,_=>by kernel_rfl
 | 2,_=>by kernel_rfl
 | 3,_=>by kernel_rfl
 | 4,_=>by kernel_rfl
 | 5,_=>by kernel_rfl
 | 6,_=>by kernel_rfl
 | 7,_=>by kernel_rfl
 | j+8,h=>absurd h (by omega)
section
variable (R:B32→List Int→SV) (hR:R=prvR) (X:B32→List Int→B80→B64) (hX:X=vfX) (E:B32→List Int→B80→Int) (hE:E=vfE) (a:Option Addr) (e:B32) (wh at_:Int) (q:B32) (D:B80) (xs:List Int)
theorem t2 (l lo:Nat) (av z r:Int) (x:B64) (g:Nat→SV):outX (args a e wh at_ ).length (MZ a e wh at_ ) (exec (Γ R hR X hX E hE) tys 100 T6 ⟨fill g 0 (MB a e wh at_ l),memB a e wh at_ q D xs (l+1) none,[(33,[.n av]),(37,[.n 2]),(40,[.n z]),(75,[.s (aC x r)]),(82,[.s (aC x r)]),(87,[.b true]),(91,[.b true])]⟩)=some (.ret,live (MZ a e wh at_ ),(MZ a e wh at_ ).length,args a e wh at_ ,[uI at_ 640=av,uI wh 3=2,IntKind.u8.wrap av=z,0+1≤1,l=xs.length,l+1≤l+1,0+(l+1)≤(xs++[z]).length,(l+1)≤(l+1),D.Ok,(l+1)≤140737488353900,aC (X q (((xs++[z]).drop 0).take (l+1)) D) (E q (((xs++[z]).drop 0).take (l+1)) D)=aC x r,0+(l+1)≤(xs++[z]).length,(l+1)≤(l+1),BOk q,D.Ok,(l+1)≤140737488353900,aC (X q (((xs++[z]).drop 0).take (l+1)) D) (E q (((xs++[z]).drop 0).take (l+1)) D)=aC x r,sameL x.to=true,(r==r)=true]):=by kernel_rfl
theorem t3 (l lo:Nat) (av z r:Int) (x:B64) (g:Nat→SV):outX (args a e wh at_ ).length (MZ a e wh at_ ) (exec (Γ R hR X hX E hE) tys 100 T6 ⟨fill g 0 (MB a e wh at_ l),memB a e wh at_ q D xs lo (some (l+1)),[(33,[.n av]),(37,[.n 2]),(40,[.n z]),(75,[.s (aC x r)]),(82,[.s (aC x r)]),(87,[.b true]),(91,[.b true])]⟩)=some (.ret,live (MZ a e wh at_ ),(MZ a e wh at_ ).length,args a e wh at_ ,[uI at_ 640=av,uI wh 3=2,IntKind.u8.wrap av=z,0+1≤1,l=xs.length,l+1≤l+1,Room Tryz.prog 5 (l+1),0+(l+1)≤(xs++[z]).length,(l+1)≤(l+1),D.Ok,(l+1)≤140737488353900,aC (X q (((xs++[z]).drop 0).take (l+1)) D) (E q (((xs++[z]).drop 0).take (l+1)) D)=aC x r,0+(l+1)≤(xs++[z]).length,(l+1)≤(l+1),BOk q,D.Ok,(l+1)≤140737488353900,aC (X q (((xs++[z]).drop 0).take (l+1)) D) (E q (((xs++[z]).drop 0).take (l+1)) D)=aC x r,sameL x.to=true,(r==r)=true]):=by kernel_rfl
end
section
variable (a:Option Addr) (e:B32) (wh at_:Int)
theorem zr (g:Nat→SV):eRes tys (fill g 0 (MZ a e wh at_ )) (fun k=>(args a e wh at_ )[k]?) fn.results.toList=some [.a (bool1 true)]:=by kernel_rfl
theorem one (q:B32) (D:B80) {Post:Ex→List SV→List Blk→Prop} (hp:∀g lo,0≤lo→Post .normal (fill g 0 (MB a e wh at_ (0+0))) (memB a e wh at_ q D ([]++[]) lo none)) (g:Nat→SV):
  aR Tryz.prog G2 0 (opsOf R5) (opsOf R5).toList (fill g 0 (MA a e wh at_ )) (memA a e wh at_ q D) Post:=by
 have _:=0
 ·refine aR.ak ah 4 (e5 a e wh at_ q D g) ⟨rfl,by omega,trivial⟩ (idsB a e wh at_ _ _ _ _ _ _) rfl fun g=> ?_
  refine aR.weak 3 (own:=true) (ty:=5) (kd:= .u8) (xs:=[]++[]) (lo:=0) (lo':=0) (hi:=some 1) rfl (Nat.le_refl _) ?_
  rw[nil5]
  exact aR.nil (hp g 0 (by omega))
theorem fin (q:B32) (D:B80) (hq:BOk q) (hD:D.Ok) (xs:List Int) (lo:Nat) (hx:xs.length=0+0) (hlo:0+0≤lo) (hn:0≤140737488353800) (g:Nat→SV):
  aG Tryz.prog G2 0 T6 (fill g 0 (MB a e wh at_ (0+0))) (memB a e wh at_ q D xs lo none) (aD tys fn (aX (aN.enc true) .none)):=by
 have hat:=uI_bd at_ (m:=640) (by decide) (by decide)
 have hwh:=uI_bd wh (m:=3) (by decide) (by decide)
 have hs:(uI at_ 640).tmod 8=(((uI at_ 640%8).toNat:Nat):Int):=by
  rw[Int.tmod_eq_emod_of_nonneg hat.1]
  omega
 have hs8:(uI at_ 640%8).toNat<8:=by omega
 have h3:uI wh 3=0∨uI wh 3=1∨uI wh 3=2:=by omega
 rcases h3 with h | h | h
 ·
  have hk:IntKind.i64.wrap ((uI at_ 640).tdiv 8)=(((uI at_ 640/8).toNat:Nat):Int):=by
   rw[Int.tdiv_eq_ediv_of_nonneg hat.1,dQ _ (by omega) (by omega)]
   omega
  have hk2:(uI at_ 640/8).toNat<80:=by omega
  have hl:D.to.length=80:=rfl
  generalize (uI at_ 640/8).toNat=k at*
  generalize (uI at_ 640%8).toNat=s at*
  obtain⟨F,hE1,hE2⟩:=put80 D hD (0+k) (bits .xor .u8 (D.to.getD (0+k) 0) ((2:Int)^s)) (xor_byt _ _)
  exact Runs.ak ah mixed (t0 prvR rfl vfX rfl vfE rfl a e wh at_ q D F xs (0+0) lo k (uI at_ 640) _ (vfE q ((xs.drop 0).take (0+0)) F) (vfX q ((xs.drop 0).take (0+0)) F) g s hs8) ⟨rfl,h,hk,hk,by omega,by omega,by omega,hs,rfl,by omega,by omega,by omega,by rw[hE1];rfl,by omega,by omega,hE2,by omega,rfl,by rw[hE1];rfl,by omega,by omega,hq,hE2,by omega,rfl,dz _,beq_self_eq_true _,trivial⟩ (idsZ a e wh at_ ) rfl fun g'=>aD.ret (zr a e wh at_ g') rfl
 ·
  have hk:IntKind.i64.wrap ((uI at_ 640).tdiv 20)=(((uI at_ 640/20).toNat:Nat):Int):=by
   rw[Int.tdiv_eq_ediv_of_nonneg hat.1,dQ _ (by omega) (by omega)]
   omega
  have hk2:(uI at_ 640/20).toNat<32:=by omega
  have hl:q.to.length=32:=rfl
  generalize (uI at_ 640/20).toNat=k at*
  generalize (uI at_ 640%8).toNat=s at*
  obtain⟨F,hE1,hE2⟩:=put32 q hq (0+k) (bits .xor .u8 (q.to.getD (0+k) 0) ((2:Int)^s)) (xor_byt _ _)
  exact Runs.ak ah mixed (t1 prvR rfl vfX rfl vfE rfl a e wh at_ q D F xs (0+0) lo k (uI at_ 640) _ (vfE F ((xs.drop 0).take (0+0)) D) (vfX F ((xs.drop 0).take (0+0)) D) g s hs8) ⟨rfl,h,hk,hk,by omega,by omega,by omega,hs,rfl,by omega,by omega,by omega,by rw[hE1];rfl,by omega,by omega,hD,by omega,rfl,by rw[hE1];rfl,by omega,by omega,hE2,hD,by omega,rfl,dz _,beq_self_eq_true _,trivial⟩ (idsZ a e wh at_ ) rfl fun g'=>aD.ret (zr a e wh at_ g') rfl
 ·clear hs hs8
  refine Runs.room 3 (0+0+1) (own:=true) (ty:=5) (kd:= .u8) (xs:=xs) (lo:=lo) rfl ?_ ?_
  ·exact Runs.ak ah mixed (t2 prvR rfl vfX rfl vfE rfl a e wh at_ q D xs (0+0) lo (uI at_ 640) (IntKind.u8.wrap (uI at_ 640)) (vfE q (((xs++[IntKind.u8.wrap (uI at_ 640)]).drop 0).take (0+0+1)) D) (vfX q (((xs++[IntKind.u8.wrap (uI at_ 640)]).drop 0).take (0+0+1)) D) g) ⟨rfl,h,rfl,by omega,hx.symm,by omega,by rw[List.length_append,hx];simp,by omega,hD,by omega,rfl,by rw[List.length_append,hx];simp,by omega,hq,hD,by omega,rfl,dz _,beq_self_eq_true _,trivial⟩ (idsZ a e wh at_ ) rfl fun g'=>aD.ret (zr a e wh at_ g') rfl
  ·exact Runs.ak ah mixed (t3 prvR rfl vfX rfl vfE rfl a e wh at_ q D xs (0+0) lo (uI at_ 640) (IntKind.u8.wrap (uI at_ 640)) (vfE q (((xs++[IntKind.u8.wrap (uI at_ 640)]).drop 0).take (0+0+1)) D) (vfX q (((xs++[IntKind.u8.wrap (uI at_ 640)]).drop 0).take (0+0+1)) D) g) ⟨rfl,h,rfl,by omega,hx.symm,by omega,roomU _ (by omega),by rw[List.length_append,hx];simp,by omega,hD,by omega,rfl,by rw[List.length_append,hx];simp,by omega,hq,hD,by omega,rfl,dz _,beq_self_eq_true _,trivial⟩ (idsZ a e wh at_ ) rfl fun g'=>aD.ret (zr a e wh at_ g') rfl
theorem walk:aG Tryz.prog G2 0 body (aA fn [cB32.enc e,.o (.a (.v (.slice a 0 0))),(cInt .i64).enc wh,(cInt .i64).enc at_]) (args a e wh at_ ) (aD tys fn (aX (aN.enc true) .none)):=by
 obtain⟨D,f,hp,hk⟩:=prv_ex e []
 refine Runs.bI ah mixed 4 (s0 prvR rfl vfX rfl vfE rfl a e wh at_ (pubV e) D f) ⟨hp,rfl,trivial⟩ (idsA a e wh at_ _ _) rfl fun g=> ?_
 rw[suf_eq]
 refine Runs.seq (Runs.region (one a e wh at_ _ _ (fun g lo hlo=> ?_) g))
 exact fin a e wh at_ _ _ (pub_pt e).ok hk _ lo (rfl) (by omega) (by omega) g
end
end v
end lvtr
theorem lvtr_ok (b:B32) (x0:SArg) (wh at_:Int) (W:World) (hb:BOk b) (h0:x0.ok .u8 W) (hw:(Lit.int .i64 wh).wf=true) (ha:(Lit.int .i64 at_).wf=true) (b0:x0.ints.length≤140737488351232) (hg:GlobOk G2 W):
  Calls Tryz.prog 5 #[(cB32.enc b).den lam0,x0.val,.int .i64 wh,.int .i64 at_] W fun e W'=>e= .returned (.bool true)∧Below W.heap.size W W':=by
 refine law_mix ah Tryz.func5 (c:=lvtr.body) (by kernel_rfl) hg .u8 [cB32.enc b] [x0] [(cInt .i64).enc wh,(cInt .i64).enc at_] (fun v hv=>by simp only[List.mem_cons,List.not_mem_nil,or_false] at hv;rw[hv];exact cB32.ids _) (fun v hv=>by simp only[List.mem_cons,List.not_mem_nil,or_false] at hv;rcases hv with rfl | rfl<;>rfl) (fun y hy=>by simp only[List.mem_cons,List.not_mem_nil,or_false] at hy;rcases hy with rfl;assumption) (r:=aN.enc true) rfl fun hi=> ?_
 cases x0 with
 | none a0=>exact lvtr.v.walk a0 b wh at_
 | win y0 n0 c0 ty0 L0=>exact lvtr.w.walk y0 n0 _ ty0 b wh at_ hi.1.1 (by have:=hi.1.1;have b:y0.length≤140737488351232:=b0;omega) hi.1.2
end Go.Proofs.YtbfndladaldajaaGreatDoor

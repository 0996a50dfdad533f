/- GrowChain: the first region that calls apart, for all shapes by tests. -/
import Derived.Test.YtdccehmekkcheaaDoorCMTF
import Derived.Test.YtdccehmekkcheaaDoorCGaw
import Derived.Test.YtdccehmekkcheaaDoorCGap
set_option linter.unusedSimpArgs false
set_option linter.unusedVariables false
namespace Go.Proofs.YtdccehmekkcheaaDoor
open Go Go.Eng Go.RowKit
set_option maxRecDepth 100000
namespace lgch
noncomputable abbrev fn:=Tryd.f12
noncomputable def body:Code:=d9 fn
abbrev LT:TypeId:=30
structure Fr where
 A:List Lf
 B:List Lf
 C:List Lf
 n:Nat
 m:Nat
 q:Nat
 c:Nat
 d:Nat
 r:Nat
 ta:TypeId
 tb:TypeId
 tc:TypeId
 a:Option Addr
 b:Option Addr
 s:Option Addr
 at_:Int
def gl (X:List Lf):Blk:=⟨true,LT,.grv 64 (lvals X) X.length none⟩
def sg (e:Bool) (k:Nat) (X:List Lf):SV:=bif e then .o (.a (.v (.slice none 0 0))) else .o (.a (.slg k X.length))
def gb (e:Bool) (X:List Lf):List Blk:=bif e then [] else [gl X]
def sa (e:Bool) (a:Option Addr) (k n c:Nat):SV:=bif e then .o (.a (.v (.slice a 0 0))) else .o (.a (.sld k 0 0 n c))
def up (e:Bool) (k:Nat):Nat:=bif e then k else k+1
def m0 (f:Fr):List Blk:=[⟨false,f.ta,.prv (lvals f.A)⟩,⟨false,f.tb,.prv (lvals f.B)⟩,⟨false,f.tc,.prv (lvals f.C)⟩]
def M0 (f:Fr) (ea eb ec:Bool):List (Option SV):=aD 133 0 [(0,sa ea f.a 0 f.n f.c),(1,sa eb f.b 1 f.m f.d),(2,sa ec f.s 2 f.q f.r),(3,.o (.a (aG .i64 f.at_)))]
noncomputable def Γ0:Cons Tryd.prog GT:=[awk12.con]
theorem i0 (f:Fr) (ea eb ec:Bool):gU (m0 f).length (M0 f ea eb ec) (m0 f)=true:=by cases ea<;>cases eb<;>cases ec<;>kernel_rfl
theorem s0 (f:Fr) (ea eb ec:Bool):outN [0,1,2] (M0 f ea eb ec) (exec Γ0 tys 100 (eD 2 body) ⟨aK fn [sa ea f.a 0 f.n f.c,sa eb f.b 1 f.m f.d,sa ec f.s 2 f.q f.r,.o (.a (aG .i64 f.at_))],m0 f,[]⟩)=some (.normal,(live (M0 f ea eb ec)).map (SV.ren (piF [0,1,2])),(M0 f ea eb ec).length,(m0 f).map (fun b=>some (b.ren (piF [0,1,2]))),[]):=by cases ea<;>cases eb<;>cases ec<;>kernel_rfl
noncomputable def R3:Code:=cs1 (bM 2 body)
theorem len3:(opsOf R3).toList.length=8:=by kernel_rfl
noncomputable def n3:Nat:=match R3 with | .region i _ _=>i | _=>0
theorem reg3:R3= .region n3 (opsOf R3) false:=by kernel_rfl
noncomputable def o3:Oper:=(opsOf R3).toList[2]'(by rw[len3];decide)
theorem drop3:(opsOf R3).toList.drop 2=o3::(opsOf R3).toList.drop 3:=by kernel_rfl
theorem nil3:((opsOf R3).toList.drop 3).drop 5=[]:=by kernel_rfl
theorem o3_op:o3.op= .call ⟨.value (.func 50), #[.tmp 28,.tmp 29],tsOf o3⟩:=by kernel_rfl
theorem o3_dst:o3.dst=some 30:=by kernel_rfl
theorem o3_gd:o3.guard=none:=by kernel_rfl
noncomputable def Γp (ex ey:Bool):Cons Tryd.prog GT:=bif ex then (bif ey then [apt.con0] else [apt.conY]) else (bif ey then [apt.conX] else [])
def vr (e:Bool) (A:List Lf) (n:Nat):List Value:=((lvals A).drop (0+0)).take (n*64)
def lr (e:Bool) (A:List Lf) (n:Nat):List Lf:=bif e then [] else av (vr e A n)
def nr (e:Bool) (n:Nat):Nat:=bif e then 0 else n
def cd (e:Bool) (A:List Lf) (n c:Nat):Cst:=bif e then [] else [0+0+n*64≤(lvals A).length,n≤c]
def cl (e:Bool) (A:List Lf) (n:Nat):Cst:=bif e then [] else [vr e A n=lvals (lr e A n),(lr e A n).length=n,n≤4000000]
def em (e:Bool) (X:List Lf):Cst:=[bif e then X=[] else X≠[]]
abbrev DX (f:Fr) (ea:Bool):List Lf:=bY (lr ea f.A f.n) (nr ea f.n)
abbrev DY (f:Fr) (ea eb:Bool):List Lf:=apB (DX f ea) (lr eb f.B f.m) (nr eb f.m)
def p1 (ex ey:Bool):List Nat:=[0,1,2]++(bif ex then (bif ey then [] else [3]) else (bif ey then [3] else [3,4]))
section
variable (f:Fr)
def M1 (ec ex ey:Bool) (X Y:List Lf):List (Option SV):=aD 133 0 [(2,sa ec f.s 2 f.q f.r),(3,.o (.a (aG .i64 f.at_))),(9,sg ex 3 X),(10,sg ey (up ex 3) Y)]
def m1 (ex ey:Bool) (X Y:List Lf):List Blk:=m0 f++(gb ex X++gb ey Y)
theorem i1 (ec ex ey:Bool) (X Y:List Lf):gU (m1 f ex ey X Y).length (M1 f ec ex ey X Y) (m1 f ex ey X Y)=true:=by cases ec<;>cases ex<;>cases ey<;>kernel_rfl
theorem j1 (ex ey:Bool) (X Y:List Lf):inj (piF (p1 ex ey)) 3 (m1 f ex ey X Y).length=true:=by cases ex<;>cases ey<;>kernel_rfl
theorem ca (ea eb ec ex ey:Bool) (h:(ex||ey)=true) (g:Nat→SV):outN (p1 ex ey) (M1 f ec ex ey (DX f ea) (DY f ea eb)) (exec (Γp ex ey) tys 100 R3 ⟨fill g 0 (M0 f ea eb ec),m0 f,[]⟩)=some (.normal,(live (M1 f ec ex ey (DX f ea) (DY f ea eb))).map (SV.ren (piF (p1 ex ey))),(M1 f ec ex ey (DX f ea) (DY f ea eb)).length,(m1 f ex ey (DX f ea) (DY f ea eb)).map (fun b=>some (b.ren (piF (p1 ex ey)))),cd ea f.A f.n f.c++(cd eb f.B f.m f.d++(em ex (DX f ea)++(em ey (DY f ea eb)++(cl ea f.A f.n++cl eb f.B f.m))))):=by
 cases ex<;>cases ey<;>first | (cases h;done) | (cases ea<;>cases eb<;>cases ec<;>kernel_rfl)
def M2 (ea eb ec:Bool):List (Option SV):=aD 133 0 [(2,sa ec f.s 2 f.q f.r),(3,.o (.a (aG .i64 f.at_))),(28,sa ea f.a 0 f.n f.c),(29,sa eb f.b 1 f.m f.d)]
theorem i2 (ea eb ec:Bool):gU (m0 f).length (M2 f ea eb ec) (m0 f)=true:=by cases ea<;>cases eb<;>cases ec<;>kernel_rfl
theorem u (ea eb ec:Bool) (g:Nat→SV):jw [0,1,2] (M2 f ea eb ec) (eG (Γp false false) tys (opsOf R3).toList (((opsOf R3).toList.drop 0).take 2) ⟨fill g 0 (M0 f ea eb ec),m0 f,[]⟩)=some ((live (M2 f ea eb ec)).map (SV.ren (piF [0,1,2])),(M2 f ea eb ec).length,(m0 f).map (fun b=>some (b.ren (piF [0,1,2]))),[]):=by cases ea<;>cases eb<;>cases ec<;>kernel_rfl
def M4 (ea eb ec:Bool) (X Y:List Lf):List (Option SV):=aD 133 0 [(2,sa ec f.s 2 f.q f.r),(3,.o (.a (aG .i64 f.at_))),(28,sa ea f.a 0 f.n f.c),(29,sa eb f.b 1 f.m f.d),(30,iY [.a (.slg 3 X.length),.a (.slg 4 Y.length)])]
theorem setT (ea eb ec:Bool) (X Y:List Lf) (g:Nat→SV):(fill g 0 (M2 f ea eb ec)).set 30 ((iY [.a (.slg 0 X.length),.a (.slg 1 Y.length)]).ren (fun i=>(m0 f).length+i))=fill g 0 (M4 f ea eb ec X Y):=by cases ea<;>cases eb<;>cases ec<;>kernel_rfl
theorem v (ea eb ec:Bool) (X Y:List Lf) (g:Nat→SV):jw [0,1,2,3,4] (M1 f ec false false X Y) (eG (Γp false false) tys (opsOf R3).toList (((opsOf R3).toList.drop 3).take 5) ⟨fill g 0 (M4 f ea eb ec X Y),m1 f false false X Y,[]⟩)=some ((live (M1 f ec false false X Y)).map (SV.ren (piF [0,1,2,3,4])),(M1 f ec false false X Y).length,(m1 f false false X Y).map (fun b=>some (b.ren (piF [0,1,2,3,4]))),[]):=by cases ea<;>cases eb<;>cases ec<;>kernel_rfl
noncomputable def dl (ea eb ec:Bool) (g:Nat→SV):=decOf (decL (fun k=>(m0 f)[k]?) [] [.winv 64,.winv 64] ((#[.tmp 28,.tmp 29]:Array Operand).toList.map (jm (fill g 0 (M2 f ea eb ec)))))
theorem dl_eq (ea eb ec:Bool) (g:Nat→SV):decL (fun k=>(m0 f)[k]?) [] [.winv 64,.winv 64] ((#[.tmp 28,.tmp 29]:Array Operand).toList.map (jm (fill g 0 (M2 f ea eb ec))))=some ((dl f ea eb ec g).1,(dl f ea eb ec g).2.1,(dl f ea eb ec g).2.2):=by cases ea<;>cases eb<;>cases ec<;>kernel_rfl
theorem dl_c (ea eb ec:Bool) (g:Nat→SV):(dl f ea eb ec g).2.2=cd ea f.A f.n f.c++cd eb f.B f.m f.d:=by cases ea<;>cases eb<;>cases ec<;>kernel_rfl
theorem dl_ap (ea eb ec:Bool) (g:Nat→SV):qG (dl f ea eb ec g).2.1 (bf (dl f ea eb ec g).1)=true:=by cases ea<;>cases eb<;>cases ec<;>kernel_rfl
theorem dl_ls (ea eb ec:Bool) (g:Nat→SV):apt.lists (dl f ea eb ec g).1=some ((lr ea f.A f.n,nr ea f.n),(lr eb f.B f.m,nr eb f.m),cl ea f.A f.n++cl eb f.B f.m):=by cases ea<;>cases eb<;>cases ec<;>kernel_rfl
end
structure Arg (e:Bool) (A:List Lf) (n c:Nat):Prop where
 len:A.length=n
 room:n≤c
 top:n≤4000000
 nil:e=true→A=[]
theorem Arg.lr_eq {e:Bool} {A:List Lf} {n c:Nat} (h:Arg e A n c):lr e A n=A:=by
 cases e with
 | true=>exact(h.nil rfl).symm
 | false=>show av (((lvals A).drop (0+0)).take (n*64))=A;rw[dtl h.len,bW]
theorem Arg.nr_eq {e:Bool} {A:List Lf} {n c:Nat} (h:Arg e A n c):nr e n=n:=by
 cases e with
 | true=>show 0=n;rw[←h.len,h.nil rfl];rfl
 | false=>rfl
theorem Arg.cd {e:Bool} {A:List Lf} {n c:Nat} (h:Arg e A n c):Holds (cd e A n c):=by
 cases e with
 | true=>trivial
 | false=>exact⟨by rw[bU,h.len];omega,h.room,trivial⟩
theorem Arg.cl {e:Bool} {A:List Lf} {n c:Nat} (h:Arg e A n c):Holds (cl e A n):=by
 cases e with
 | true=>trivial
 | false=>exact⟨by show vr false A n=lvals (lr false A n);rw[h.lr_eq];exact dtl h.len,by rw[h.lr_eq];exact h.len,h.top,trivial⟩
theorem happ:∀{a b:Cst},Holds a→Holds b→Holds (a++b)
 | [],_,_,hb=>hb
 | _::_,_,ha,hb=>⟨ha.1,happ ha.2 hb⟩
theorem em_ok (X:List Lf):Holds (em X.isEmpty X):=by
 cases X with
 | nil=>exact⟨rfl,trivial⟩
 | cons x X=>exact⟨List.cons_ne_nil _ _,trivial⟩
theorem apart (f:Fr) {ea eb ec:Bool} (hA:Arg ea f.A f.n f.c) (hB:Arg eb f.B f.m f.d) {X Y:List Lf} (hX:bY f.A f.n=X) (hY:apB X f.B f.m=Y) (g:Nat→SV) {Post:Ex→List SV→List Blk→Prop}
  (h:∀g,Post .normal (fill g 0 (M1 f ec X.isEmpty Y.isEmpty X Y)) (m1 f X.isEmpty Y.isEmpty X Y)):aF Tryd.prog GT 3 R3 (fill g 0 (M0 f ea eb ec)) (m0 f) Post:=by
 have eX:DX f ea=X:=by unfold DX;rw[hA.lr_eq,hA.nr_eq,hX]
 have eY:DY f ea eb=Y:=by unfold DY;rw[eX,hB.lr_eq,hB.nr_eq,hY]
 have hc:=happ hA.cd (happ hB.cd (happ (em_ok X) (happ (em_ok Y) (happ hA.cl hB.cl))))
 cases ho:(X.isEmpty||Y.isEmpty) with
 | true=>
  have q:=ca f ea eb ec X.isEmpty Y.isEmpty ho g
  rw[eX,eY] at q
  exact Runs.aP aj mixed _ q hc (i1 f ec _ _ _ _) (j1 f _ _ _ _) h
 | false=>
  have nx:X.isEmpty=false:=by cases hh:X.isEmpty<;>simp_all
  have ny:Y.isEmpty=false:=by cases hh:Y.isEmpty<;>simp_all
  rw[nx,ny] at h
  rw[reg3]
  refine Runs.region ?_
  refine aS.aP aj 2 [0,1,2] (u f ea eb ec g) trivial (i2 f ea eb ec) rfl fun g=> ?_
  rw[drop3]
  refine apt.call2 o3_op o3_dst o3_gd (dl_eq f ea eb ec g) (by rw[dl_c];exact happ hA.cd hB.cd) (dl_ap f ea eb ec g) (dl_ls f ea eb ec g) (happ hA.cl hB.cl) (by show DX f ea≠[];rw[eX];intro e;rw[e] at nx;cases nx) (by show DY f ea eb≠[];rw[eY];intro e;rw[e] at ny;cases ny) ?_
  show aS _ _ _ _ _ (List.set _ _ ((iY [.a (.slg 0 (DX f ea).length),.a (.slg 1 (DY f ea eb).length)]).ren _)) (_++[gl (DX f ea),gl (DY f ea eb)]) _
  rw[eX,eY,setT]
  refine aS.aP aj 5 [0,1,2,3,4] (v f ea eb ec X Y g) trivial (i1 f ec _ _ X Y) rfl fun g=> ?_
  rw[nil3]
  exact aS.nil (h g)
end lgch
end Go.Proofs.YtdccehmekkcheaaDoor

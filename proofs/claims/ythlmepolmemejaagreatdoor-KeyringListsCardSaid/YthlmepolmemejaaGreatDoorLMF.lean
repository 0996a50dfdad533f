/- The package-level rows that the walks read; runs of functions that are handed a block. -/
import Derived.Test.YthlmepolmemejaaGreatDoorLTy
import Derived.Test.YthlmepolmemejaaGreatDoorLMA
import Derived.Laws.Externs
import Derived.Laws.MathBits
import Derived.KernelRfl
set_option linter.unusedVariables false
namespace Go.Proofs.YthlmepolmemejaaGreatDoor
open Go Go.Eng
def orderL:List Int:=[6346243789798364141,1503914060200516822,0,1152921504606846976]
def GX:Glob:=fun _=>none
def iY {G:Glob} {P:Program} (Γ:Cons P G) (T:Ty) (fn:Func) (n:Nat) (blks:List Blk) (args:List SV) (orc:Orc):Option (SV × Cst):=
 match runFn Γ T fn n blks args orc with
 | some (r,_,cs)=>some (r,cs)
 | none=>none
theorem eZ {G:Glob} {P:Program} {Γ:Cons P G} {T:Ty} (hT:T.ok P) (hm:P.follows .mixedOrders=true) {fn:Func} {c:Code} (hb:fn.body=some c) {n F:Nat} {orc:Orc} {args:List SV} {blks:List Blk} {r:SV} {cs:Cst}
  (h:iY Γ T fn n blks args orc=some (r,cs)) (hc:Holds cs):aK P G F c (aH fn args) blks (aN T fn (bA r .none)):=by
 unfold iY at h
 split at h<;>try cases h
 rename_i h
 unfold runFn at h
 rw[hb] at h
 simp only at h
 split at h<;>try cases h
 ·rename_i s cs2 he
  split at h<;>cases h
  rename_i l hl
  exact Runs.aQ hT hm (tm':=s.tm) (mem':=s.mem) (orc':=s.orc) he hc (aN.fall hl rfl)
 ·rename_i s cs2 he
  split at h<;>cases h
  rename_i l hl
  exact Runs.aQ hT hm (tm':=s.tm) (mem':=s.mem) (orc':=s.orc) he hc (aN.ret hl rfl)
set_option maxRecDepth 100000
def aC (x y c:Int):Int:=Int.ofNat ((x.toNat+y.toNat+c.toNat)%18446744073709551616)
def aL (x y c:Int):Int:=Int.ofNat ((x.toNat+y.toNat+c.toNat)/18446744073709551616)
def sub64D' (x y c:Int):Int:=Int.ofNat ((x.toNat+18446744073709551616-y.toNat-c.toNat)%18446744073709551616)
def blk (x r:Int):Int:=match x with
 | .ofNat _=>r
 | .negSucc _=>r
theorem blk_eq (x r:Int):blk x r=r:=by cases x<;>rfl
def l6 (x y c:Int):Int:=blk x (sub64D' x y c)
theorem sub64D_eq (x y c:Int):sub64D' x y c=l6 x y c:=(blk_eq _ _).symm
def oL (x y c:Int):Int:=Int.ofNat (if x.toNat<y.toNat+c.toNat then 1 else 0)
def nL (a b:Int):SV:= .t [.a (u64 a),.a (u64 b)]
def m32:Int:=4294967295
def bn (x y:Int):Int:=
 aT (aT (aG (eB x 32) (eB y 32)) (eB (aT (aG (eB x 32) (gu y m32)) (eB (aG (gu x m32) (gu y m32)) 32)) 32))
  (eB (aT (gu (aT (aG (eB x 32) (gu y m32)) (eB (aG (gu x m32) (gu y m32)) 32)) m32) (aG (gu x m32) (eB y 32))) 32)
theorem mul64_fn (x y:Int):ay Tryz.prog GX 132 [(av .u64).enc x,(av .u64).enc y] (nL (bn x y) (aG x y)):=
 ay.aD (Γ:=([]:Cons Tryz.prog GX)) ah mixed Tryz.func132 (n:=100) (orc:=[]) (cs:=[]) (by kernel_rfl) trivial rfl rfl
def rX:Con Tryz.prog GX:=jA 132 Tryz.f132 Tryz.func132 (by kernel_rfl) (by kernel_rfl) (av .u64) (av .u64) (fun x y=>nL (bn x y) (aG x y)) (fun _ _=>[]) (fun _ _=>rfl) (fun x y _=>mul64_fn x y)
def ext3 (f:FuncId) (F:Int→Int→Int→SV) (ids:∀a b c,(F a b c).ids=[]) (run:∀a b c,c.toNat≤1→∀(β:Nat→Eng.Loc) (w:World),(callFunc f #[.int .u64 a,.int .u64 b,.int .u64 c]).run Tryz.prog w= .ok (.value ((F a b c).den β)) w):Con Tryz.prog GX:=
 Con.ext f (fun
  | [x,y,z]=>match (av .u64).dec x,(av .u64).dec y,(av .u64).dec z with
   | some a,some b,some c=>some (F a b c,[c.toNat≤1])
   | _,_,_=>none
  | _=>none) fun args r c h=>by
  split at h<;>try cases h
  split at h<;>try cases h
  rename_i ha hb hc
  rw[←(av .u64).ok _ _ ha,←(av .u64).ok _ _ hb,←(av .u64).ok _ _ hc]
  exact⟨ids _ _ _,fun hh β w=>run _ _ _ hh.1 β w⟩
def sub64Entry:Array Value→Sem Value:=fun args=>do
 let (x,y,b) ←Extern.MathBitsCarry.three "Sub64" args
 pure (Extern.MathBitsCarry.pair ((x+Extern.MathBitsCarry.m64-y-b)%Extern.MathBitsCarry.m64) (if x<y+b then 1 else 0))
theorem run_add64' (x y:Int):∀(c:Int),c.toNat≤1→∀(w:World),(add64Entry #[.int .u64 x,.int .u64 y,.int .u64 c]).run Tryz.prog w= .ok (.tuple #[.int .u64 (aC x y c),.int .u64 (aL x y c)]) w
 | .ofNat 0,_,w=>rfl
 | .ofNat 1,_,w=>rfl
 | .ofNat (n+2),h,w=>absurd h (by show ¬(n+2≤1);omega)
 | .negSucc m,_,w=>rfl
theorem run_sub64' (x y:Int):∀(c:Int),c.toNat≤1→∀(w:World),(sub64Entry #[.int .u64 x,.int .u64 y,.int .u64 c]).run Tryz.prog w= .ok (.tuple #[.int .u64 (sub64D' x y c),.int .u64 (oL x y c)]) w
 | .ofNat 0,_,w=>rfl
 | .ofNat 1,_,w=>rfl
 | .ofNat (n+2),h,w=>absurd h (by show ¬(n+2≤1);omega)
 | .negSucc m,_,w=>rfl
def ny:Con Tryz.prog GX:=ext3 118 (fun x y c=>nL (aC x y c) (aL x y c)) (fun _ _ _=>rfl) fun x y c hc β w=>by
 rw[run_callFunc_extern Tryz.func118 (by kernel_rfl) (by kernel_rfl) (by kernel_rfl) (e:=add64Entry) (by kernel_rfl),run_add64' x y c hc]
 rfl
def zL:Con Tryz.prog GX:=ext3 142 (fun x y c=>nL (l6 x y c) (oL x y c)) (fun _ _ _=>rfl) fun x y c hc β w=>by
 rw[run_callFunc_extern Tryz.func142 (by kernel_rfl) (by kernel_rfl) (by kernel_rfl) (e:=sub64Entry) (by kernel_rfl),run_sub64' x y c hc,sub64D_eq]
 rfl
def m51:Int:=2251799813685247
def oneE:E5:=⟨1,0,0,0,0⟩
def oW:E5:=⟨1718705420411056,234908883556509,2233514472574048,2117202627021982,765476049583133⟩
def jo (e:E5):E5:=
 ⟨aT (gu e.l0 m51) (aG 19 (eB e.l4 51)),aT (gu e.l1 m51) (eB e.l0 51),aT (gu e.l2 m51) (eB e.l1 51),aT (gu e.l3 m51) (eB e.l2 51),aT (gu e.l4 m51) (eB e.l3 51)⟩
theorem carried_fn (e:E5):ay Tryz.prog GX 123 [cE5.enc e] (cE5.enc (jo e)):=
 ay.aD (Γ:=([]:Cons Tryz.prog GX)) ah mixed Tryz.func123 (n:=100) (orc:=[]) (cs:=[]) (by kernel_rfl) trivial rfl rfl
def uE:Con Tryz.prog GX:=fQ 123 Tryz.f123 Tryz.func123 (by kernel_rfl) (by kernel_rfl) cE5 (fun e=>cE5.enc (jo e)) (fun _=>[]) (fun _=>rfl) (fun e _=>carried_fn e)
def mU (e f:E5):E5:=jo ⟨aT e.l0 f.l0,aT e.l1 f.l1,aT e.l2 f.l2,aT e.l3 f.l3,aT e.l4 f.l4⟩
theorem plus_fn (e f:E5):ay Tryz.prog GX 81 [cE5.enc e,cE5.enc f] (cE5.enc (mU e f)):=
 ay.aD (Γ:=[uE]) ah mixed Tryz.func81 (n:=100) (orc:=[]) (cs:=[]) (by kernel_rfl) trivial rfl rfl
def rF:Con Tryz.prog GX:=jA 81 Tryz.f81 Tryz.func81 (by kernel_rfl) (by kernel_rfl) cE5 cE5 (fun e f=>cE5.enc (mU e f)) (fun _ _=>[]) (fun _ _=>rfl) (fun e f _=>plus_fn e f)
def jE (e f:E5):E5:=jo ⟨subU (aT e.l0 4503599627370458) f.l0,subU (aT e.l1 4503599627370494) f.l1,subU (aT e.l2 4503599627370494) f.l2,subU (aT e.l3 4503599627370494) f.l3,subU (aT e.l4 4503599627370494) f.l4⟩
theorem minus_fn (e f:E5):ay Tryz.prog GX 78 [cE5.enc e,cE5.enc f] (cE5.enc (jE e f)):=
 ay.aD (Γ:=[uE]) ah mixed Tryz.func78 (n:=100) (orc:=[]) (cs:=[]) (by kernel_rfl) trivial rfl rfl
def jK:Con Tryz.prog GX:=jA 78 Tryz.f78 Tryz.func78 (by kernel_rfl) (by kernel_rfl) cE5 cE5 (fun e f=>cE5.enc (jE e f)) (fun _ _=>[]) (fun _ _=>rfl) (fun e f _=>minus_fn e f)
def eO (w:W2) (a b:Int):W2:=⟨aT (aT w.hi (bn a b)) (aL (aG a b) w.lo 0),aC (aG a b) w.lo 0⟩
theorem addW_fn (w:W2) (a b:Int):ay Tryz.prog GX 121 [cW2.enc w,(av .u64).enc a,(av .u64).enc b] (cW2.enc (eO w a b)):=
 ay.aD (Γ:=[rX,ny]) ah mixed Tryz.func121 (n:=100) (orc:=[]) (cs:=[(0:Int).toNat≤1]) (by kernel_rfl) ⟨by decide,trivial⟩ rfl rfl
def addW_con:Con Tryz.prog GX:=con3 121 Tryz.f121 Tryz.func121 (by kernel_rfl) (by kernel_rfl) cW2 (av .u64) (av .u64) (fun w a b=>cW2.enc (eO w a b)) (fun _ _ _=>[]) (fun _ _ _=>rfl) (fun w a b _=>addW_fn w a b)
def om (w:W2):Int:=orU (shlU w.hi 13) (eB w.lo 51)
theorem shifted_fn (w:W2):ay Tryz.prog GX 122 [cW2.enc w] ((av .u64).enc (om w)):=
 ay.aD (Γ:=([]:Cons Tryz.prog GX)) ah mixed Tryz.func122 (n:=100) (orc:=[]) (cs:=[]) (by kernel_rfl) trivial rfl rfl
def shifted_con:Con Tryz.prog GX:=fQ 122 Tryz.f122 Tryz.func122 (by kernel_rfl) (by kernel_rfl) cW2 (fun w=>(av .u64).enc (om w)) (fun _=>[]) (fun _=>rfl) (fun w _=>shifted_fn w)
def w0:W2:=⟨0,0⟩
def timesR0 (e f:E5):W2:=eO (eO (eO (eO (eO w0 e.l0 f.l0) e.l1 (aG 19 f.l4)) e.l2 (aG 19 f.l3)) e.l3 (aG 19 f.l2)) e.l4 (aG 19 f.l1)
def timesR1 (e f:E5):W2:=eO (eO (eO (eO (eO w0 e.l0 f.l1) e.l1 f.l0) e.l2 (aG 19 f.l4)) e.l3 (aG 19 f.l3)) e.l4 (aG 19 f.l2)
def timesR2 (e f:E5):W2:=eO (eO (eO (eO (eO w0 e.l0 f.l2) e.l1 f.l1) e.l2 f.l0) e.l3 (aG 19 f.l4)) e.l4 (aG 19 f.l3)
def timesR3 (e f:E5):W2:=eO (eO (eO (eO (eO w0 e.l0 f.l3) e.l1 f.l2) e.l2 f.l1) e.l3 f.l0) e.l4 (aG 19 f.l4)
def timesR4 (e f:E5):W2:=eO (eO (eO (eO (eO w0 e.l0 f.l4) e.l1 f.l3) e.l2 f.l2) e.l3 f.l1) e.l4 f.l0
def bJ (e f:E5):E5:=jo ⟨aT (gu (timesR0 e f).lo m51) (aG 19 (om (timesR4 e f))),aT (gu (timesR1 e f).lo m51) (om (timesR0 e f)),
 aT (gu (timesR2 e f).lo m51) (om (timesR1 e f)),aT (gu (timesR3 e f).lo m51) (om (timesR2 e f)),aT (gu (timesR4 e f).lo m51) (om (timesR3 e f))⟩
theorem times_fn (e f:E5):ay Tryz.prog GX 76 [cE5.enc e,cE5.enc f] (cE5.enc (bJ e f)):=
 ay.aD (Γ:=[uE,addW_con,shifted_con]) ah mixed Tryz.func76 (n:=100) (orc:=[]) (cs:=[]) (by kernel_rfl) trivial rfl rfl
def gH:Con Tryz.prog GX:=jA 76 Tryz.f76 Tryz.func76 (by kernel_rfl) (by kernel_rfl) cE5 cE5 (fun e f=>cE5.enc (bJ e f)) (fun _ _=>[]) (fun _ _=>rfl) (fun e f _=>times_fn e f)
inductive At where
 | a0 | a6 | a12 | a19 | a24
def At.n:At→Int
 | .a0=>0 | .a6=>6 | .a12=>12 | .a19=>19 | .a24=>24
def At.k:At→Nat
 | .a0=>0 | .a6=>6 | .a12=>12 | .a19=>19 | .a24=>24
def cAt:Cod At where
 enc a:=(av .i64).enc a.n
 dec
  | .o (.a (.v (.int .i64 n)))=>if n=0 then some .a0 else if n=6 then some .a6 else if n=12 then some .a12 else if n=19 then some .a19 else if n=24 then some .a24 else none
  | _=>none
 ok x a h:=by
  split at h<;>try cases h
  split at h
  ·rename_i e;cases h;subst e;rfl
  split at h
  ·rename_i e;cases h;subst e;rfl
  split at h
  ·rename_i e;cases h;subst e;rfl
  split at h
  ·rename_i e;cases h;subst e;rfl
  split at h<;>cases h
  rename_i e;subst e;rfl
 ids _:=rfl
def word8 (b:B32) (k:Nat):Int:=
 let s (acc:Int) (i:Nat):Int:=orU (shlU acc 8) (IntKind.u64.wrap (b.at (k+i)))
 s (s (s (s (s (s (s (s 0 7) 6) 5) 4) 3) 2) 1) 0
theorem word_fn (a:At) (b:B32) (ty:TypeId):aK Tryz.prog GX 1 (bZ Tryz.f120) (aH Tryz.f120 [cAt.enc a,.o (.a (.ptr 0 0))]) [⟨false,ty,.lit (ak.row b)⟩] (aN tys Tryz.f120 (bA ((av .u64).enc (word8 b a.k)) .none)):=by
 cases a<;>exact eZ (Γ:=([]:Cons Tryz.prog GX)) ah mixed (by kernel_rfl) (n:=100) (orc:=[]) (cs:=[]) (by kernel_rfl) trivial
def zB:List aV→Option (SV × dh × Cst)
 | [.val x,.row false ty cs]=>match cAt.dec x,ak.dec (.o (.g cs)) with
  | some a,some b=>some ((av .u64).enc (word8 b a.k),.none,[])
  | _,_=>none
 | _=>none
noncomputable def word_con:Con Tryz.prog GX:=Con.parts ah 120 Tryz.f120 Tryz.func120 (by kernel_rfl) (c:=bZ Tryz.f120) (by kernel_rfl) [.val,.row] zB
 (fun ps r e p h hp=>by
  unfold zB at h
  split at h<;>try cases h
  split at h<;>cases h
  exact⟨rfl,fun b hb=>by simp[bG,aV.blk] at hb;rw[hb]⟩)
 (fun ps r e p cap h hp hi=>by
  unfold zB at h
  split at h<;>try cases h
  rename_i x ty cs
  split at h<;>cases h
  rename_i a b ha hb
  have h1:=cAt.ok _ _ ha
  have h2:SV.o (.g (ak.row b))= .o (.g cs):=ak.ok _ _ hb
  cases h2
  have:=word_fn a b ty
  rw[h1] at this
  exact this)
def ofF (b:B32):E5:=
 ⟨aT (gu (word8 b 0) m51) (aG 19 (IntKind.u64.wrap (b.b31.fdiv (2^7)))),gu (eB (word8 b 6) 3) m51,gu (eB (word8 b 12) 6) m51,gu (eB (word8 b 19) 1) m51,gu (eB (word8 b 24) 12) m51⟩
theorem of_fn (b:B32):ay Tryz.prog GX 75 [ak.enc b] (cE5.enc (ofF b)):=
 ay.aD (Γ:=[word_con]) ah mixed Tryz.func75 (n:=100) (orc:=[]) (cs:=[]) (by kernel_rfl) trivial rfl rfl
def of_con:Con Tryz.prog GX:=fQ 75 Tryz.f75 Tryz.func75 (by kernel_rfl) (by kernel_rfl) ak (fun b=>cE5.enc (ofF b)) (fun _=>[]) (fun _=>rfl) (fun b _=>of_fn b)
def leastF (e0:E5):E5:=
 let e:=jo (jo e0)
 let q:=eB (aT e.l4 (eB (aT e.l3 (eB (aT e.l2 (eB (aT e.l1 (eB (aT e.l0 19) 51)) 51)) 51)) 51)) 51
 let a0:=aT e.l0 (aG 19 q)
 let a1:=aT e.l1 (eB a0 51)
 let a2:=aT e.l2 (eB a1 51)
 let a3:=aT e.l3 (eB a2 51)
 let a4:=aT e.l4 (eB a3 51)
 ⟨gu a0 m51,gu a1 m51,gu a2 m51,gu a3 m51,gu a4 m51⟩
def wordsF (e:E5):N4:=⟨orU e.l0 (shlU e.l1 51),orU (eB e.l1 13) (shlU e.l2 38),orU (eB e.l2 26) (shlU e.l3 25),orU (eB e.l3 39) (shlU e.l4 12)⟩
def byteOf (w:Int) (j:Nat):Int:=IntKind.u8.wrap (eB w (8*j))
def fO (w:N4):B32:=⟨byteOf w.l0 0,byteOf w.l0 1,byteOf w.l0 2,byteOf w.l0 3,byteOf w.l0 4,byteOf w.l0 5,byteOf w.l0 6,byteOf w.l0 7,
 byteOf w.l1 0,byteOf w.l1 1,byteOf w.l1 2,byteOf w.l1 3,byteOf w.l1 4,byteOf w.l1 5,byteOf w.l1 6,byteOf w.l1 7,
 byteOf w.l2 0,byteOf w.l2 1,byteOf w.l2 2,byteOf w.l2 3,byteOf w.l2 4,byteOf w.l2 5,byteOf w.l2 6,byteOf w.l2 7,
 byteOf w.l3 0,byteOf w.l3 1,byteOf w.l3 2,byteOf w.l3 3,byteOf w.l3 4,byteOf w.l3 5,byteOf w.l3 6,byteOf w.l3 7⟩
def gF (e:E5):B32:=fO (wordsF (leastF e))
theorem bytes_fn (e:E5):ay Tryz.prog GX 91 [cE5.enc e] (ak.enc (gF e)):=
 ay.aD (Γ:=[uE]) ah mixed Tryz.func91 (n:=100) (orc:=[]) (cs:=[]) (by kernel_rfl) trivial rfl rfl
def uW:Con Tryz.prog GX:=fQ 91 Tryz.f91 Tryz.func91 (by kernel_rfl) (by kernel_rfl) cE5 (fun e=>ak.enc (gF e)) (fun _=>[]) (fun _=>rfl) (fun e _=>bytes_fn e)
def sqF:Nat→E5→E5
 | 0,e=>e
 | n+1,e=>bJ (sqF n e) (sqF n e)
namespace squared
noncomputable abbrev fn:=Tryz.f124
noncomputable def body:Code:=bZ fn
noncomputable def A:Code:=cs1 body
noncomputable def B:Code:=cs1 (cs1 (cs2 body))
noncomputable def L:Code:=cL (cB (cs2 (cs1 (cs2 body))))
noncomputable def C:Code:=cs2 (cs2 body)
theorem dX:body= .seq A (.seq (.seq B (.block 0 (.loop L))) C):=by kernel_rfl
noncomputable def Γ:Cons Tryz.prog GX:=[gH]
structure X where
 i:Int
 e:E5
 g:Nat→SV
section
variable (e0:E5) (n:Int)
def S (x : X) : List SV × List Blk :=
  (
   [cE5.enc e0, (av .i64).enc n, .o (.a (.ptr 0 0)), dB, .o (.a (.ptr 1 0)), (av .i64).enc n, (av .i64).enc x.i, x.g 7, x.g 8, x.g 9, x.g 10, x.g 11, dB],
   [⟨true, 72, cE5.row x.e⟩, ⟨true, 72, cE5.row ⟨0, 0, 0, 0, 0⟩⟩])
def st (x:X) (o:Orc):St:=⟨(S e0 n x).1,(S e0 n x).2,o⟩
noncomputable def s0:St:=⟨aH fn [cE5.enc e0,(av .i64).enc n],[],[]⟩
theorem preA:exec Γ tys 100 A (s0 e0 n)=some (.normal,dz Γ tys 100 A (s0 e0 n),[]):=by kernel_rfl
theorem preB:exec Γ tys 100 B (dz Γ tys 100 A (s0 e0 n))=some (.normal,st e0 n ⟨0,e0,fun _=>dB⟩ [],[]):=by kernel_rfl
theorem round (x:X):exec Γ tys 100 L (st e0 n x [(7,[true])])=
  some (.normal,st e0 n ⟨IntKind.i64.wrap (x.i+1),bJ x.e x.e,outT Γ tys 100 L (st e0 n x [(7,[true])])⟩ [(7,[])],[decide (x.i<n)=true]):=by kernel_rfl
theorem last (x:X):exec Γ tys 100 L (st e0 n x [(7,[false])])=
  some (.exit 0,st e0 n ⟨x.i,x.e,outT Γ tys 100 L (st e0 n x [(7,[false])])⟩ [(7,[])],[decide (x.i<n)=false]):=by kernel_rfl
def fin (x : X) : St := ⟨[cE5.enc e0, (av .i64).enc n, .o (.a (.ptr 0 0)), dB, .o (.a (.ptr 1 0)), (av .i64).enc n, (av .i64).enc x.i, x.g 7, x.g 8, x.g 9, x.g 10, x.g 11, cE5.enc x.e],
   [⟨true, 72, cE5.row x.e⟩, ⟨true, 72, cE5.row x.e⟩], []⟩
theorem post (x:X):exec Γ tys 100 C (st e0 n x [])=some (.ret,fin e0 n x,[]):=by kernel_rfl
theorem result (x:X):eRes tys (fin e0 n x).tm (fun k=>(fin e0 n x).mem[k]?) fn.results.toList=some [.g (cE5.row x.e)]:=by kernel_rfl
end
end squared
theorem wrap_i64_in {n:Int} (h0: -9223372036854775808≤n) (h1:n<9223372036854775808):IntKind.i64.wrap n=n:=by
 rw[IntKind.wrap_i64];omega
theorem squared_any (e:E5) (n:Int) (h0:0≤n) (h1:n<9223372036854775807):ay Tryz.prog GX 124 [cE5.enc e,(av .i64).enc n] (cE5.enc (sqF n.toNat e)):=by
 refine ay.u7 ah Tryz.func124 (c:=squared.body) (by kernel_rfl) ?_ rfl rfl
 rw[squared.dX]
 refine Runs.seq (Runs.aQ ah mixed (squared.preA e n) trivial ?_)
 refine Runs.seq (Runs.seq (Runs.aQ ah mixed (squared.preB e n) trivial ?_))
 refine Runs.block ?_
 refine Runs.loop (squared.S e n) (fun x=>∃k:Nat,x.i=k∧(k:Int)≤n∧x.e=sqF k e) (fun x=>(n-x.i).toNat) ?_ ⟨0,e,fun _=>dB⟩ ⟨0,rfl,h0,rfl⟩
 rintro x ⟨k,hi,hk,he⟩
 by_cases hlt:x.i<n
 ·refine Runs.aQ ah mixed (squared.round e n x) ⟨by simpa using hlt,trivial⟩ ?_
  have hw:IntKind.i64.wrap (x.i+1)=x.i+1:=wrap_i64_in (by omega) (by omega)
  refine⟨_,rfl,⟨k+1,by simp only[hw];omega,by omega,by simp only[he];rfl⟩,by simp only[hw];omega⟩
 ·refine Runs.aQ ah mixed (squared.last e n x) ⟨by simpa using hlt,trivial⟩ ?_
  show Runs Tryz.prog GX squared.C _ _ _
  refine Runs.aQ ah mixed (squared.post e n _) trivial (Ends.ret (squared.result e n _) ?_)
  have:k=n.toNat:=by omega
  rw[←this,←he]
  rfl
abbrev Idx:=Fin 9223372036854775807
def cIdx:Cod Idx where
 enc k:=(av .i64).enc k.val
 dec
  | .o (.a (.v (.int .i64 n)))=>if h:0≤n∧n<9223372036854775807 then some ⟨n.toNat,by omega⟩ else none
  | _=>none
 ok x a h:=by
  split at h<;>try cases h
  split at h<;>cases h
  rename_i hn
  simp only[Int.toNat_of_nonneg hn.1]
  rfl
 ids _:=rfl
theorem squared_fn (e:E5) (k:Idx):ay Tryz.prog GX 124 [cE5.enc e,cIdx.enc k] (cE5.enc (sqF k.val e)):=by
 have h:=squared_any e k.val (by omega) (by have:=k.isLt;omega)
 rw[Int.toNat_natCast] at h
 exact h
def nD:Con Tryz.prog GX:=jA 124 Tryz.f124 Tryz.func124 (by kernel_rfl) (by kernel_rfl) (cE5) (cIdx) (fun e k=>cE5.enc (sqF k.val e)) (fun _ _=>[]) (fun _ _=>rfl) (fun e k _=>squared_fn e k)
def pairE (a b:E5):SV:= .t [.g (cE5.row a),.g (cE5.row b)]
section
variable (e:E5)
def e9F:E5:=bJ (sqF 2 (sqF 1 e)) e
def e11F:E5:=bJ (e9F e) (sqF 1 e)
def x5F:E5:=bJ (sqF 1 (e11F e)) (e9F e)
def x10F:E5:=bJ (sqF 5 (x5F e)) (x5F e)
def x20F:E5:=bJ (sqF 10 (x10F e)) (x10F e)
def x40F:E5:=bJ (sqF 20 (x20F e)) (x20F e)
def x50F:E5:=bJ (sqF 10 (x40F e)) (x10F e)
def x100F:E5:=bJ (sqF 50 (x50F e)) (x50F e)
def x200F:E5:=bJ (sqF 100 (x100F e)) (x100F e)
def x250F:E5:=bJ (sqF 50 (x200F e)) (x50F e)
theorem chain_fn:ay Tryz.prog GX 128 [(cE5).enc e] (pairE (x250F e) (e11F e)):=
 ay.aD (Γ:=[nD,gH]) ah mixed Tryz.func128 (n:=100) (orc:=[]) (cs:=[]) (by kernel_rfl) trivial rfl rfl
end
def chain_con:Con Tryz.prog GX:=fQ 128 Tryz.f128 Tryz.func128 (by kernel_rfl) (by kernel_rfl) (cE5) (fun e=>pairE (x250F e) (e11F e)) (fun _=>[]) (fun _=>rfl) (fun e _=>chain_fn e)
def invF (e:E5):E5:=bJ (sqF 5 (x250F e)) (e11F e)
theorem inverse_fn (e:E5):ay Tryz.prog GX 90 [(cE5).enc e] (cE5.enc (invF e)):=
 ay.aD (Γ:=[chain_con,nD,gH]) ah mixed Tryz.func90 (n:=100) (orc:=[]) (cs:=[]) (by kernel_rfl) trivial rfl rfl
def AX:Con Tryz.prog GX:=fQ 90 Tryz.f90 Tryz.func90 (by kernel_rfl) (by kernel_rfl) (cE5) (fun e=>cE5.enc (invF e)) (fun _=>[]) (fun _=>rfl) (fun e _=>inverse_fn e)
def pow58F (e:E5):E5:=bJ (sqF 2 (x250F e)) e
theorem power58_fn (e:E5):ay Tryz.prog GX 125 [(cE5).enc e] (cE5.enc (pow58F e)):=
 ay.aD (Γ:=[chain_con,nD,gH]) ah mixed Tryz.func125 (n:=100) (orc:=[]) (cs:=[]) (by kernel_rfl) trivial rfl rfl
def uw:Con Tryz.prog GX:=fQ 125 Tryz.f125 Tryz.func125 (by kernel_rfl) (by kernel_rfl) (cE5) (fun e=>cE5.enc (pow58F e)) (fun _=>[]) (fun _=>rfl) (fun e _=>power58_fn e)
def eqI:List Int→List Int→Bool
 | x::xs,y::ys=>(x==y)&&eqI xs ys
 | _,_=>true
def eqB (a b:B32):Bool:=eqI a.to b.to
def isF (e f:E5):Bool:=eqB (gF e) (gF f)
theorem is_fn (e:E5) (f:E5):ay Tryz.prog GX 82 [(cE5).enc e,(cE5).enc f] (aY.enc (isF e f)):=
 ay.aD (Γ:=[uW]) ah mixed Tryz.func82 (n:=100) (orc:=[]) (cs:=[]) (by kernel_rfl) trivial rfl rfl
def tq:Con Tryz.prog GX:=jA 82 Tryz.f82 Tryz.func82 (by kernel_rfl) (by kernel_rfl) (cE5) (cE5) (fun e f=>aY.enc (isF e f)) (fun _ _=>[]) (fun _ _=>rfl) (fun e f _=>is_fn e f)
def oddF (e:E5):Bool:=(bits .and .u8 (gF e).b0 1)==1
theorem odd_fn (e:E5):ay Tryz.prog GX 92 [(cE5).enc e] (aY.enc (oddF e)):=
 ay.aD (Γ:=[uW]) ah mixed Tryz.func92 (n:=100) (orc:=[]) (cs:=[]) (by kernel_rfl) trivial rfl rfl
def vI:Con Tryz.prog GX:=fQ 92 Tryz.f92 Tryz.func92 (by kernel_rfl) (by kernel_rfl) (cE5) (fun e=>aY.enc (oddF e)) (fun _=>[]) (fun _=>rfl) (fun e _=>odd_fn e)
theorem one_fn:ay Tryz.prog GX 79 [] (cE5.enc oneE):=
 ay.aD (Γ:=([]:Cons Tryz.prog GX)) ah mixed Tryz.func79 (n:=100) (orc:=[]) (cs:=[]) (by kernel_rfl) trivial rfl rfl
def u6:Con Tryz.prog GX:=con0 79 Tryz.f79 Tryz.func79 (by kernel_rfl) (by kernel_rfl) (cE5.enc oneE) [] rfl (fun _=>one_fn)
theorem rootM1_fn:ay Tryz.prog GX 126 [] (cE5.enc oW):=
 ay.aD (Γ:=([]:Cons Tryz.prog GX)) ah mixed Tryz.func126 (n:=100) (orc:=[]) (cs:=[]) (by kernel_rfl) trivial rfl rfl
def vg:Con Tryz.prog GX:=con0 126 Tryz.f126 Tryz.func126 (by kernel_rfl) (by kernel_rfl) (cE5.enc oW) [] rfl (fun _=>rootM1_fn)
def zeroE:E5:=⟨0,0,0,0,0⟩
def v3F (v:E5):E5:=bJ (sqF 1 v) v
def iQ (u v:E5):E5:=bJ (bJ u (v3F v)) (pow58F (bJ (bJ u (sqF 1 (v3F v))) v))
def vV (u v:E5):E5:=match isF (bJ v (sqF 1 (iQ u v))) u with
 | true=>iQ u v
 | false=>bJ (iQ u v) oW
def ratio2 (u v:E5):E5:=match oddF (vV u v) with
 | true=>jE zeroE (vV u v)
 | false=>vV u v
def jY (u v:E5):Bool:=isF (bJ v (sqF 1 (vV u v))) u
def flagE (e:E5) (b:Bool):SV:= .t [.g (cE5.row e),.a (iO b)]
theorem ratio_fn (u v:E5):ay Tryz.prog GX 77 [cE5.enc u,cE5.enc v] (flagE (ratio2 u v) (jY u v)):=by
 have key:∀b1 b2,isF (bJ v (sqF 1 (iQ u v))) u=b1→
   oddF (match b1 with | true=>iQ u v | false=>bJ (iQ u v) oW)=b2→
   ay Tryz.prog GX 77 [cE5.enc u,cE5.enc v]
    (flagE (match b2 with
      | true=>jE zeroE (match b1 with | true=>iQ u v | false=>bJ (iQ u v) oW)
      | false=>match b1 with | true=>iQ u v | false=>bJ (iQ u v) oW)
     (isF (bJ v (sqF 1 (match b1 with | true=>iQ u v | false=>bJ (iQ u v) oW))) u)):=by
  intro b1 b2 h1 h2
  cases b1<;>cases b2
  ·exact ay.aD (Γ:=[nD,gH,uw,tq,vg,vI,jK]) ah mixed Tryz.func77 (n:=100) (orc:=[(30,[false]),(40,[false])])
    (cs:=[isF (bJ v (sqF 1 (iQ u v))) u=false,oddF (bJ (iQ u v) oW)=false]) (by kernel_rfl) ⟨h1,h2,trivial⟩ rfl rfl
  ·exact ay.aD (Γ:=[nD,gH,uw,tq,vg,vI,jK]) ah mixed Tryz.func77 (n:=100) (orc:=[(30,[false]),(40,[true])])
    (cs:=[isF (bJ v (sqF 1 (iQ u v))) u=false,oddF (bJ (iQ u v) oW)=true]) (by kernel_rfl) ⟨h1,h2,trivial⟩ rfl rfl
  ·exact ay.aD (Γ:=[nD,gH,uw,tq,vg,vI,jK]) ah mixed Tryz.func77 (n:=100) (orc:=[(30,[true]),(40,[false])])
    (cs:=[isF (bJ v (sqF 1 (iQ u v))) u=true,oddF (iQ u v)=false]) (by kernel_rfl) ⟨h1,h2,trivial⟩ rfl rfl
  ·exact ay.aD (Γ:=[nD,gH,uw,tq,vg,vI,jK]) ah mixed Tryz.func77 (n:=100) (orc:=[(30,[true]),(40,[true])])
    (cs:=[isF (bJ v (sqF 1 (iQ u v))) u=true,oddF (iQ u v)=true]) (by kernel_rfl) ⟨h1,h2,trivial⟩ rfl rfl
 exact key _ _ rfl rfl
def uG:Con Tryz.prog GX:=jA 77 Tryz.f77 Tryz.func77 (by kernel_rfl) (by kernel_rfl) (cE5) (cE5) (fun u v=>flagE (ratio2 u v) (jY u v)) (fun _ _=>[]) (fun _ _=>rfl) (fun u v _=>ratio_fn u v)
theorem canonical_fn (a:B32):ay Tryz.prog GX 74 [(ak).enc a] (aY.enc (eqB (gF (ofF a)) a)):=
 ay.aD (Γ:=[of_con,uW]) ah mixed Tryz.func74 (n:=100) (orc:=[]) (cs:=[]) (by kernel_rfl) trivial rfl rfl
def oQ:Con Tryz.prog GX:=fQ 74 Tryz.f74 Tryz.func74 (by kernel_rfl) (by kernel_rfl) (ak) (fun a=>aY.enc (eqB (gF (ofF a)) a)) (fun _=>[]) (fun _=>rfl) (fun a _=>canonical_fn a)
def aM:B32:=⟨0,0,0,0,0,0,0,0,0,0,0,0,0,0,0,0,0,0,0,0,0,0,0,0,0,0,0,0,0,0,0,0⟩
def pU (b:B32) (e:Int):SV:= .t [.g (ak.row b),.a (aB .i64 e)]
def canB (a:B32):Bool:=eqB (gF (ofF a)) a
def numB (n:Int):B32:=⟨n,0,0,0,0,0,0,0,0,0,0,0,0,0,0,0,0,0,0,0,0,0,0,0,0,0,0,0,0,0,0,0⟩
theorem nW (a b:Int):aT a b=(a+b)%18446744073709551616:=by simp[aT,IntKind.wrap,IntKind.bits,IntKind.signed]
theorem subU_eq (a b:Int):subU a b=(a-b)%18446744073709551616:=by simp[subU,IntKind.wrap,IntKind.bits,IntKind.signed]
theorem nQ (a b:Int):aG a b=(a*b)%18446744073709551616:=by simp[aG,IntKind.wrap,IntKind.bits,IntKind.signed]
theorem mh (a:Int) (n:Nat):eB a n=a/2^n:=by
 unfold eB
 exact Int.fdiv_eq_ediv_of_nonneg _ (Int.pow_nonneg (by decide))
theorem xJ (a:Int) (n:Nat):shlU a n=(a*2^n)%18446744073709551616:=by simp[shlU,IntKind.wrap,IntKind.bits,IntKind.signed]
theorem wrap64 (a:Int):IntKind.u64.wrap a=a%18446744073709551616:=by simp[IntKind.wrap,IntKind.bits,IntKind.signed]
theorem wraps_u64 (n:Int) (h₀:0≤n) (h₁:n<2^64):IntKind.u64.wrap n=n:=by rw[wrap64];omega
theorem nM (x:Int) (h0:0≤x) (h1:x<18446744073709551616):gu x m51=x%2251799813685248:=
 bits_mask .u64 64 (by decide) wraps_u64 51 (by decide) x h0 h1
theorem and32 (x:Int) (h0:0≤x) (h1:x<18446744073709551616):gu x m32=x%4294967296:=
 bits_mask .u64 64 (by decide) wraps_u64 32 (by decide) x h0 h1
theorem kC (i:Nat) (x y:Int) (hx0:0≤x) (hx1:x<18446744073709551616) (hx:x%2^i=0) (hy0:0≤y) (hy:y<2^i) (hy1:y<18446744073709551616):orU x y=x+y:=
 bits_join .u64 64 (by decide) wraps_u64 i x y hx0 hx hx1 hy0 hy hy1
def Word (x:Int):Prop:=0≤x∧x<18446744073709551616
def Lim (e:E5):Prop:=(0≤e.l0∧e.l0<2251799813947392)∧(0≤e.l1∧e.l1<2251799813947392)∧(0≤e.l2∧e.l2<2251799813947392)∧(0≤e.l3∧e.l3<2251799813947392)∧(0≤e.l4∧e.l4<2251799813947392)
def Words (e:E5):Prop:=Word e.l0∧Word e.l1∧Word e.l2∧Word e.l3∧Word e.l4
def pP:Int:=57896044618658097711785492504343953926634992332820282019728792003956564819949
def V (e:E5):Int:=e.l0+2251799813685248*e.l1+5070602400912917605986812821504*e.l2+11417981541647679048466287755595961091061972992*e.l3+25711008708143844408671393477458601640355247900524685364822016*e.l4
theorem zi (e:E5) (h:Words e):jo e=⟨e.l0%2251799813685248+19*(e.l4/2251799813685248),e.l1%2251799813685248+e.l0/2251799813685248,
  e.l2%2251799813685248+e.l1/2251799813685248,e.l3%2251799813685248+e.l2/2251799813685248,e.l4%2251799813685248+e.l3/2251799813685248⟩:=by
 obtain⟨⟨a0,a1⟩,⟨b0,b1⟩,⟨c0,c1⟩,⟨d0,d1⟩,⟨f0,f1⟩⟩:=h
 unfold jo
 rw[nM _ a0 a1,nM _ b0 b1,nM _ c0 c1,nM _ d0 d1,nM _ f0 f1]
 simp only[nW,nQ,mh,E5.mk.injEq]
 refine⟨?_,?_,?_,?_,?_⟩<;>omega
theorem uD (e:E5) (h:Words e):Lim (jo e):=by
 rw[zi e h]
 obtain⟨⟨a0,a1⟩,⟨b0,b1⟩,⟨c0,c1⟩,⟨d0,d1⟩,⟨f0,f1⟩⟩:=h
 refine⟨⟨?_,?_⟩,⟨?_,?_⟩,⟨?_,?_⟩,⟨?_,?_⟩,⟨?_,?_⟩⟩<;>simp only<;>omega
theorem rz (e:E5) (h:Words e):V (jo e)=V e-(e.l4/2251799813685248)*pP:=by
 rw[zi e h]
 unfold V pP
 simp only
 omega
theorem Lim.words {e:E5} (h:Lim e):Words e:=by
 obtain⟨⟨a0,a1⟩,⟨b0,b1⟩,⟨c0,c1⟩,⟨d0,d1⟩,⟨f0,f1⟩⟩:=h
 refine⟨⟨?_,?_⟩,⟨?_,?_⟩,⟨?_,?_⟩,⟨?_,?_⟩,⟨?_,?_⟩⟩<;>omega
theorem mW {a b k:Int} (h:a=b-k*pP):a%pP=b%pP:=by
 rw[h,Int.sub_mul_emod_self_right]
theorem plus_lim (e f:E5) (he:Lim e) (hf:Lim f):Lim (mU e f)∧V (mU e f)%pP=(V e+V f)%pP:=by
 obtain⟨⟨a0,a1⟩,⟨b0,b1⟩,⟨c0,c1⟩,⟨d0,d1⟩,⟨f0,f1⟩⟩:=he
 obtain⟨⟨a0',a1'⟩,⟨b0',b1'⟩,⟨c0',c1'⟩,⟨d0',d1'⟩,⟨f0',f1'⟩⟩:=hf
 unfold mU
 simp only[nW]
 have hw:Words ⟨(e.l0+f.l0)%18446744073709551616,(e.l1+f.l1)%18446744073709551616,(e.l2+f.l2)%18446744073709551616,(e.l3+f.l3)%18446744073709551616,(e.l4+f.l4)%18446744073709551616⟩:=by
  refine⟨⟨?_,?_⟩,⟨?_,?_⟩,⟨?_,?_⟩,⟨?_,?_⟩,⟨?_,?_⟩⟩<;>simp only<;>omega
 refine⟨uD _ hw,?_⟩
 rw[mW (rz _ hw)]
 congr 1
 unfold V
 simp only
 omega
theorem minus_lim (e f:E5) (he:Lim e) (hf:Lim f):Lim (jE e f)∧V (jE e f)%pP=(V e-V f)%pP:=by
 obtain⟨⟨a0,a1⟩,⟨b0,b1⟩,⟨c0,c1⟩,⟨d0,d1⟩,⟨f0,f1⟩⟩:=he
 obtain⟨⟨a0',a1'⟩,⟨b0',b1'⟩,⟨c0',c1'⟩,⟨d0',d1'⟩,⟨f0',f1'⟩⟩:=hf
 unfold jE
 simp only[nW,subU_eq]
 have hw:Words ⟨((e.l0+4503599627370458)%18446744073709551616-f.l0)%18446744073709551616,((e.l1+4503599627370494)%18446744073709551616-f.l1)%18446744073709551616,((e.l2+4503599627370494)%18446744073709551616-f.l2)%18446744073709551616,
   ((e.l3+4503599627370494)%18446744073709551616-f.l3)%18446744073709551616,((e.l4+4503599627370494)%18446744073709551616-f.l4)%18446744073709551616⟩:=by
  refine⟨⟨?_,?_⟩,⟨?_,?_⟩,⟨?_,?_⟩,⟨?_,?_⟩,⟨?_,?_⟩⟩<;>simp only<;>omega
 refine⟨uD _ hw,?_⟩
 rw[mW (rz _ hw)]
 refine mW (k:= -2) ?_
 unfold V pP
 simp only
 omega
theorem p9 (x y:Int) (hx:Word x) (hy:Word y):bn x y=x*y/18446744073709551616:=by
 obtain⟨hx0,hx1⟩:=hx
 obtain⟨hy0,hy1⟩:=hy
 rw[←mul64_arith x y hx0 hx1 hy0 hy1]
 have w:∀a:Int,0≤a%18446744073709551616∧a%18446744073709551616<18446744073709551616:=fun a=>⟨Int.emod_nonneg _ (by decide),Int.emod_lt_of_pos _ (by decide)⟩
 unfold bn
 simp only[nW,nQ,mh]
 rw[and32 x hx0 hx1,and32 y hy0 hy1,and32 _ (w _).1 (w _).2]
 rfl
def WV (w:W2):Int:=w.hi*18446744073709551616+w.lo
def WOk (w:W2) (n:Int):Prop:=Word w.hi∧Word w.lo∧WV w=n
theorem WOk.zero:WOk w0 0:=⟨⟨by decide,by decide⟩,⟨by decide,by decide⟩,by decide⟩
theorem WOk.add {w:W2} {n m a b:Int} (h:WOk w n) (ha:Word a) (hb:Word b) (hm:a*b=m) (h0:0≤m) (hs:n+m<340282366920938463463374607431768211456):WOk (eO w a b) (n+m):=by
 obtain⟨⟨h1,h2⟩,⟨h3,h4⟩,h5⟩:=h
 unfold eO
 rw[p9 a b ha hb,nQ,hm]
 unfold WV at h5
 have e1:aL (m%18446744073709551616) w.lo 0=(m%18446744073709551616+w.lo)/18446744073709551616:=by unfold aL;simp only[Int.ofNat_eq_natCast];omega
 have e2:aC (m%18446744073709551616) w.lo 0=(m%18446744073709551616+w.lo)%18446744073709551616:=by unfold aC;simp only[Int.ofNat_eq_natCast];omega
 simp only[nW,e1,e2]
 unfold WOk WV Word
 simp only
 omega
theorem qR {w:W2} {n:Int} (h:WOk w n) (hn:n<41538374868278621028243970633760768):om w=n/2251799813685248∧gu w.lo m51=n%2251799813685248:=by
 obtain⟨⟨h1,h2⟩,⟨h3,h4⟩,h5⟩:=h
 unfold WV at h5
 unfold om
 rw[nM _ h3 h4,xJ,mh]
 refine⟨?_,by omega⟩
 rw[kC 13 _ _ (by omega) (by omega) (by omega) (by omega) (by omega) (by omega)]
 omega
theorem fU {a b:Int} (ha:0≤a∧a<2251799813947392) (hb:0≤b∧b<2251799813947392):0≤a*b∧a*b<10141204801825835211973625643008:=by
 refine⟨Int.mul_nonneg ha.1 hb.1,?_⟩
 have:=Int.mul_le_mul (Int.le_of_lt ha.2) (Int.le_of_lt hb.2) hb.1 (by decide:(0:Int)≤2251799813947392)
 omega
theorem mul19 {a:Int} (ha:0≤a∧a<2251799813947392):aG 19 a=19*a:=by rw[nQ];omega
theorem times_lim (e f:E5) (he:Lim e) (hf:Lim f):Lim (bJ e f)∧V (bJ e f)%pP=(V e*V f)%pP:=by
 obtain⟨ha,hb,hc,hd,hk⟩:=he
 obtain⟨ha',hb',hc',hd',hk'⟩:=hf
 have wd:∀{a:Int},(0≤a∧a<2251799813947392)→Word a:=fun h=>⟨h.1,by omega⟩
 have wd19:∀{a:Int},(0≤a∧a<2251799813947392)→Word (19*a):=fun h=>⟨by omega,by omega⟩
 have m19:∀a b:Int,a*(19*b)=19*(a*b):=fun a b=>by rw[Int.mul_left_comm]
 have p00:=fU ha ha'
 have p01:=fU ha hb'
 have p02:=fU ha hc'
 have p03:=fU ha hd'
 have p04:=fU ha hk'
 have p10:=fU hb ha'
 have p11:=fU hb hb'
 have p12:=fU hb hc'
 have p13:=fU hb hd'
 have p14:=fU hb hk'
 have p20:=fU hc ha'
 have p21:=fU hc hb'
 have p22:=fU hc hc'
 have p23:=fU hc hd'
 have p24:=fU hc hk'
 have p30:=fU hd ha'
 have p31:=fU hd hb'
 have p32:=fU hd hc'
 have p33:=fU hd hd'
 have p34:=fU hd hk'
 have p40:=fU hk ha'
 have p41:=fU hk hb'
 have p42:=fU hk hc'
 have p43:=fU hk hd'
 have p44:=fU hk hk'
 have hV:V e*V f=(e.l0*f.l0+19*(e.l1*f.l4)+19*(e.l2*f.l3)+19*(e.l3*f.l2)+19*(e.l4*f.l1))
   +2251799813685248*(e.l0*f.l1+e.l1*f.l0+19*(e.l2*f.l4)+19*(e.l3*f.l3)+19*(e.l4*f.l2))
   +5070602400912917605986812821504*(e.l0*f.l2+e.l1*f.l1+e.l2*f.l0+19*(e.l3*f.l4)+19*(e.l4*f.l3))
   +11417981541647679048466287755595961091061972992*(e.l0*f.l3+e.l1*f.l2+e.l2*f.l1+e.l3*f.l0+19*(e.l4*f.l4))
   +25711008708143844408671393477458601640355247900524685364822016*(e.l0*f.l4+e.l1*f.l3+e.l2*f.l2+e.l3*f.l1+e.l4*f.l0)
   +((e.l1*f.l4+e.l2*f.l3+e.l3*f.l2+e.l4*f.l1)+2251799813685248*(e.l2*f.l4+e.l3*f.l3+e.l4*f.l2)+5070602400912917605986812821504*(e.l3*f.l4+e.l4*f.l3)+11417981541647679048466287755595961091061972992*(e.l4*f.l4))*pP:=by
  unfold V pP
  grind
 have r0:WOk (timesR0 e f) (0+e.l0*f.l0+19*(e.l1*f.l4)+19*(e.l2*f.l3)+19*(e.l3*f.l2)+19*(e.l4*f.l1)):=by
  unfold timesR0
  rw[mul19 hb',mul19 hc',mul19 hd',mul19 hk']
  exact((((WOk.zero.add (wd ha) (wd ha') rfl (by omega) (by omega)).add (wd hb) (wd19 hk') (m19 _ _) (by omega) (by omega)).add (wd hc) (wd19 hd') (m19 _ _) (by omega) (by omega)).add (wd hd) (wd19 hc') (m19 _ _) (by omega) (by omega)).add (wd hk) (wd19 hb') (m19 _ _) (by omega) (by omega)
 have r1:WOk (timesR1 e f) (0+e.l0*f.l1+e.l1*f.l0+19*(e.l2*f.l4)+19*(e.l3*f.l3)+19*(e.l4*f.l2)):=by
  unfold timesR1
  rw[mul19 hc',mul19 hd',mul19 hk']
  exact((((WOk.zero.add (wd ha) (wd hb') rfl (by omega) (by omega)).add (wd hb) (wd ha') rfl (by omega) (by omega)).add (wd hc) (wd19 hk') (m19 _ _) (by omega) (by omega)).add (wd hd) (wd19 hd') (m19 _ _) (by omega) (by omega)).add (wd hk) (wd19 hc') (m19 _ _) (by omega) (by omega)
 have r2:WOk (timesR2 e f) (0+e.l0*f.l2+e.l1*f.l1+e.l2*f.l0+19*(e.l3*f.l4)+19*(e.l4*f.l3)):=by
  unfold timesR2
  rw[mul19 hd',mul19 hk']
  exact((((WOk.zero.add (wd ha) (wd hc') rfl (by omega) (by omega)).add (wd hb) (wd hb') rfl (by omega) (by omega)).add (wd hc) (wd ha') rfl (by omega) (by omega)).add (wd hd) (wd19 hk') (m19 _ _) (by omega) (by omega)).add (wd hk) (wd19 hd') (m19 _ _) (by omega) (by omega)
 have r3:WOk (timesR3 e f) (0+e.l0*f.l3+e.l1*f.l2+e.l2*f.l1+e.l3*f.l0+19*(e.l4*f.l4)):=by
  unfold timesR3
  rw[mul19 hk']
  exact((((WOk.zero.add (wd ha) (wd hd') rfl (by omega) (by omega)).add (wd hb) (wd hc') rfl (by omega) (by omega)).add (wd hc) (wd hb') rfl (by omega) (by omega)).add (wd hd) (wd ha') rfl (by omega) (by omega)).add (wd hk) (wd19 hk') (m19 _ _) (by omega) (by omega)
 have r4:WOk (timesR4 e f) (0+e.l0*f.l4+e.l1*f.l3+e.l2*f.l2+e.l3*f.l1+e.l4*f.l0):=by
  unfold timesR4
  exact((((WOk.zero.add (wd ha) (wd hk') rfl (by omega) (by omega)).add (wd hb) (wd hd') rfl (by omega) (by omega)).add (wd hc) (wd hc') rfl (by omega) (by omega)).add (wd hd) (wd hb') rfl (by omega) (by omega)).add (wd hk) (wd ha') rfl (by omega) (by omega)
 generalize hR0:(0+e.l0*f.l0+19*(e.l1*f.l4)+19*(e.l2*f.l3)+19*(e.l3*f.l2)+19*(e.l4*f.l1))=R0 at r0
 generalize hR1:(0+e.l0*f.l1+e.l1*f.l0+19*(e.l2*f.l4)+19*(e.l3*f.l3)+19*(e.l4*f.l2))=R1 at r1
 generalize hR2:(0+e.l0*f.l2+e.l1*f.l1+e.l2*f.l0+19*(e.l3*f.l4)+19*(e.l4*f.l3))=R2 at r2
 generalize hR3:(0+e.l0*f.l3+e.l1*f.l2+e.l2*f.l1+e.l3*f.l0+19*(e.l4*f.l4))=R3 at r3
 generalize hR4:(0+e.l0*f.l4+e.l1*f.l3+e.l2*f.l2+e.l3*f.l1+e.l4*f.l0)=R4 at r4
 have b0:0≤R0∧R0<780872769740589311321969174511616:=by omega
 have b1:0≤R1∧R1<780872769740589311321969174511616:=by omega
 have b2:0≤R2∧R2<780872769740589311321969174511616:=by omega
 have b3:0≤R3∧R3<780872769740589311321969174511616:=by omega
 have b4:0≤R4∧R4<50706024009129176059868128215040:=by omega
 obtain⟨s0,t0⟩:=qR r0 (by omega)
 obtain⟨s1,t1⟩:=qR r1 (by omega)
 obtain⟨s2,t2⟩:=qR r2 (by omega)
 obtain⟨s3,t3⟩:=qR r3 (by omega)
 obtain⟨s4,t4⟩:=qR r4 (by omega)
 unfold bJ
 rw[s0,s1,s2,s3,s4,t0,t1,t2,t3,t4]
 simp only[nW,nQ]
 clear r0 r1 r2 r3 r4 s0 s1 s2 s3 s4 t0 t1 t2 t3 t4 p00 p01 p02 p03 p04 p10 p11 p12 p13 p14 p20 p21 p22 p23 p24 p30 p31 p32 p33 p34 p40 p41 p42 p43 p44
 have hw:Words ⟨(R0%2251799813685248+(19*(R4/2251799813685248))%18446744073709551616)%18446744073709551616,(R1%2251799813685248+R0/2251799813685248)%18446744073709551616,
   (R2%2251799813685248+R1/2251799813685248)%18446744073709551616,(R3%2251799813685248+R2/2251799813685248)%18446744073709551616,(R4%2251799813685248+R3/2251799813685248)%18446744073709551616⟩:=by
  refine⟨⟨?_,?_⟩,⟨?_,?_⟩,⟨?_,?_⟩,⟨?_,?_⟩,⟨?_,?_⟩⟩<;>simp only<;>omega
 refine⟨uD _ hw,?_⟩
 rw[mW (rz _ hw),hV,Int.add_mul_emod_self_right]
 refine mW (k:=R4/2251799813685248) ?_
 rw[←Int.zero_add (e.l0*f.l0),←Int.zero_add (e.l0*f.l1),←Int.zero_add (e.l0*f.l2),←Int.zero_add (e.l0*f.l3),←Int.zero_add (e.l0*f.l4),hR0,hR1,hR2,hR3,hR4]
 unfold V pP
 simp only
 clear hV hw hR0 hR1 hR2 hR3 hR4
 omega
def Byte (x:Int):Prop:=0≤x∧x<256
def BOk (b:B32):Prop:=∀i,Byte (b.at i)
def VB (b:B32):Int:=b.b0+256*(b.b1+256*(b.b2+256*(b.b3+256*(b.b4+256*(b.b5+256*(b.b6+256*(b.b7+256*(b.b8+256*(b.b9+256*(b.b10+256*(b.b11+256*(b.b12+256*(b.b13+256*(b.b14+256*(b.b15
 +256*(b.b16+256*(b.b17+256*(b.b18+256*(b.b19+256*(b.b20+256*(b.b21+256*(b.b22+256*(b.b23+256*(b.b24+256*(b.b25+256*(b.b26+256*(b.b27+256*(b.b28+256*(b.b29+256*(b.b30+256*b.b31))))))))))))))))))))))))))))))
theorem stepW {acc x:Int} (h0:0≤acc) (h1:acc<72057594037927936) (hx:Byte x):orU (shlU acc 8) (IntKind.u64.wrap x)=acc*256+x:=by
 obtain⟨x0,x1⟩:=hx
 rw[xJ,wrap64]
 rw[kC 8 _ _ (by omega) (by omega) (by omega) (by omega) (by omega) (by omega)]
 omega
def lS (b:B32) (k:Nat):Int:=(((((((b.at (k+7))*256+b.at (k+6))*256+b.at (k+5))*256+b.at (k+4))*256+b.at (k+3))*256+b.at (k+2))*256+b.at (k+1))*256+b.at (k+0)
theorem vM (b:B32) (k:Nat) (h:BOk b):word8 b k=lS b k:=by
 have h7:=h (k+7)
 have h6:=h (k+6)
 have h5:=h (k+5)
 have h4:=h (k+4)
 have h3:=h (k+3)
 have h2:=h (k+2)
 have h1:=h (k+1)
 have h0:=h (k+0)
 unfold Byte at*
 unfold word8 lS
 simp only
 rw[stepW (by omega) (by omega) h7,stepW (by omega) (by omega) h6,stepW (by omega) (by omega) h5,stepW (by omega) (by omega) h4,stepW (by omega) (by omega) h3,stepW (by omega) (by omega) h2,stepW (by omega) (by omega) h1,stepW (by omega) (by omega) h0]
 omega
theorem limb0 (b0 b1 b2 b3 b4 b5 b6 b7:Int) (hb0:0≤b0∧b0<256) (hb1:0≤b1∧b1<256) (hb2:0≤b2∧b2<256) (hb3:0≤b3∧b3<256) (hb4:0≤b4∧b4<256) (hb5:0≤b5∧b5<256) (hb6:0≤b6∧b6<256) (hb7:0≤b7∧b7<256):(((((((((b7)*256+b6)*256+b5)*256+b4)*256+b3)*256+b2)*256+b1)*256+b0)/1)%2251799813685248=b0+256*b1+65536*b2+16777216*b3+4294967296*b4+1099511627776*b5+281474976710656*(b6%8):=by
 omega
theorem limb1 (b6 b7 b8 b9 b10 b11 b12 b13:Int) (hb6:0≤b6∧b6<256) (hb7:0≤b7∧b7<256) (hb8:0≤b8∧b8<256) (hb9:0≤b9∧b9<256) (hb10:0≤b10∧b10<256) (hb11:0≤b11∧b11<256) (hb12:0≤b12∧b12<256) (hb13:0≤b13∧b13<256):(((((((((b13)*256+b12)*256+b11)*256+b10)*256+b9)*256+b8)*256+b7)*256+b6)/8)%2251799813685248=b6/8+32*b7+8192*b8+2097152*b9+536870912*b10+137438953472*b11+35184372088832*(b12%64):=by
 omega
theorem limb2 (b12 b13 b14 b15 b16 b17 b18 b19:Int) (hb12:0≤b12∧b12<256) (hb13:0≤b13∧b13<256) (hb14:0≤b14∧b14<256) (hb15:0≤b15∧b15<256) (hb16:0≤b16∧b16<256) (hb17:0≤b17∧b17<256) (hb18:0≤b18∧b18<256) (hb19:0≤b19∧b19<256):(((((((((b19)*256+b18)*256+b17)*256+b16)*256+b15)*256+b14)*256+b13)*256+b12)/64)%2251799813685248=b12/64+4*b13+1024*b14+262144*b15+67108864*b16+17179869184*b17+4398046511104*b18+1125899906842624*(b19%2):=by
 omega
theorem limb3 (b19 b20 b21 b22 b23 b24 b25 b26:Int) (hb19:0≤b19∧b19<256) (hb20:0≤b20∧b20<256) (hb21:0≤b21∧b21<256) (hb22:0≤b22∧b22<256) (hb23:0≤b23∧b23<256) (hb24:0≤b24∧b24<256) (hb25:0≤b25∧b25<256) (hb26:0≤b26∧b26<256):(((((((((b26)*256+b25)*256+b24)*256+b23)*256+b22)*256+b21)*256+b20)*256+b19)/2)%2251799813685248=b19/2+128*b20+32768*b21+8388608*b22+2147483648*b23+549755813888*b24+140737488355328*(b25%16):=by
 omega
theorem limb4 (b24 b25 b26 b27 b28 b29 b30 b31:Int) (hb24:0≤b24∧b24<256) (hb25:0≤b25∧b25<256) (hb26:0≤b26∧b26<256) (hb27:0≤b27∧b27<256) (hb28:0≤b28∧b28<256) (hb29:0≤b29∧b29<256) (hb30:0≤b30∧b30<256) (hb31:0≤b31∧b31<256):(((((((((b31)*256+b30)*256+b29)*256+b28)*256+b27)*256+b26)*256+b25)*256+b24)/4096)%2251799813685248=b25/16+16*b26+4096*b27+1048576*b28+268435456*b29+68719476736*b30+17592186044416*(b31%128):=by
 omega
theorem limb0' (x y:Int) (hx:0≤x∧x<2251799813685248) (hy:0≤y∧y<256):aT x (aG 19 (y/128%18446744073709551616))=x+19*(y/128):=by
 rw[nW,nQ]
 have:y/128%18446744073709551616=y/128:=by omega
 rw[this]
 have:19*(y/128)%18446744073709551616=19*(y/128):=by omega
 rw[this]
 omega
theorem of_lim (b:B32) (h:BOk b):Lim (ofF b)∧V (ofF b)=VB b-(b.b31/128)*pP:=by
 unfold ofF
 rw[vM b 0 h,vM b 6 h,vM b 12 h,vM b 19 h,vM b 24 h]
 have hb:∀i,Byte (b.at i):=h
 have k0:0≤b.b0∧b.b0<256:=hb 0
 have k1:0≤b.b1∧b.b1<256:=hb 1
 have k2:0≤b.b2∧b.b2<256:=hb 2
 have k3:0≤b.b3∧b.b3<256:=hb 3
 have k4:0≤b.b4∧b.b4<256:=hb 4
 have k5:0≤b.b5∧b.b5<256:=hb 5
 have k6:0≤b.b6∧b.b6<256:=hb 6
 have k7:0≤b.b7∧b.b7<256:=hb 7
 have k8:0≤b.b8∧b.b8<256:=hb 8
 have k9:0≤b.b9∧b.b9<256:=hb 9
 have k10:0≤b.b10∧b.b10<256:=hb 10
 have k11:0≤b.b11∧b.b11<256:=hb 11
 have k12:0≤b.b12∧b.b12<256:=hb 12
 have k13:0≤b.b13∧b.b13<256:=hb 13
 have k14:0≤b.b14∧b.b14<256:=hb 14
 have k15:0≤b.b15∧b.b15<256:=hb 15
 have k16:0≤b.b16∧b.b16<256:=hb 16
 have k17:0≤b.b17∧b.b17<256:=hb 17
 have k18:0≤b.b18∧b.b18<256:=hb 18
 have k19:0≤b.b19∧b.b19<256:=hb 19
 have k20:0≤b.b20∧b.b20<256:=hb 20
 have k21:0≤b.b21∧b.b21<256:=hb 21
 have k22:0≤b.b22∧b.b22<256:=hb 22
 have k23:0≤b.b23∧b.b23<256:=hb 23
 have k24:0≤b.b24∧b.b24<256:=hb 24
 have k25:0≤b.b25∧b.b25<256:=hb 25
 have k26:0≤b.b26∧b.b26<256:=hb 26
 have k27:0≤b.b27∧b.b27<256:=hb 27
 have k28:0≤b.b28∧b.b28<256:=hb 28
 have k29:0≤b.b29∧b.b29<256:=hb 29
 have k30:0≤b.b30∧b.b30<256:=hb 30
 have k31:0≤b.b31∧b.b31<256:=hb 31
 have e0:lS b 0=(((((((b.b7)*256+b.b6)*256+b.b5)*256+b.b4)*256+b.b3)*256+b.b2)*256+b.b1)*256+b.b0:=rfl
 have e6:lS b 6=(((((((b.b13)*256+b.b12)*256+b.b11)*256+b.b10)*256+b.b9)*256+b.b8)*256+b.b7)*256+b.b6:=rfl
 have e12:lS b 12=(((((((b.b19)*256+b.b18)*256+b.b17)*256+b.b16)*256+b.b15)*256+b.b14)*256+b.b13)*256+b.b12:=rfl
 have e19:lS b 19=(((((((b.b26)*256+b.b25)*256+b.b24)*256+b.b23)*256+b.b22)*256+b.b21)*256+b.b20)*256+b.b19:=rfl
 have e24:lS b 24=(((((((b.b31)*256+b.b30)*256+b.b29)*256+b.b28)*256+b.b27)*256+b.b26)*256+b.b25)*256+b.b24:=rfl
 have i0:0≤lS b 0∧lS b 0<18446744073709551616:=by omega
 have i6:0≤lS b 6∧lS b 6<18446744073709551616:=by omega
 have i12:0≤lS b 12∧lS b 12<18446744073709551616:=by omega
 have i19:0≤lS b 19∧lS b 19<18446744073709551616:=by omega
 have i24:0≤lS b 24∧lS b 24<18446744073709551616:=by omega
 have f7:b.b31.fdiv (2^7)=b.b31/128:=Int.fdiv_eq_ediv_of_nonneg _ (by decide)
 simp only[mh,wrap64,f7]
 rw[nM _ i0.1 i0.2,nM _ (by omega) (by omega),nM _ (by omega) (by omega),nM _ (by omega) (by omega),nM _ (by omega) (by omega)]
 rw[←Int.ediv_one (lS b 0),e0,e6,e12,e19,e24]
 have q1:(2:Int)^3=8:=by decide
 have q2:(2:Int)^6=64:=by decide
 have q3:(2:Int)^1=2:=by decide
 have q4:(2:Int)^12=4096:=by decide
 rw[q1,q2,q3,q4,limb0 _ _ _ _ _ _ _ _ k0 k1 k2 k3 k4 k5 k6 k7,limb1 _ _ _ _ _ _ _ _ k6 k7 k8 k9 k10 k11 k12 k13,limb2 _ _ _ _ _ _ _ _ k12 k13 k14 k15 k16 k17 k18 k19,limb3 _ _ _ _ _ _ _ _ k19 k20 k21 k22 k23 k24 k25 k26,limb4 _ _ _ _ _ _ _ _ k24 k25 k26 k27 k28 k29 k30 k31]
 clear e0 e6 e12 e19 e24 i0 i6 i12 i19 i24 f7 q1 q2 q3 q4
 rw[limb0' _ _ ⟨by omega,by omega⟩ k31]
 constructor
 ·refine⟨⟨?_,?_⟩,⟨?_,?_⟩,⟨?_,?_⟩,⟨?_,?_⟩,⟨?_,?_⟩⟩<;>simp only<;>omega
 ·unfold V VB pP
  simp only
  omega
theorem ko (a b:Int):orU a b=orU b a:=by
 unfold orU bits
 simp only
 rw[BitVec.or_comm]
def Lim51 (e:E5):Prop:=(0≤e.l0∧e.l0<2251799813685248)∧(0≤e.l1∧e.l1<2251799813685248)∧(0≤e.l2∧e.l2<2251799813685248)∧(0≤e.l3∧e.l3<2251799813685248)∧(0≤e.l4∧e.l4<2251799813685248)
theorem mod_unique {a b q:Int} (h:b=a-q*pP) (h0:0≤b) (h1:b<pP):b=a%pP:=by
 rw[←mW h,Int.emod_eq_of_lt h0 h1]
def least1 (e:E5):E5:=
 let q:=eB (aT e.l4 (eB (aT e.l3 (eB (aT e.l2 (eB (aT e.l1 (eB (aT e.l0 19) 51)) 51)) 51)) 51)) 51
 let a0:=aT e.l0 (aG 19 q)
 let a1:=aT e.l1 (eB a0 51)
 let a2:=aT e.l2 (eB a1 51)
 let a3:=aT e.l3 (eB a2 51)
 let a4:=aT e.l4 (eB a3 51)
 ⟨gu a0 m51,gu a1 m51,gu a2 m51,gu a3 m51,gu a4 m51⟩
theorem kL {a b:Int} (ha:0≤a) (hb:0≤b) (h:a+b<18446744073709551616):aT a b=a+b:=by
 rw[nW];omega
theorem shr51 (a:Int):eB a 51=a/2251799813685248:=by rw[mh];rfl
theorem least1_val (e:E5) (h:(0≤e.l0∧e.l0<2251799813685248+19)∧(0≤e.l1∧e.l1≤2251799813685248)∧(0≤e.l2∧e.l2≤2251799813685248)∧(0≤e.l3∧e.l3≤2251799813685248)∧(0≤e.l4∧e.l4≤2251799813685248)):
  Lim51 (least1 e)∧V (least1 e)=V e%pP:=by
 obtain⟨⟨a0,a1⟩,⟨b0,b1⟩,⟨c0,c1⟩,⟨d0,d1⟩,⟨f0,f1⟩⟩:=h
 obtain⟨l0,l1,l2,l3,l4⟩:=e
 simp only at*
 unfold least1
 simp only[shr51]
 rw[kL (a:=l0) (b:=19) a0 (by decide) (by omega)]
 generalize ht0:(l0+19)/2251799813685248=t0
 have k0:0≤t0∧t0≤1:=by omega
 rw[kL (a:=l1) (b:=t0) b0 k0.1 (by omega)]
 generalize ht1:(l1+t0)/2251799813685248=t1
 have k1:0≤t1∧t1≤1:=by omega
 rw[kL (a:=l2) (b:=t1) c0 k1.1 (by omega)]
 generalize ht2:(l2+t1)/2251799813685248=t2
 have k2:0≤t2∧t2≤1:=by omega
 rw[kL (a:=l3) (b:=t2) d0 k2.1 (by omega)]
 generalize ht3:(l3+t2)/2251799813685248=t3
 have k3:0≤t3∧t3≤1:=by omega
 rw[kL (a:=l4) (b:=t3) f0 k3.1 (by omega)]
 generalize hq:(l4+t3)/2251799813685248=q
 have kq:0≤q∧q≤1:=by omega
 have m19:aG 19 q=19*q:=by rw[nQ];omega
 rw[m19,kL (a:=l0) (b:=19*q) a0 (by omega) (by omega)]
 generalize hs0:(l0+19*q)/2251799813685248=s0
 have j0:0≤s0∧s0≤1:=by omega
 rw[kL (a:=l1) (b:=s0) b0 j0.1 (by omega)]
 generalize hs1:(l1+s0)/2251799813685248=s1
 have j1:0≤s1∧s1≤1:=by omega
 rw[kL (a:=l2) (b:=s1) c0 j1.1 (by omega)]
 generalize hs2:(l2+s1)/2251799813685248=s2
 have j2:0≤s2∧s2≤1:=by omega
 rw[kL (a:=l3) (b:=s2) d0 j2.1 (by omega)]
 generalize hs3:(l3+s2)/2251799813685248=s3
 have j3:0≤s3∧s3≤1:=by omega
 rw[kL (a:=l4) (b:=s3) f0 j3.1 (by omega)]
 rw[nM _ (by omega) (by omega),nM _ (by omega) (by omega),nM _ (by omega) (by omega),nM _ (by omega) (by omega),nM _ (by omega) (by omega)]
 have hs4:(l4+s3)/2251799813685248=q:=by
  rcases(by omega:q=0∨q=1) with h | h
  ·subst h
   have g3:s3≤t3:=by
    have g0:s0≤t0:=by omega
    have g1:s1≤t1:=by omega
    have g2:s2≤t2:=by omega
    omega
   omega
  ·subst h
   have g0:s0=t0:=by omega
   have g1:s1=t1:=by rw[←hs1,←ht1,g0]
   have g2:s2=t2:=by rw[←hs2,←ht2,g1]
   have g3:s3=t3:=by rw[←hs3,←ht3,g2]
   omega
 have r0:(l0+19*q)%2251799813685248=l0+19*q-2251799813685248*s0:=by omega
 have r1:(l1+s0)%2251799813685248=l1+s0-2251799813685248*s1:=by omega
 have r2:(l2+s1)%2251799813685248=l2+s1-2251799813685248*s2:=by omega
 have r3:(l3+s2)%2251799813685248=l3+s2-2251799813685248*s3:=by omega
 have r4:(l4+s3)%2251799813685248=l4+s3-2251799813685248*q:=by omega
 rw[r0,r1,r2,r3,r4]
 have w0:l0+19*q-2251799813685248*s0<2251799813685248∧0≤l0+19*q-2251799813685248*s0:=by omega
 have w1:l1+s0-2251799813685248*s1<2251799813685248∧0≤l1+s0-2251799813685248*s1:=by omega
 have w2:l2+s1-2251799813685248*s2<2251799813685248∧0≤l2+s1-2251799813685248*s2:=by omega
 have w3:l3+s2-2251799813685248*s3<2251799813685248∧0≤l3+s2-2251799813685248*s3:=by omega
 have w4:l4+s3-2251799813685248*q<2251799813685248∧0≤l4+s3-2251799813685248*q:=by omega
 refine⟨⟨⟨w0.2,w0.1⟩,⟨w1.2,w1.1⟩,⟨w2.2,w2.1⟩,⟨w3.2,w3.1⟩,⟨w4.2,w4.1⟩⟩,?_⟩
 refine mod_unique (q:=q) ?_ ?_ ?_
 ·unfold V pP;simp only;omega
 ·unfold V;simp only;omega
 ·unfold V pP
  simp only
  rcases(by omega:q=0∨q=1) with h | h
  ·subst h
   have u0:l0+19<2251799813685248*(t0+1):=by omega
   have u1:l1+t0<2251799813685248*(t1+1):=by omega
   have u2:l2+t1<2251799813685248*(t2+1):=by omega
   have u3:l3+t2<2251799813685248*(t3+1):=by omega
   have u4:l4+t3<2251799813685248:=by omega
   clear hs0 hs1 hs2 hs3 hs4 ht0 ht1 ht2 ht3 hq r0 r1 r2 r3 r4 w0 w1 w2 w3 w4 m19
   omega
  ·subst h
   clear hs0 hs1 hs2 hs3 hs4 ht0 ht1 ht2 ht3 hq r0 r1 r2 r3 r4 w0 w1 w2 w3 w4 m19
   omega
theorem least_val (e:E5) (h:Words e):Lim51 (leastF e)∧V (leastF e)=V e%pP:=by
 have h1:=uD e h
 have hl:leastF e=least1 (jo (jo e)):=rfl
 have hv:V (jo (jo e))%pP=V e%pP:=by
  rw[mW (rz _ h1.words),mW (rz _ h)]
 rw[hl,←hv]
 refine least1_val _ ?_
 rw[zi _ h1.words]
 obtain⟨⟨a0,a1⟩,⟨b0,b1⟩,⟨c0,c1⟩,⟨d0,d1⟩,⟨f0,f1⟩⟩:=h1
 simp only
 refine⟨⟨?_,?_⟩,⟨?_,?_⟩,⟨?_,?_⟩,⟨?_,?_⟩,⟨?_,?_⟩⟩<;>omega
def N4V (w:N4):Int:=w.l0+18446744073709551616*w.l1+340282366920938463463374607431768211456*w.l2+6277101735386680763835789423207666416102355444464034512896*w.l3
def aj (w:N4):Prop:=Word w.l0∧Word w.l1∧Word w.l2∧Word w.l3
theorem words_val (e:E5) (h:Lim51 e):aj (wordsF e)∧N4V (wordsF e)=V e:=by
 obtain⟨⟨a0,a1⟩,⟨b0,b1⟩,⟨c0,c1⟩,⟨d0,d1⟩,⟨f0,f1⟩⟩:=h
 unfold wordsF
 simp only[xJ,mh]
 have w0:orU e.l0 (e.l1*2^51%18446744073709551616)=e.l0+2251799813685248*(e.l1%8192):=by
  rw[ko,kC 51 _ _ (by omega) (by omega) (by omega) (by omega) (by omega) (by omega)];omega
 have w1:orU (e.l1/2^13) (e.l2*2^38%18446744073709551616)=e.l1/8192+274877906944*(e.l2%67108864):=by
  rw[ko,kC 38 _ _ (by omega) (by omega) (by omega) (by omega) (by omega) (by omega)];omega
 have w2:orU (e.l2/2^26) (e.l3*2^25%18446744073709551616)=e.l2/67108864+33554432*(e.l3%549755813888):=by
  rw[ko,kC 25 _ _ (by omega) (by omega) (by omega) (by omega) (by omega) (by omega)];omega
 have w3:orU (e.l3/2^39) (e.l4*2^12%18446744073709551616)=e.l3/549755813888+4096*e.l4:=by
  rw[ko,kC 12 _ _ (by omega) (by omega) (by omega) (by omega) (by omega) (by omega)];omega
 rw[w0,w1,w2,w3]
 clear w0 w1 w2 w3
 refine⟨⟨⟨?_,?_⟩,⟨?_,?_⟩,⟨?_,?_⟩,⟨?_,?_⟩⟩,?_⟩
 any_goals (simp only;omega)
 unfold V N4V
 simp only
 omega
theorem byteOf_ok (w:Int) (j:Nat):Byte (byteOf w j):=by
 unfold byteOf
 rw[IntKind.wrap_u8]
 exact⟨by omega,by omega⟩
theorem bytes8 (w:Int) (h:Word w):byteOf w 0+256*(byteOf w 1+256*(byteOf w 2+256*(byteOf w 3+256*(byteOf w 4+256*(byteOf w 5+256*(byteOf w 6+256*byteOf w 7))))))=w:=by
 obtain⟨h0,h1⟩:=h
 unfold byteOf
 simp only[IntKind.wrap_u8,mh]
 omega
theorem wZ (w:N4):BOk (fO w):=by
 intro i
 unfold B32.at fO
 split<;>exact byteOf_ok _ _
theorem vF (w:N4) (h:aj w):VB (fO w)=N4V w:=by
 obtain⟨h0,h1,h2,h3⟩:=h
 have k0:=bytes8 _ h0
 have k1:=bytes8 _ h1
 have k2:=bytes8 _ h2
 have k3:=bytes8 _ h3
 unfold VB fO N4V
 simp only
 omega
theorem bytes_val (e:E5) (h:Words e):BOk (gF e)∧VB (gF e)=V e%pP:=by
 obtain⟨h1,h2⟩:=least_val e h
 obtain⟨h3,h4⟩:=words_val _ h1
 refine⟨wZ _,?_⟩
 unfold gF
 rw[vF _ h3,h4,h2]
theorem vB (a b n:Int):a*(b%n)%n=a*b%n:=by rw[Int.mul_emod,Int.emod_emod,←Int.mul_emod]
theorem mV (a b n:Int):a%n*b%n=a*b%n:=by rw[Int.mul_emod,Int.emod_emod,←Int.mul_emod]
theorem eqI_iff:∀(a b:List Int),a.length=b.length→(eqI a b=true↔a=b)
 | [],[],_=>by simp[eqI]
 | x::xs,y::ys,h=>by
  have:=eqI_iff xs ys (by simpa using h)
  simp[eqI,this]
 | [],y::ys,h=>by simp at h
 | x::xs,[],h=>by simp at h
theorem rZ (a b:B32):eqB a b=true↔a=b:=by
 unfold eqB
 rw[eqI_iff a.to b.to rfl]
 constructor
 ·intro h
  obtain⟨a0,a1,a2,a3,a4,a5,a6,a7,a8,a9,a10,a11,a12,a13,a14,a15,a16,a17,a18,a19,a20,a21,a22,a23,a24,a25,a26,a27,a28,a29,a30,a31⟩:=a
  obtain⟨b0,b1,b2,b3,b4,b5,b6,b7,b8,b9,b10,b11,b12,b13,b14,b15,b16,b17,b18,b19,b20,b21,b22,b23,b24,b25,b26,b27,b28,b29,b30,b31⟩:=b
  simp only[B32.to,List.cons.injEq,and_true] at h
  simp only[B32.mk.injEq]
  exact h
 ·rintro rfl;rfl
theorem dV {x y a b:Int} (hx:Byte x) (hy:Byte y) (h:x+256*a=y+256*b):x=y∧a=b:=by
 unfold Byte at*
 omega
theorem VB_inj (a b:B32) (ha:BOk a) (hb:BOk b) (h:VB a=VB b):a=b:=by
 unfold VB at h
 obtain⟨e0,h⟩:=dV (ha 0) (hb 0) h
 obtain⟨e1,h⟩:=dV (ha 1) (hb 1) h
 obtain⟨e2,h⟩:=dV (ha 2) (hb 2) h
 obtain⟨e3,h⟩:=dV (ha 3) (hb 3) h
 obtain⟨e4,h⟩:=dV (ha 4) (hb 4) h
 obtain⟨e5,h⟩:=dV (ha 5) (hb 5) h
 obtain⟨e6,h⟩:=dV (ha 6) (hb 6) h
 obtain⟨e7,h⟩:=dV (ha 7) (hb 7) h
 obtain⟨e8,h⟩:=dV (ha 8) (hb 8) h
 obtain⟨e9,h⟩:=dV (ha 9) (hb 9) h
 obtain⟨e10,h⟩:=dV (ha 10) (hb 10) h
 obtain⟨e11,h⟩:=dV (ha 11) (hb 11) h
 obtain⟨e12,h⟩:=dV (ha 12) (hb 12) h
 obtain⟨e13,h⟩:=dV (ha 13) (hb 13) h
 obtain⟨e14,h⟩:=dV (ha 14) (hb 14) h
 obtain⟨e15,h⟩:=dV (ha 15) (hb 15) h
 obtain⟨e16,h⟩:=dV (ha 16) (hb 16) h
 obtain⟨e17,h⟩:=dV (ha 17) (hb 17) h
 obtain⟨e18,h⟩:=dV (ha 18) (hb 18) h
 obtain⟨e19,h⟩:=dV (ha 19) (hb 19) h
 obtain⟨e20,h⟩:=dV (ha 20) (hb 20) h
 obtain⟨e21,h⟩:=dV (ha 21) (hb 21) h
 obtain⟨e22,h⟩:=dV (ha 22) (hb 22) h
 obtain⟨e23,h⟩:=dV (ha 23) (hb 23) h
 obtain⟨e24,h⟩:=dV (ha 24) (hb 24) h
 obtain⟨e25,h⟩:=dV (ha 25) (hb 25) h
 obtain⟨e26,h⟩:=dV (ha 26) (hb 26) h
 obtain⟨e27,h⟩:=dV (ha 27) (hb 27) h
 obtain⟨e28,h⟩:=dV (ha 28) (hb 28) h
 obtain⟨e29,h⟩:=dV (ha 29) (hb 29) h
 obtain⟨e30,h⟩:=dV (ha 30) (hb 30) h
 obtain⟨a0,a1,a2,a3,a4,a5,a6,a7,a8,a9,a10,a11,a12,a13,a14,a15,a16,a17,a18,a19,a20,a21,a22,a23,a24,a25,a26,a27,a28,a29,a30,a31⟩:=a
 obtain⟨b0,b1,b2,b3,b4,b5,b6,b7,b8,b9,b10,b11,b12,b13,b14,b15,b16,b17,b18,b19,b20,b21,b22,b23,b24,b25,b26,b27,b28,b29,b30,b31⟩:=b
 simp only[B32.mk.injEq]
 exact⟨e0,e1,e2,e3,e4,e5,e6,e7,e8,e9,e10,e11,e12,e13,e14,e15,e16,e17,e18,e19,e20,e21,e22,e23,e24,e25,e26,e27,e28,e29,e30,h⟩
theorem eqB_val {a b:B32} (ha:BOk a) (hb:BOk b) (h:VB a=VB b):eqB a b=true:=(rZ a b).2 (VB_inj a b ha hb h)
theorem numB_ok (n:Int) (h:Byte n):BOk (numB n):=by
 intro i
 unfold B32.at numB
 split<;>first | exact h | exact(⟨by decide,by decide⟩:Byte 0)
theorem numB_val (n:Int):VB (numB n)=n:=by unfold VB numB;simp only;omega
structure Is (e:E5) (n:Int):Prop where
 lim:Lim e
 val:V e%pP=n%pP
theorem Is.of {b:B32} (h:BOk b):Is (ofF b) (VB b):=by
 obtain⟨h1,h2⟩:=of_lim b h
 exact⟨h1,by rw[h2,Int.sub_mul_emod_self_right]⟩
theorem Is.plus {e f:E5} {n m:Int} (he:Is e n) (hf:Is f m):Is (mU e f) (n+m):=by
 obtain⟨h1,h2⟩:=plus_lim e f he.lim hf.lim
 exact⟨h1,by rw[h2,Int.add_emod,he.val,hf.val,←Int.add_emod]⟩
theorem Is.minus {e f:E5} {n m:Int} (he:Is e n) (hf:Is f m):Is (jE e f) (n-m):=by
 obtain⟨h1,h2⟩:=minus_lim e f he.lim hf.lim
 exact⟨h1,by rw[h2,Int.sub_emod,he.val,hf.val,←Int.sub_emod]⟩
theorem Is.times {e f:E5} {n m:Int} (he:Is e n) (hf:Is f m):Is (bJ e f) (n*m):=by
 obtain⟨h1,h2⟩:=times_lim e f he.lim hf.lim
 exact⟨h1,by rw[h2,Int.mul_emod,he.val,hf.val,←Int.mul_emod]⟩
theorem Is.bytes {e:E5} {n:Int} (h:Is e n):BOk (gF e)∧VB (gF e)=n%pP:=by
 obtain⟨h1,h2⟩:=bytes_val e h.lim.words
 exact⟨h1,by rw[h2,h.val]⟩
open Go Go.Eng Go.RowKit Go.ChangeAt Go.ChangeShapes
theorem b32_of_list:∀(zs:List Int),zs.length=32→(∀z∈zs,(Lit.int .u8 z).wf=true)→∃b:B32,zs=b.to∧BOk b
 | [a0,a1,a2,a3,a4,a5,a6,a7,a8,a9,a10,a11,a12,a13,a14,a15,a16,a17,a18,a19,a20,a21,a22,a23,a24,a25,a26,a27,a28,a29,a30,a31],_,h=>
  ⟨⟨a0,a1,a2,a3,a4,a5,a6,a7,a8,a9,a10,a11,a12,a13,a14,a15,a16,a17,a18,a19,a20,a21,a22,a23,a24,a25,a26,a27,a28,a29,a30,a31⟩,rfl,by
   have h':∀z∈[a0,a1,a2,a3,a4,a5,a6,a7,a8,a9,a10,a11,a12,a13,a14,a15,a16,a17,a18,a19,a20,a21,a22,a23,a24,a25,a26,a27,a28,a29,a30,a31],Byte z:=fun z hz=>by
    have:=h z hz
    simp[Lit.wf,IntKind.min,IntKind.max,IntKind.signed,IntKind.bits] at this
    exact⟨this.1,by omega⟩
   intro i
   unfold B32.at
   split<;>exact h' _ (by simp)⟩
def dA (n:Nat):Prop:=2≤n∧∀m,m∣n→m=1∨m=n
theorem dA.coprime {p a:Nat} (hp:dA p) (h:¬p∣a):Nat.Coprime p a:=by
 have h1:=hp.2 (Nat.gcd p a) (Nat.gcd_dvd_left p a)
 rcases h1 with h1 | h1
 ·exact h1
 ·exact absurd (h1 ▸ Nat.gcd_dvd_right p a) h
theorem dA.dvd_mul {p a b:Nat} (hp:dA p) (h:p∣a*b):p∣a∨p∣b:=by
 by_cases ha:p∣a
 ·exact .inl ha
 ·exact .inr (Nat.Coprime.dvd_of_dvd_mul_left (hp.coprime ha) h)
theorem Af (n:Nat) (h:2≤n):∃p,dA p∧p∣n:=by
 induction n using Nat.strongRecOn with
 | _ n ih=>
  by_cases hp:dA n
  ·exact⟨n,hp,Nat.dvd_refl n⟩
  ·have:∃m,m∣n∧m≠1∧m≠n:=by
    apply Classical.byContradiction
    intro hc
    apply hp
    refine⟨h,fun m hm=> ?_⟩
    apply Classical.byContradiction
    intro h2
    exact hc ⟨m,hm,fun e=>h2 (.inl e),fun e=>h2 (.inr e)⟩
   obtain⟨m,hm,h1,h2⟩:=this
   have hle:=Nat.le_of_dvd (by omega) hm
   have h0:m≠0:=by rintro rfl;have:=Nat.eq_zero_of_zero_dvd hm;omega
   obtain⟨p,q1,q2⟩:=ih m (by omega) (by omega)
   exact⟨p,q1,Nat.dvd_trans q2 hm⟩
theorem AJ:∀(l' l:List Nat),l'.Nodup→(∀x∈l',x∈l)→l.length≤l'.length→l.Perm l'
 | [],l,_,_,h=>by
  have:l=[]:=List.length_eq_zero_iff.1 (by simpa using h)
  rw[this]
 | x::l',l,hn,hs,h=>by
  have hx:x∈l:=hs x (by simp)
  have h1:=List.perm_cons_erase hx
  refine h1.trans (List.Perm.cons x (AJ l' (l.erase x) (List.nodup_cons.1 hn).2 ?_ ?_))
  ·intro y hy
   have hne:y≠x:=by rintro rfl;exact(List.nodup_cons.1 hn).1 hy
   exact(List.mem_erase_of_ne hne).2 (hs y (by simp[hy]))
  ·rw[List.length_erase_of_mem hx]
   simp at h
   omega
def rC:List Nat→Nat
 | []=>1
 | x::l=>x*rC l
theorem lprod_perm {l l':List Nat} (h:l.Perm l'):rC l=rC l':=by
 induction h with
 | nil=>rfl
 | cons x _ ih=>simp[rC,ih]
 | swap x y l=>simp only[rC];rw[Nat.mul_left_comm]
 | trans _ _ h1 h2=>exact h1.trans h2
theorem lprod_map (r a:Nat):∀l:List Nat,rC (l.map fun i=>a*i%r)%r=a^l.length*rC l%r
 | []=>by simp[rC]
 | x::l=>by
  simp only[List.map_cons,rC,List.length_cons]
  rw[Nat.mul_mod,lprod_map r a l,Nat.mod_mod,←Nat.mul_mod]
  congr 1
  rw[Nat.pow_succ]
  generalize a^l.length=A
  generalize rC l=B
  grind
theorem zy {p:Nat} (hp:dA p):∀l:List Nat,(∀x∈l,¬p∣x)→¬p∣rC l
 | [],_,h=>by
  have:=Nat.le_of_dvd (by decide) h
  have h2:=hp.1
  simp only[rC] at this
  omega
 | x::l,hx,h=>by
  rcases hp.dvd_mul h with h | h
  ·exact hx x (by simp) h
  ·exact zy hp l (fun y hy=>hx y (by simp[hy])) h
theorem mod_eq_dvd {p a b:Nat} (h:a%p=b%p) (hab:b≤a):p∣a-b:=by
 exact Nat.dvd_of_mod_eq_zero (Nat.sub_mod_eq_zero_of_mod_eq h)
theorem cancel {p a b c:Nat} (hp:dA p) (hc:¬p∣c) (h:a*c%p=b*c%p):a%p=b%p:=by
 rcases Nat.le_total b a with hab | hab
 ·have:=mod_eq_dvd h (Nat.mul_le_mul_right c hab)
  rw[←Nat.sub_mul] at this
  rcases hp.dvd_mul this with h' | h'
  ·obtain⟨k,hk⟩:=h'
   have:a=b+p*k:=by omega
   rw[this,Nat.add_mul_mod_self_left]
  ·exact absurd h' hc
 ·have:=mod_eq_dvd h.symm (Nat.mul_le_mul_right c hab)
  rw[←Nat.sub_mul] at this
  rcases hp.dvd_mul this with h' | h'
  ·obtain⟨k,hk⟩:=h'
   have:b=a+p*k:=by omega
   rw[this,Nat.add_mul_mod_self_left]
  ·exact absurd h' hc
theorem fermat {p a:Nat} (hp:dA p) (ha:¬p∣a):a^(p-1)%p=1:=by
 have h2:=hp.1
 have hnot:∀i,i∈List.range' 1 (p-1)→¬p∣i:=fun i hi hd=>by
  rw[List.mem_range'_1] at hi
  have:=Nat.le_of_dvd (by omega) hd
  omega
 have hperm:(List.range' 1 (p-1)).Perm ((List.range' 1 (p-1)).map fun i=>a*i%p):=by
  refine AJ _ _ ?_ ?_ (by simp)
  ·rw[List.nodup_iff_pairwise_ne,List.pairwise_map]
   refine List.Pairwise.imp_of_mem ?_ (List.nodup_iff_pairwise_ne.1 List.nodup_range')
   intro i j hi hj hij he
   have:=cancel hp ha (by rw[Nat.mul_comm i,Nat.mul_comm j];exact he:i*a%p=j*a%p)
   rw[List.mem_range'_1] at hi hj
   rw[Nat.mod_eq_of_lt (by omega),Nat.mod_eq_of_lt (by omega)] at this
   exact hij this
  ·intro x hx
   rw[List.mem_map] at hx
   obtain⟨i,hi,rfl⟩:=hx
   rw[List.mem_range'_1]
   have h0:a*i%p≠0:=fun h=>by
    rcases hp.dvd_mul (Nat.dvd_of_mod_eq_zero h) with h | h
    ·exact ha h
    ·exact hnot i hi h
   have:=Nat.mod_lt (a*i) (by omega:p>0)
   omega
 have h3:=lprod_map p a (List.range' 1 (p-1))
 rw[←lprod_perm hperm,List.length_range'] at h3
 have h4:=cancel (a:=1) (b:=a^(p-1)) hp (zy hp _ hnot) (by rw[Nat.one_mul];exact h3)
 rw[←h4]
 exact Nat.mod_eq_of_lt (by omega)
def powm (n:Nat):Nat→Nat→Nat→Nat
 | 0,a,k=>1%n
 | f+1,a,k=>cond (Nat.beq (k%2) 1) (a*powm n f (a*a%n) (k/2)%n) (powm n f (a*a%n) (k/2))
theorem powm_eq (n:Nat):∀(f a k:Nat),k<2^f→powm n f a k=a^k%n
 | 0,a,k,h=>by
  have:k=0:=by simpa using h
  subst this
  simp[powm]
 | f+1,a,k,h=>by
  have ih:=powm_eq n f (a*a%n) (k/2) (by rw[Nat.pow_succ] at h;omega)
  have h2:(a*a%n)^(k/2)%n=a^(2*(k/2))%n:=by rw[←Nat.pow_mod,Nat.pow_mul,Nat.pow_two]
  unfold powm
  rw[ih,h2]
  cases hb:Nat.beq (k%2) 1
  ·have:k%2≠1:=Nat.ne_of_beq_eq_false hb
   have:2*(k/2)=k:=by omega
   rw[this];rfl
  ·have:k%2=1:=Nat.eq_of_beq_eq_true hb
   have e:2*(k/2)+1=k:=by omega
   show a*(a^(2*(k/2))%n)%n=_
   have e2:a^k=a^(2*(k/2))*a:=by rw[←Nat.pow_succ];exact congrArg (a^ ·) e.symm
   rw[Nat.mul_mod,Nat.mod_mod,←Nat.mul_mod,Nat.mul_comm,e2]
theorem pow_gcd {r b:Nat} (hr:2≤r):∀(x y:Nat),b^x%r=1→b^y%r=1→b^Nat.gcd x y%r=1:=by
 intro x y
 induction x,y using Nat.gcd.induction with
 | H0 y=>intro _ h;rw[Nat.gcd_zero_left];exact h
 | H1 x y hx ih=>
  intro h1 h2
  rw[Nat.gcd_rec]
  refine ih ?_ h1
  have e:b^y=b^(y%x)*(b^x)^(y/x):=by rw[←Nat.pow_mul,←Nat.pow_add,Nat.mod_add_div]
  rw[e,Nat.mul_mod,Nat.pow_mod (b^x),h1,Nat.one_pow,Nat.mod_eq_of_lt (by omega:1<r),Nat.mul_one,Nat.mod_mod] at h2
  exact h2
theorem dvd_pow_self (a:Nat) {m:Nat} (h:m≠0):a∣a^m:=by
 cases m with
 | zero=>exact absurd rfl h
 | succ m=>rw[Nat.pow_succ];exact Nat.dvd_mul_left a (a^m)
theorem pock1 (n q a k:Nat) (hq:dA q) (hn:n=q*k+1) (hp:a^(n-1)%n=1) (hg:Nat.gcd (a^k%n+(n-1)) n=1) (r:Nat) (hr:dA r) (hrn:r∣n):q∣r-1:=by
 have r2:=hr.1
 have h1:a^(n-1)%r=1:=by
  have:a^(n-1)%n%r=a^(n-1)%r:=Nat.mod_mod_of_dvd _ hrn
  rw[←this,hp]
  exact Nat.mod_eq_of_lt (by omega)
 have ha:¬r∣a:=fun h=>by
  have hq0:q≠0:=fun e=>by have:=hq.1;omega
  rcases Nat.eq_zero_or_pos k with hk | hk
  ·subst hk
   have:n=1:=by omega
   subst this
   have:=Nat.le_of_dvd (by decide) hrn
   omega
  have hpos:n-1≠0:=by
   have:=Nat.mul_pos (Nat.pos_of_ne_zero hq0) hk
   omega
  have:=Nat.dvd_trans h (dvd_pow_self a hpos)
  rw[Nat.dvd_iff_mod_eq_zero] at this
  omega
 have hb1:¬a^k%r=1:=fun h=>by
  have hd:r∣a^k%n+(n-1):=by
   have e1:a^k%n%r=1:=by rw[Nat.mod_mod_of_dvd _ hrn];exact h
   obtain⟨t,ht⟩:=hrn
   have htp:1≤t:=by
    rcases Nat.eq_zero_or_pos t with h0 | h0
    ·subst h0;simp at ht;subst ht;simp at hn
    ·exact h0
   have e2:=Nat.div_add_mod (a^k%n) r
   rw[e1] at e2
   have e3:r*1≤r*t:=Nat.mul_le_mul_left r htp
   exact⟨a^k%n/r+t,by rw[Nat.mul_add];omega⟩
  have:=Nat.dvd_gcd hd hrn
  rw[hg] at this
  have:=Nat.le_of_dvd (by decide) this
  omega
 have hbq:(a^k)^q%r=1:=by
  rw[←Nat.pow_mul,Nat.mul_comm k q]
  have:q*k=n-1:=by omega
  rw[this];exact h1
 have hbr:(a^k)^(r-1)%r=1:=fermat hr fun h=>by
  have hk:k≠0:=by rintro rfl;rw[Nat.pow_zero] at h;have:=Nat.le_of_dvd (by decide) h;omega
  have:r∣a:=by
   clear hb1 hbq hg hn
   induction k with
   | zero=>exact absurd rfl hk
   | succ k ih=>
    rw[Nat.pow_succ] at h
    rcases hr.dvd_mul h with h | h
    ·rcases Nat.eq_zero_or_pos k with h0 | h0
     ·subst h0;rw[Nat.pow_zero] at h;have:=Nat.le_of_dvd (by decide) h;omega
     ·exact ih h (by omega)
    ·exact h
  exact ha this
 have hgc:=pow_gcd r2 _ _ hbq hbr
 rcases hq.2 _ (Nat.gcd_dvd_left q (r-1)) with h | h
 ·rw[h,Nat.pow_one] at hgc
  exact absurd hgc hb1
 ·have:=Nat.gcd_dvd_right q (r-1)
  rwa [h] at this
theorem pock (n F:Nat) (hn:2≤n) (hF:n<F*F) (h:∀r,dA r→r∣n→F∣r-1):dA n:=by
 refine⟨hn,fun m hm=> ?_⟩
 apply Classical.byContradiction
 intro hc
 have h1:m≠1:=fun e=>hc (.inl e)
 have h2:m≠n:=fun e=>hc (.inr e)
 obtain⟨t,ht⟩:=hm
 have m0:m≠0:=by rintro rfl;simp at ht;omega
 have t0:t≠0:=by rintro rfl;simp at ht;omega
 have t1:t≠1:=by rintro rfl;simp at ht;omega
 obtain⟨r,hr,hrm⟩:=Af m (by omega)
 obtain⟨s,hs,hst⟩:=Af t (by omega)
 have k1:=Nat.le_of_dvd (by have:=hr.1;omega) (h r hr (ht ▸ Nat.dvd_mul_right_of_dvd hrm t))
 have k2:=Nat.le_of_dvd (by have:=hs.1;omega) (h s hs (ht ▸ Nat.dvd_mul_left_of_dvd hst m))
 have k3:=Nat.le_of_dvd (by omega) hrm
 have k4:=Nat.le_of_dvd (by omega) hst
 have:=Nat.mul_le_mul (by omega:F≤m) (by omega:F≤t)
 omega
def trial (n:Nat):Nat→Bool
 | 0=>true
 | m+1=>cond (Nat.beq (n%(m+2)) 0) false (trial n m)
theorem trial_spec (n:Nat):∀m,trial n m=true→∀d,2≤d→d<m+2→¬d∣n
 | 0,_,d,h1,h2=>by omega
 | m+1,h,d,h1,h2=>by
  unfold trial at h
  cases hb:Nat.beq (n%(m+2)) 0
  ·rw[hb] at h
   by_cases hd:d=m+2
   ·subst hd
    intro hdv
    exact Nat.ne_of_beq_eq_false hb (Nat.mod_eq_zero_of_dvd hdv)
   ·exact trial_spec n m h d h1 (by omega)
  ·rw[hb] at h;cases h
theorem oZ (n m:Nat) (hn:2≤n) (hm:n<(m+2)*(m+2)) (h:trial n m=true):dA n:=by
 refine⟨hn,fun d hd=> ?_⟩
 apply Classical.byContradiction
 intro hc
 have h1:d≠1:=fun e=>hc (.inl e)
 have h2:d≠n:=fun e=>hc (.inr e)
 obtain⟨t,ht⟩:=hd
 have d0:d≠0:=by rintro rfl;simp at ht;omega
 have t0:t≠0:=by rintro rfl;simp at ht;omega
 have t1:t≠1:=by rintro rfl;simp at ht;omega
 have hs:=trial_spec n m h
 by_cases hlt:d<m+2
 ·exact hs d (by omega) hlt ⟨t,ht⟩
 ·by_cases hlt':t<m+2
  ·exact hs t (by omega) hlt' ⟨d,by rw[Nat.mul_comm];exact ht⟩
  ·have:=Nat.mul_le_mul (by omega:m+2≤d) (by omega:m+2≤t)
   omega
theorem cert1 (n q k f:Nat) (hq:dA q) (hn:(n==q*k+1)=true) (hf:Nat.ble n (2^f)=true) (h2:Nat.ble 2 n=true) (hp:Nat.beq (powm n f 2 (n-1)) 1=true) (hg:Nat.beq (Nat.gcd (powm n f 2 k+(n-1)) n) 1=true)
  (r:Nat) (hr:dA r) (hrn:r∣n):q∣r-1:=by
 have hn':n=q*k+1:=by simpa using hn
 have hf':=Nat.le_of_ble_eq_true hf
 have h2':=Nat.le_of_ble_eq_true h2
 have hkn:k<n:=by
  have h3:=hq.1
  have:=Nat.mul_le_mul_right k (by omega:1≤q)
  omega
 have hp':=Nat.eq_of_beq_eq_true hp
 have hg':=Nat.eq_of_beq_eq_true hg
 rw[powm_eq n f 2 (n-1) (by omega)] at hp'
 rw[powm_eq n f 2 k (by omega)] at hg'
 exact pock1 n q 2 k hq hn' hp' hg' r hr hrn
theorem zW (n q k f:Nat) (hq:dA q) (hn:(n==q*k+1)=true) (hf:Nat.ble n (2^f)=true) (h2:Nat.ble 2 n=true) (hp:Nat.beq (powm n f 2 (n-1)) 1=true) (hg:Nat.beq (Nat.gcd (powm n f 2 k+(n-1)) n) 1=true)
  (hF:Nat.blt n (q*q)=true):dA n:=
 pock n q (Nat.le_of_ble_eq_true h2) (Nat.le_of_ble_eq_true hF) fun r hr hrn=>cert1 n q k f hq hn hf h2 hp hg r hr hrn
theorem uI (n q k q' k' f:Nat) (hq:dA q) (hq':dA q') (hne:Nat.beq q q'=false) (hn:(n==q*k+1)=true) (hn':(n==q'*k'+1)=true) (hf:Nat.ble n (2^f)=true) (h2:Nat.ble 2 n=true)
  (hp:Nat.beq (powm n f 2 (n-1)) 1=true) (hg:Nat.beq (Nat.gcd (powm n f 2 k+(n-1)) n) 1=true) (hg':Nat.beq (Nat.gcd (powm n f 2 k'+(n-1)) n) 1=true)
  (hF:Nat.blt n (q*q'*(q*q'))=true):dA n:=
 pock n (q*q') (Nat.le_of_ble_eq_true h2) (Nat.le_of_ble_eq_true hF) fun r hr hrn=>by
  refine Nat.Coprime.mul_dvd_of_dvd_of_dvd (hq.coprime fun hd=> ?_) (cert1 n q k f hq hn hf h2 hp hg r hr hrn) (cert1 n q' k' f hq' hn' hf h2 hp hg' r hr hrn)
  rcases hq'.2 _ hd with e | e
  ·have:=hq.1;omega
  ·exact Nat.ne_of_beq_eq_false hne e
theorem prime991:dA 991:=oZ 991 30 (by decide) (by decide) (by kernel_rfl)
theorem prime103:dA 103:=oZ 103 10 (by decide) (by decide) (by kernel_rfl)
theorem prime127:dA 127:=oZ 127 10 (by decide) (by decide) (by kernel_rfl)
theorem prime569003:dA 569003:=oZ 569003 754 (by decide) (by decide) (by kernel_rfl)
theorem prime430751:dA 430751:=oZ 430751 656 (by decide) (by decide) (by kernel_rfl)
theorem prime4153:dA 4153:=oZ 4153 64 (by decide) (by decide) (by kernel_rfl)
theorem prime8574133:dA 8574133:=uI 8574133 991 8652 103 83244 24 prime991 prime103 (by kernel_rfl) (by kernel_rfl) (by kernel_rfl) (by kernel_rfl) (by kernel_rfl) (by kernel_rfl) (by kernel_rfl) (by kernel_rfl) (by kernel_rfl)
theorem xQ:dA 1919519569386763:=uI 1919519569386763 8574133 223873314 127 15114327318006 51 prime8574133 prime127 (by kernel_rfl) (by kernel_rfl) (by kernel_rfl) (by kernel_rfl) (by kernel_rfl) (by kernel_rfl) (by kernel_rfl) (by kernel_rfl) (by kernel_rfl)
theorem Br:dA 2773320623:=zW 2773320623 569003 4874 32 prime569003 (by kernel_rfl) (by kernel_rfl) (by kernel_rfl) (by kernel_rfl) (by kernel_rfl) (by kernel_rfl)
theorem Bl:dA 72106336199:=zW 72106336199 2773320623 26 37 Br (by kernel_rfl) (by kernel_rfl) (by kernel_rfl) (by kernel_rfl) (by kernel_rfl) (by kernel_rfl)
theorem oD:dA 75445702479781427272750846543864801:=uI 75445702479781427272750846543864801 1919519569386763 39304471641247389600 72106336199 1046311689884858398375200 116 xQ Bl (by kernel_rfl) (by kernel_rfl) (by kernel_rfl) (by kernel_rfl) (by kernel_rfl) (by kernel_rfl) (by kernel_rfl) (by kernel_rfl) (by kernel_rfl)
theorem xA:dA 31757755568855353:=uI 31757755568855353 430751 73726481352 4153 7646943310584 55 prime430751 prime4153 (by kernel_rfl) (by kernel_rfl) (by kernel_rfl) (by kernel_rfl) (by kernel_rfl) (by kernel_rfl) (by kernel_rfl) (by kernel_rfl) (by kernel_rfl)
theorem iA:dA 74058212732561358302231226437062788676166966415465897661863160754340907:=uI 74058212732561358302231226437062788676166966415465897661863160754340907 75445702479781427272750846543864801 981609426360740691344999861639072106 31757755568855353 2331972502653487852620185443007392165117953542933313402 236 oD xA (by kernel_rfl) (by kernel_rfl) (by kernel_rfl) (by kernel_rfl) (by kernel_rfl) (by kernel_rfl) (by kernel_rfl) (by kernel_rfl) (by kernel_rfl)
theorem gQ:dA 57896044618658097711785492504343953926634992332820282019728792003956564819949:=zW 57896044618658097711785492504343953926634992332820282019728792003956564819949 74058212732561358302231226437062788676166966415465897661863160754340907 781764 255 iA (by kernel_rfl) (by kernel_rfl) (by kernel_rfl) (by kernel_rfl) (by kernel_rfl) (by kernel_rfl)
theorem prime_p:dA 57896044618658097711785492504343953926634992332820282019728792003956564819949:=gQ
def pN:Nat:=57896044618658097711785492504343953926634992332820282019728792003956564819949
theorem pN_prime:dA pN:=prime_p
theorem sS:pP=(pN:Int):=by decide
theorem l5 (x n:Int):∀k:Nat,x^k%n=(x%n)^k%n
 | 0=>by rw[Int.pow_zero,Int.pow_zero]
 | k+1=>by rw[Int.pow_succ,Int.pow_succ,←mV,l5 x n k,mV,←vB]
theorem pow_nat (x:Int) (k:Nat):x^k%pP=(((x%pP).toNat^k%pN:Nat):Int):=by
 have h:x%pP=((x%pP).toNat:Int):=(Int.toNat_of_nonneg (Int.emod_nonneg _ (by decide))).symm
 rw[l5,h,←Int.natCast_pow,sS,←Int.natCast_emod]
 rfl
theorem not_dvd {x:Int} (h:x%pP≠0):¬pN∣(x%pP).toNat:=by
 intro hd
 have h0:0≤x%pP:=Int.emod_nonneg _ (by decide)
 have h1:x%pP<pP:=Int.emod_lt_of_pos _ (by decide)
 have h2:(x%pP).toNat<pN:=by have:=sS;omega
 have:=Nat.eq_zero_of_dvd_of_lt hd h2
 omega
theorem fermatP {x:Int} (h:x%pP≠0):x^(pN-1)%pP=1:=by
 rw[pow_nat,fermat pN_prime (not_dvd h)]
 rfl
theorem sV {x y:Int} (h:x*y%pP=0):x%pP=0∨y%pP=0:=by
 by_cases hx:x%pP=0
 ·exact .inl hx
 ·by_cases hy:y%pP=0
  ·exact .inr hy
  ·exfalso
   have e1:x%pP=((x%pP).toNat:Int):=(Int.toNat_of_nonneg (Int.emod_nonneg _ (by decide))).symm
   have e2:y%pP=((y%pP).toNat:Int):=(Int.toNat_of_nonneg (Int.emod_nonneg _ (by decide))).symm
   rw[Int.mul_emod,e1,e2,sS,←Int.natCast_mul,←Int.natCast_emod] at h
   have h':(x%(pN:Int)).toNat*(y%(pN:Int)).toNat%pN=0:=by exact_mod_cast h
   rcases pN_prime.dvd_mul (Nat.dvd_of_mod_eq_zero h') with hd | hd
   ·exact not_dvd hx (by rw[sS];exact hd)
   ·exact not_dvd hy (by rw[sS];exact hd)
theorem Is.self {e:E5} {x:Int} (h:Is e x):Is e (x^1):=by rw[Int.pow_one];exact h
theorem Is.mulPow {e f:E5} {x:Int} {a b:Nat} (he:Is e (x^a)) (hf:Is f (x^b)):Is (bJ e f) (x^(a+b)):=by
 rw[Int.pow_add];exact he.times hf
theorem Is.sq {e:E5} {x:Int} (h:Is e x):∀n:Nat,Is (sqF n e) (x^2^n)
 | 0=>by rw[Nat.pow_zero,Int.pow_one];exact h
 | n+1=>by
  have:=(h.sq n).times (h.sq n)
  rw[←Int.pow_add,←Nat.mul_two,←Nat.pow_succ] at this
  exact this
theorem Is.qG {e:E5} {x:Int} {a:Nat} (h:Is e (x^a)) (n:Nat):Is (sqF n e) (x^(a*2^n)):=by
 rw[Int.pow_mul];exact h.sq n
theorem Is.pow_eq {e:E5} {x:Int} {a b:Nat} (h:Is e (x^a)) (hab:a=b):Is e (x^b):=hab ▸ h
def K250:Nat:=1809251394333065553493296640760748560207343510400633813116524750123642650623
theorem chain_is {e:E5} {x:Int} (h:Is e x):Is (x250F e) (x^K250)∧Is (e11F e) (x^11):=by
 have e1:=h.self
 have e9:Is (e9F e) (x^9):=(((e1.qG 1).qG 2).mulPow e1).pow_eq (by decide)
 have e11:Is (e11F e) (x^11):=(e9.mulPow (e1.qG 1)).pow_eq (by decide)
 have x5:Is (x5F e) (x^31):=((e11.qG 1).mulPow e9).pow_eq (by decide)
 have x10:Is (x10F e) (x^1023):=((x5.qG 5).mulPow x5).pow_eq (by decide)
 have x20:Is (x20F e) (x^1048575):=((x10.qG 10).mulPow x10).pow_eq (by decide)
 have x40:Is (x40F e) (x^1099511627775):=((x20.qG 20).mulPow x20).pow_eq (by decide)
 have x50:Is (x50F e) (x^1125899906842623):=((x40.qG 10).mulPow x10).pow_eq (by decide)
 have x100:Is (x100F e) (x^1267650600228229401496703205375):=((x50.qG 50).mulPow x50).pow_eq (by decide)
 have x200:Is (x200F e) (x^1606938044258990275541962092341162602522202993782792835301375):=((x100.qG 100).mulPow x100).pow_eq (by decide)
 exact⟨((x200.qG 50).mulPow x50).pow_eq (by decide),e11⟩
theorem inv_is {e:E5} {x:Int} (h:Is e x):Is (invF e) (x^(pN-2)):=by
 obtain⟨h1,h2⟩:=chain_is h
 exact((h1.qG 5).mulPow h2).pow_eq (by decide)
def K58:Nat:=7237005577332262213973186563042994240829374041602535252466099000494570602493
theorem pow58_is {e:E5} {x:Int} (h:Is e x):Is (pow58F e) (x^K58):=by
 obtain⟨h1,h2⟩:=chain_is h
 exact((h1.qG 2).mulPow h.self).pow_eq (by decide)
theorem inv_mul {x:Int} (h:x%pP≠0):x*x^(pN-2)%pP=1:=by
 have:x*x^(pN-2)=x^(pN-1):=by
  rw[Int.mul_comm,←Int.pow_succ]
  exact congrArg (x^ ·) (by decide:pN-2+1=pN-1)
 rw[this,fermatP h]
theorem can_of {a:B32} (ha:BOk a) (h:VB a%pP=VB a):canB a=true:=by
 have:=(Is.of ha).bytes
 exact eqB_val this.1 ha (by rw[this.2,h])
theorem eqm {a b:Int}:a%pP=b%pP↔∃k,a=b+k*pP:=by
 constructor
 ·intro h
  refine⟨a/pP-b/pP,?_⟩
  have h1:=Int.mul_ediv_add_emod a pP
  have h2:=Int.mul_ediv_add_emod b pP
  rw[Int.sub_mul,Int.mul_comm (a/pP),Int.mul_comm (b/pP)]
  omega
 ·rintro⟨k,rfl⟩
  rw[Int.add_mul_emod_self_right]
theorem isF_iff {e f:E5} {n m:Int} (he:Is e n) (hf:Is f m):isF e f=true↔n%pP=m%pP:=by
 have h1:=he.bytes
 have h2:=hf.bytes
 unfold isF
 constructor
 ·intro h
  rw[rZ] at h
  rw[←h1.2,h,h2.2]
 ·intro h
  exact eqB_val h1.1 h2.1 (by rw[h1.2,h2.2,h])
theorem VB_par (b:B32) (h:BOk b):b.b0%2=VB b%2:=by
 unfold VB
 omega
theorem oddF_iff {e:E5} {n:Int} (he:Is e n):oddF e=true↔n%pP%2=1:=by
 have h1:=he.bytes
 unfold oddF
 rw[show bits .and .u8 (gF e).b0 1=(gF e).b0%2 from bits_mask .u8 8 (by decide) wraps_u8 1 (by decide) _ (h1.1 0).1 (h1.1 0).2,VB_par _ h1.1,h1.2]
 simp
theorem Is.lit (e:E5) (h:Lim e):Is e (V e):=⟨h,rfl⟩
def Jn:Int:=19681161376707505956807079304988542015446066515923890162744021073123829784752
theorem rootM1_is:Is oW Jn:=⟨by unfold Lim;decide,by decide⟩
theorem Jn_sq:Jn*Jn%pP=(-1)%pP:=by decide
theorem zeroE_is:Is zeroE 0:=⟨by unfold Lim;decide,by decide⟩
theorem oneE_is:Is oneE 1:=⟨by unfold Lim;decide,by decide⟩
theorem sqF1 {e:E5} {x:Int} (h:Is e x):Is (sqF 1 e) (x*x):=by
 have:=h.sq 1
 rw[Nat.pow_one,Int.pow_succ,Int.pow_one] at this
 exact this
def nK (x y:Int):Int:=x*(y*y*y)*(x*(y*y*y*(y*y*y))*y)^K58
theorem ratio0_is {u v:E5} {x y:Int} (hu:Is u x) (hv:Is v y):Is (iQ u v) (nK x y):=by
 have h3:Is (v3F v) (y*y*y):=(sqF1 hv).times hv
 exact(hu.times h3).times (pow58_is ((hu.times (sqF1 h3)).times hv))
theorem root0_sq (x y:Int):y*(nK x y*nK x y)=x*(x*(y*y*y*(y*y*y))*y)^(2*K58+1):=by
 rw[Int.pow_succ,Nat.two_mul,Int.pow_add]
 unfold nK
 generalize (x*(y*y*y*(y*y*y))*y)^K58=T
 grind
theorem sign_of {s:Int} (hs:s%pP≠0):s^(2*(2*K58+1))%pP=1∨s^(2*(2*K58+1))%pP=(-1)%pP:=by
 have h1:=fermatP hs
 rw[show pN-1=2*(2*K58+1)+2*(2*K58+1) from by decide,Int.pow_add] at h1
 generalize s^(2*(2*K58+1))=g at*
 have h2:(g-1)*(g+1)%pP=0:=by
  have e:(g-1)*(g+1)=g*g-1:=by grind
  rw[e,Int.sub_emod,h1]
  decide
 rcases sV h2 with h | h
 ·left
  rw[show(0:Int)=0%pP from by decide,eqm] at h
  obtain⟨k,hk⟩:=h
  rw[show(1:Int)=1%pP from by decide,eqm]
  exact⟨k,by omega⟩
 ·right
  rw[show(0:Int)=0%pP from by decide,eqm] at h
  obtain⟨k,hk⟩:=h
  rw[eqm]
  exact⟨k,by omega⟩
theorem root0_ok {x y r:Int} (hy:y%pP≠0) (hr:y*(r*r)%pP=x%pP):
  y*(nK x y*nK x y)%pP=x%pP∨y*(nK x y*nK x y)%pP=(-x)%pP:=by
 rw[root0_sq]
 by_cases hx:x%pP=0
 ·left
  rw[Int.mul_emod,hx,Int.zero_mul]
  rfl
 ·have hs:r*(y*y*(y*y))%pP≠0:=fun h=>by
   rcases sV h with h | h
   ·apply hx
    rw[←hr,show y*(r*r)=y*r*r from(Int.mul_assoc _ _ _).symm,Int.mul_emod,h,Int.mul_zero]
    rfl
   ·rcases sV h with h | h<;>rcases sV h with h | h<;>exact hy h
  have ht:(x*(y*y*y*(y*y*y))*y)^(2*K58+1)%pP=(r*(y*y*(y*y)))^(2*(2*K58+1))%pP:=by
   rw[Int.pow_mul]
   have e:(x*(y*y*y*(y*y*y))*y)%pP=((r*(y*y*(y*y)))^2)%pP:=by
    rw[eqm] at hr ⊢
    obtain⟨k,hk⟩:=hr
    refine⟨-k*(y*y*y*(y*y*y))*y,?_⟩
    have hx':x=y*(r*r)-k*pP:=by omega
    rw[hx']
    grind
   rw[l5,e,←l5]
  rcases sign_of hs with h | h
  ·left
   rw[←vB,ht,h,Int.mul_one]
  ·right
   rw[←vB,ht,h,vB,Int.mul_neg_one]
theorem neg_par {z:Int} (h:z%pP%2=1):(0-z)%pP%2=0:=by
 have h0:0≤z%pP:=Int.emod_nonneg _ (by decide)
 have h1:z%pP<pP:=Int.emod_lt_of_pos _ (by decide)
 have e:(0-z)%pP=pP-z%pP:=by
  have h2:(0-z)%pP=(pP-z%pP)%pP:=by
   rw[eqm]
   refine⟨-(z/pP)-1,?_⟩
   have:=Int.mul_ediv_add_emod z pP
   rw[Int.sub_mul,Int.neg_mul,Int.mul_comm (z/pP),Int.one_mul]
   omega
  rw[h2]
  exact Int.emod_eq_of_lt (by omega) (by omega)
 have hp:pP%2=1:=by decide
 rw[e]
 omega
theorem ratio_is {u v:E5} {x y:Int} (hu:Is u x) (hv:Is v y):∃z,Is (ratio2 u v) z∧z%pP%2=0∧(jY u v=true↔y*(z*z)%pP=x%pP)∧
  (y%pP≠0→(∃r,y*(r*r)%pP=x%pP)→jY u v=true):=by
 have h0:=ratio0_is hu hv
 have hc:=isF_iff (hv.times (sqF1 h0)) hu
 obtain⟨z1,hz1,hk⟩:∃z1,Is (vV u v) z1∧(y%pP≠0→(∃r,y*(r*r)%pP=x%pP)→y*(z1*z1)%pP=x%pP):=by
  unfold vV
  cases hb:isF (bJ v (sqF 1 (iQ u v))) u with
  | true=>exact⟨_,h0,fun _ _=>hc.1 hb⟩
  | false=>
   refine⟨_,h0.times rootM1_is,fun hy hr=> ?_⟩
   obtain⟨r,hr⟩:=hr
   rcases root0_ok hy hr with h | h
   ·rw[hc.2 h] at hb;cases hb
   ·have e:y*(nK x y*Jn*(nK x y*Jn))=y*(nK x y*nK x y)*(Jn*Jn):=by grind
    rw[e,Int.mul_emod,h,Jn_sq,←Int.mul_emod]
    congr 1
    omega
 have hok:jY u v=true↔y*(z1*z1)%pP=x%pP:=isF_iff (hv.times (sqF1 hz1)) hu
 have ho:=oddF_iff hz1
 have hn:(0-z1)*(0-z1)=z1*z1:=by grind
 unfold ratio2
 cases hb:oddF (vV u v) with
 | true=>
  exact⟨0-z1,zeroE_is.minus hz1,neg_par (ho.1 hb),by rw[hn];exact hok,fun hy hr=>hok.2 (hk hy hr)⟩
 | false=>
  refine⟨z1,hz1,?_,hok,fun hy hr=>hok.2 (hk hy hr)⟩
  have h1:¬z1%pP%2=1:=fun h=>by rw[ho.2 h] at hb;cases hb
  have:=Int.emod_nonneg (z1%pP) (by decide:(2:Int)≠0)
  have:=Int.emod_lt_of_pos (z1%pP) (by decide:(0:Int)<2)
  omega
end Go.Proofs.YthlmepolmemejaaGreatDoor

/- Package sha2: its tables, and words out of bytes. -/
import Derived.Test.YtdccehmekkcheaaDoorCFo
import Derived.Test.YtdccehmekkcheaaDoorCTy
import Derived.Test.YtdccehmekkcheaaDoorCCod2
set_option linter.unusedVariables false
namespace Go.Proofs.YtdccehmekkcheaaDoor.S3
open Go Go.Eng
set_option maxRecDepth 100000
def jI:List Int:=[1116352408,1899447441,3049323471,3921009573,961987163,1508970993,2453635748,2870763221,3624381080,310598401,607225278,1426881987,1925078388,2162078206,2614888103,3248222580,3835390401,4022224774,264347078,604807628,770255983,1249150122,1555081692,1996064986,2554220882,2821834349,2952996808,3210313671,3336571891,3584528711,113926993,338241895,666307205,773529912,1294757372,1396182291,1695183700,1986661051,2177026350,2456956037,2730485921,2820302411,3259730800,3345764771,3516065817,3600352804,4094571909,275423344,430227734,506948616,659060556,883997877,958139571,1322822218,1537002063,1747873779,1955562222,2024104815,2227730452,2361852424,2428436474,2756734187,3204031479,3329325298]
def Gs:Glob:=fun g=>match g with
 | 1=>some (jI.map (aG .u32))
 | _=>none
theorem pair_eta {α β:Type} (x:α × β):(x.1,x.2)=x:=rfl
def fV {α:Type} (f:Nat→α):Nat→List α
 | 0=>[]
 | n+1=>f n::fV f n
def fU {α:Type} (f:Nat→α):Nat→List α
 | 0=>[]
 | n+1=>f n::fU f n
theorem dK {α:Type} {f g:Nat→α}:∀{n:Nat},fV f n=fU g n→∀j,j<n→f j=g j
 | 0,_,j,hj=>by omega
 | n+1,h,j,hj=>by
  simp only[fV,fU,List.cons.injEq] at h
  by_cases hjn:j=n
  ·subst hjn;exact h.1
  ·exact dK h.2 j (by omega)
def wordS (a x:Int):Int:=orU (shlU a 8) (IntKind.u64.wrap x)
def nO (ys:List Int):Nat→Int
 | 0=>0
 | n+1=>wordS (nO ys n) (ys.getD n 0)
def iL (ys:List Int):Int:=nO ys ys.length
namespace sword
noncomputable abbrev fn:=Tryd.f100
noncomputable def body:Code:=d9 fn
noncomputable def A:Code:=cs1 body
noncomputable def B:Code:=cs1 (cs2 body)
noncomputable def C:Code:=cs1 (cs1 (cs2 (cs2 body)))
noncomputable def L:Code:=cL (cB (cs2 (cs1 (cs2 (cs2 body)))))
noncomputable def D:Code:=cs2 (cs2 (cs2 body))
theorem ku:body= .seq A (.seq B (.seq (.seq C (.block 0 (.loop L))) D)):=by kernel_rfl
noncomputable def Γ:Cons Tryd.prog Gs:=[]
def mem (ty:TypeId) (ys:List Int):List Blk:=[⟨false,ty,.pre .u8 ys⟩]
section
variable (ys:List Int) (n:Nat) (ty:TypeId)
def S (i:Nat) (a:Int) (g:Nat→SV):List SV × List Blk:=
 ([.o (.a (.slg 0 n)),g 1,g 2,(aQ .u64).enc a,g 4,g 5,.o (.a (.slg 0 n)),(aQ .i64).enc (n:Int),(aQ .i64).enc (i:Int),g 9,g 10,g 11,g 12,g 13,g 14,g 15,g 16,g 17,g 18],mem ty ys)
def st (i:Nat) (a:Int) (g:Nat→SV) (o:Orc):St:=⟨(S ys n ty i a g).1,(S ys n ty i a g).2,o⟩
noncomputable def s0:St:=⟨aK fn [.o (.a (.slg 0 n))],mem ty ys,[]⟩
noncomputable def s1:St:=outS Γ tys 100 A (s0 ys n ty)
noncomputable def s2:St:=outS Γ tys 100 B (s1 ys n ty)
theorem preA:exec Γ tys 100 A (s0 ys n ty)=some (.normal,⟨(s1 ys n ty).tm,(s1 ys n ty).mem,[]⟩,[]):=by kernel_rfl
theorem preB:exec Γ tys 100 B ⟨(s1 ys n ty).tm,(s1 ys n ty).mem,[]⟩=some (.normal,⟨(s2 ys n ty).tm,(s2 ys n ty).mem,[]⟩,[]):=by kernel_rfl
theorem preC:exec Γ tys 100 C ⟨(s2 ys n ty).tm,(s2 ys n ty).mem,[]⟩=some (.normal,st ys n ty 0 0 (outT Γ tys 100 C (s2 ys n ty)) [],[]):=by kernel_rfl
end
def orc (v i:Int):Orc:=[(9,[true]),(11,[.n v]),(17,[.n i])]
section
variable (ys:List Int) (n:Nat) (ty:TypeId) (i:Nat)
theorem step (a v:Int) (g:Nat→SV):exec Γ tys 100 L (st ys n ty i a g (orc v ((i+1:Nat):Int)))=
  some (.normal,st ys n ty (i+1) (wordS a v) (outT Γ tys 100 L (st ys n ty i a g (orc v ((i+1:Nat):Int)))) [(9,[]),(11,[]),(17,[])],
   [decide ((i:Int)<(n:Int))=true,0≤(i:Int),(i:Int)<(n:Int),0+(i:Int).toNat<ys.length,ys.getD (0+(i:Int).toNat) 0=v,IntKind.i64.wrap ((i:Int)+1)=((i+1:Nat):Int)]):=by kernel_rfl
theorem stop (a:Int) (g:Nat→SV):exec Γ tys 100 L (st ys n ty i a g [(9,[false])])=
  some (.exit 0,st ys n ty i a (outT Γ tys 100 L (st ys n ty i a g [(9,[false])])) [(9,[])],[decide ((i:Int)<(n:Int))=false]):=by kernel_rfl
noncomputable def fin (a:Int) (g:Nat→SV):St:=outS Γ tys 100 D (st ys n ty i a g [])
theorem post (a:Int) (g:Nat→SV):exec Γ tys 100 D (st ys n ty i a g [])=some (.ret,⟨(fin ys n ty i a g).tm,(fin ys n ty i a g).mem,[]⟩,[]):=by kernel_rfl
theorem result (a:Int) (g:Nat→SV):eRes tys (fin ys n ty i a g).tm (fun k=>(fin ys n ty i a g).mem[k]?) fn.results.toList=some [.a (aG .u64 a)]:=by kernel_rfl
end
end sword
section
variable (ys:List Int) (n:Nat) (ty:TypeId)
theorem sword_step (i:Nat) (g:Nat→SV) (hy:ys.length=n) (hn:(n:Int)<9223372036854775807) (hlt:i<n) {Post:Ex→List SV→List Blk→Prop} (hp:∀g',Post .normal (sword.S ys n ty (i+1) (nO ys (i+1)) g').1 (sword.S ys n ty (i+1) (nO ys (i+1)) g').2):aF Tryd.prog Gs 1 sword.L (sword.S ys n ty i (nO ys i) g).1 (sword.S ys n ty i (nO ys i) g).2 Post:=by
 have e0:0+(i:Int).toNat=i:=by omega
 have h1:decide ((i:Int)<(n:Int))=true:=decide_eq_true (by omega)
 have h2:0≤(i:Int):=by omega
 have h3:(i:Int)<(n:Int):=by omega
 have h4:0+(i:Int).toNat<ys.length:=by omega
 have h5:ys.getD (0+(i:Int).toNat) 0=ys.getD i 0:=by rw[e0]
 have h6:IntKind.i64.wrap ((i:Int)+1)=((i+1:Nat):Int):=by rw[IntKind.wrap_i64];omega
 exact Runs.eB aj mixed (sword.step ys n ty i (nO ys i) (ys.getD i 0) g) ⟨h1,h2,h3,h4,h5,h6,trivial⟩ (hp _)
theorem sword_stop (a:Int) (g:Nat→SV) {Post:Ex→List SV→List Blk→Prop} (hp:∀g',Post (.exit 0) (sword.S ys n ty n a g').1 (sword.S ys n ty n a g').2):
  aF Tryd.prog Gs 1 sword.L (sword.S ys n ty n a g).1 (sword.S ys n ty n a g).2 Post:=by
 have h1:decide ((n:Int)<(n:Int))=false:=decide_eq_false (by omega)
 exact Runs.eB aj mixed (sword.stop ys n ty n a g) ⟨h1,trivial⟩ (hp _)
theorem sword_last (a:Int) (g:Nat→SV):aF Tryd.prog Gs 1 sword.D (sword.S ys n ty n a g).1 (sword.S ys n ty n a g).2 (aH tys sword.fn (bJ ((aQ .u64).enc a) .none)):=
 Runs.eB aj mixed (sword.post ys n ty n a g) trivial (aH.ret (sword.result ys n ty n a g) rfl)
theorem sword_loop (hy:ys.length=n) (hn:(n:Int)<9223372036854775807) (g:Nat→SV) {Post:Ex→List SV→List Blk→Prop} (hp:∀g',Post .normal (sword.S ys n ty n (nO ys n) g').1 (sword.S ys n ty n (nO ys n) g').2):
  aF Tryd.prog Gs 1 (.block 0 (.loop sword.L)) (sword.S ys n ty 0 0 g).1 (sword.S ys n ty 0 0 g).2 Post:=by
 refine Runs.block ?_
 refine Runs.loop (fun(x:Nat × (Nat→SV))=>sword.S ys n ty x.1 (nO ys x.1) x.2) (fun x=>x.1≤n) (fun x=>n-x.1) ?_ (0,g) (Nat.zero_le _)
 rintro⟨i,g⟩ hi
 simp only at hi
 by_cases hlt:i<n
 ·exact sword_step ys n ty i g hy hn hlt fun g'=>⟨(i+1,g'),pair_eta _,hlt,by simp only;omega⟩
 ·obtain rfl:i=n:=by omega
  exact sword_stop ys i ty _ g hp
theorem sword_run (hy:ys.length=n) (hn:(n:Int)<9223372036854775807):aF Tryd.prog Gs 1 sword.body (aK sword.fn [.o (.a (.slg 0 n))]) (sword.mem ty ys) (aH tys sword.fn (bJ ((aQ .u64).enc (iL ys)) .none)):=by
 rw[sword.ku]
 refine Runs.seq (Runs.eB aj mixed (sword.preA ys n ty) trivial ?_)
 refine Runs.seq (Runs.eB aj mixed (sword.preB ys n ty) trivial ?_)
 refine Runs.seq (Runs.seq (Runs.eB aj mixed (sword.preC ys n ty) trivial ?_))
 refine sword_loop ys n ty hy hn _ fun g'=> ?_
 have h:=sword_last ys n ty (nO ys n) g'
 have e:iL ys=nO ys n:=by unfold iL;rw[hy]
 rw[e]
 exact h
end
noncomputable def sword_con:Con Tryd.prog Gs:=Con.hand aj 100 Tryd.f100 Tryd.func100 (by kernel_rfl) (c:=sword.body) (by kernel_rfl)
 (Dec.win Tryd.prog .u8 (fun ys=>(aQ .u64).enc (iL ys)) (fun ys=>[(ys.length:Int)<9223372036854775807]) (fun _=>rfl)) (fun x hc hi=>sword_run x.ys x.n x.ty hi (by
  have h:=(aV hc).2.1
  have hi:x.ys.length=x.n:=hi
  rw[←hi];exact h))
def rotL (n:Int):Nat:=(n%32).toNat
def rotF (a k:Int):Int:=bits .or .u32 (IntKind.u32.wrap (a*2^rotL k)) (a.fdiv (2^(32-rotL k)))
def rots:List Int:=[-17,-19,-7,-18,-6,-11,-25,-2,-13,-22]
theorem rot32_fn (a k:Int) (h:k∈rots):dI Tryd.prog Gs 101 [(aQ .u32).enc a,(aQ .i64).enc k] ((aQ .u32).enc (rotF a k)):=by
 unfold rots at h
 simp only[List.mem_cons,List.not_mem_nil,or_false] at h
 rcases h with rfl | rfl | rfl | rfl | rfl | rfl | rfl | rfl | rfl | rfl
 ·exact dI.dO (Γ:=([]:Cons Tryd.prog Gs)) aj mixed Tryd.func101 (n:=100) (orc:=[]) (cs:=[]) (by kernel_rfl) trivial rfl rfl
 ·exact dI.dO (Γ:=([]:Cons Tryd.prog Gs)) aj mixed Tryd.func101 (n:=100) (orc:=[]) (cs:=[]) (by kernel_rfl) trivial rfl rfl
 ·exact dI.dO (Γ:=([]:Cons Tryd.prog Gs)) aj mixed Tryd.func101 (n:=100) (orc:=[]) (cs:=[]) (by kernel_rfl) trivial rfl rfl
 ·exact dI.dO (Γ:=([]:Cons Tryd.prog Gs)) aj mixed Tryd.func101 (n:=100) (orc:=[]) (cs:=[]) (by kernel_rfl) trivial rfl rfl
 ·exact dI.dO (Γ:=([]:Cons Tryd.prog Gs)) aj mixed Tryd.func101 (n:=100) (orc:=[]) (cs:=[]) (by kernel_rfl) trivial rfl rfl
 ·exact dI.dO (Γ:=([]:Cons Tryd.prog Gs)) aj mixed Tryd.func101 (n:=100) (orc:=[]) (cs:=[]) (by kernel_rfl) trivial rfl rfl
 ·exact dI.dO (Γ:=([]:Cons Tryd.prog Gs)) aj mixed Tryd.func101 (n:=100) (orc:=[]) (cs:=[]) (by kernel_rfl) trivial rfl rfl
 ·exact dI.dO (Γ:=([]:Cons Tryd.prog Gs)) aj mixed Tryd.func101 (n:=100) (orc:=[]) (cs:=[]) (by kernel_rfl) trivial rfl rfl
 ·exact dI.dO (Γ:=([]:Cons Tryd.prog Gs)) aj mixed Tryd.func101 (n:=100) (orc:=[]) (cs:=[]) (by kernel_rfl) trivial rfl rfl
 ·exact dI.dO (Γ:=([]:Cons Tryd.prog Gs)) aj mixed Tryd.func101 (n:=100) (orc:=[]) (cs:=[]) (by kernel_rfl) trivial rfl rfl
theorem u32_ids (n:Int):((aQ .u32).enc n).ids=[]:=rfl
noncomputable def rot32_con:Con Tryd.prog Gs:=Con.of 101 Tryd.f101 Tryd.func101 (by kernel_rfl) (by kernel_rfl) (fun
 | [x,y]=>match (aQ .u32).dec x,(aQ .i64).dec y with
  | some a,some k=>if rots.elem k then some ((aQ .u32).enc (rotF a k),[]) else none
  | _,_=>none
 | _=>none) fun args r c h=>by
  split at h<;>try cases h
  split at h<;>try cases h
  rename_i ha hb
  split at h<;>cases h
  rename_i hk
  rw[←(aQ .u32).ok _ _ ha,←(aQ .i64).ok _ _ hb]
  exact⟨u32_ids _,fun _=>rot32_fn _ _ (by simpa using hk)⟩
def kJ (a b:Int):Int:=IntKind.u32.wrap (a+b)
def xorW (a b:Int):Int:=bits .xor .u32 a b
def andW (a b:Int):Int:=bits .and .u32 a b
def qc (x y v7 v16:Int):Int:=kJ (kJ (kJ (xorW (xorW (rotF x (-17)) (rotF x (-19))) (x.fdiv (2^10))) v7) (xorW (xorW (rotF y (-7)) (rotF y (-18))) (y.fdiv (2^3)))) v16
def t1F (s:Nat→Int) (k w:Int):Int:=kJ (kJ (kJ (kJ (s 7) (xorW (xorW (rotF (s 4) (-6)) (rotF (s 4) (-11))) (rotF (s 4) (-25)))) (xorW (andW (s 4) (s 5)) (andW (bits .xor .u32 4294967295 (s 4)) (s 6)))) k) w
def t2F (s:Nat→Int):Int:=kJ (xorW (xorW (rotF (s 0) (-2)) (rotF (s 0) (-13))) (rotF (s 0) (-22))) (xorW (xorW (andW (s 0) (s 1)) (andW (s 0) (s 2))) (andW (s 1) (s 2)))
def qd (s:Nat→Int) (k w:Int):Nat→Int
 | 0=>kJ (t1F s k w) (t2F s)
 | 1=>s 0
 | 2=>s 1
 | 3=>s 2
 | 4=>kJ (s 3) (t1F s k w)
 | 5=>s 4
 | 6=>s 5
 | _=>s 6
def u32 (n:Int):Atom:=aG .u32 n
def oo (h R:Nat→Int) (n:Int):List Atom:=[u32 (h 0),u32 (h 1),u32 (h 2),u32 (h 3),u32 (h 4),u32 (h 5),u32 (h 6),u32 (h 7),u8 (R 0),u8 (R 1),u8 (R 2),u8 (R 3),u8 (R 4),u8 (R 5),u8 (R 6),u8 (R 7),u8 (R 8),u8 (R 9),u8 (R 10),u8 (R 11),u8 (R 12),u8 (R 13),u8 (R 14),u8 (R 15),u8 (R 16),u8 (R 17),u8 (R 18),u8 (R 19),u8 (R 20),u8 (R 21),u8 (R 22),u8 (R 23),u8 (R 24),u8 (R 25),u8 (R 26),u8 (R 27),u8 (R 28),u8 (R 29),u8 (R 30),u8 (R 31),u8 (R 32),u8 (R 33),u8 (R 34),u8 (R 35),u8 (R 36),u8 (R 37),u8 (R 38),u8 (R 39),u8 (R 40),u8 (R 41),u8 (R 42),u8 (R 43),u8 (R 44),u8 (R 45),u8 (R 46),u8 (R 47),u8 (R 48),u8 (R 49),u8 (R 50),u8 (R 51),u8 (R 52),u8 (R 53),u8 (R 54),u8 (R 55),u8 (R 56),u8 (R 57),u8 (R 58),u8 (R 59),u8 (R 60),u8 (R 61),u8 (R 62),u8 (R 63),u64 n]
def rowX (x:Nat→Int):List Atom:=[u32 (x 0),u32 (x 1),u32 (x 2),u32 (x 3),u32 (x 4),u32 (x 5),u32 (x 6),u32 (x 7),u32 (x 8),u32 (x 9),u32 (x 10),u32 (x 11),u32 (x 12),u32 (x 13),u32 (x 14),u32 (x 15),u32 (x 16),u32 (x 17),u32 (x 18),u32 (x 19),u32 (x 20),u32 (x 21),u32 (x 22),u32 (x 23),u32 (x 24),u32 (x 25),u32 (x 26),u32 (x 27),u32 (x 28),u32 (x 29),u32 (x 30),u32 (x 31),u32 (x 32),u32 (x 33),u32 (x 34),u32 (x 35),u32 (x 36),u32 (x 37),u32 (x 38),u32 (x 39),u32 (x 40),u32 (x 41),u32 (x 42),u32 (x 43),u32 (x 44),u32 (x 45),u32 (x 46),u32 (x 47),u32 (x 48),u32 (x 49),u32 (x 50),u32 (x 51),u32 (x 52),u32 (x 53),u32 (x 54),u32 (x 55),u32 (x 56),u32 (x 57),u32 (x 58),u32 (x 59),u32 (x 60),u32 (x 61),u32 (x 62),u32 (x 63)]
def putF (o:Nat) (ys:List Int) (R:Nat→Int) (j:Nat):Int:=cond (Nat.ble o j&&Nat.blt (j-o) ys.length) (ys.getD (j-o) 0) (R j)
def bR (R:Nat→Int):Nat→Nat→List Int
 | _,0=>[]
 | j,k+1=>R j::bR R (j+1) k
namespace sblk
noncomputable abbrev fn:=Tryd.f89
noncomputable def body:Code:=d9 fn
noncomputable def A0:Code:=cs1 body
noncomputable def P1:Code:=cs1 (cs2 body)
noncomputable def A1:Code:=cs1 P1
noncomputable def L1:Code:=cL (cB (cs2 P1))
noncomputable def Q1:Code:=cs2 (cs2 body)
noncomputable def A6:Code:=cs1 (cs1 Q1)
noncomputable def L2:Code:=cL (cB (cs2 (cs1 Q1)))
noncomputable def Q2:Code:=cs2 Q1
noncomputable def A13:Code:=cs1 Q2
noncomputable def Q3:Code:=cs2 Q2
noncomputable def A14:Code:=cs1 (cs1 Q3)
noncomputable def L3:Code:=cL (cB (cs2 (cs1 Q3)))
noncomputable def A23:Code:=cs1 (cs2 Q3)
noncomputable def L4:Code:=cL (cB (cs2 (cs2 Q3)))
theorem ku:body= .seq A0 (.seq (.seq A1 (.block 0 (.loop L1))) (.seq (.seq A6 (.block 2 (.loop L2))) (.seq A13 (.seq (.seq A14 (.block 4 (.loop L3))) (.seq A23 (.block 6 (.loop L4))))))):=by kernel_rfl
noncomputable def Γ:Cons Tryd.prog Gs:=[sword_con,rot32_con]
def mem (h R:Nat→Int) (n:Int) (x:Nat→Int):List Blk:=[⟨true,109,oo h R n⟩,⟨true,91,rowX x⟩]
def M0:List (Option SV):=aD 204 0 [(0,.o (.a (.ptr 0 0))),(1,.o (.a (.slc 0 8 64 64))),(4,.o (.a (.ptr 1 0)))]
def M1 (t:Nat):List (Option SV):=aD 204 0 [(0,.o (.a (.ptr 0 0))),(1,.o (.a (.slc 0 8 64 64))),(4,.o (.a (.ptr 1 0))),(26,(aQ .i64).enc ((t:Nat):Int))]
def M2 (t:Nat):List (Option SV):=aD 204 0 [(0,.o (.a (.ptr 0 0))),(1,.o (.a (.slc 0 8 64 64))),(4,.o (.a (.ptr 1 0))),(6,(aQ .i64).enc ((t:Nat):Int))]
def M3 (s:Nat→Int) (t:Nat):List (Option SV):=aD 204 0 [(0,.o (.a (.ptr 0 0))),(4,.o (.a (.ptr 1 0))),(11,(aQ .u32).enc (s 0)),(12,(aQ .u32).enc (s 1)),(13,(aQ .u32).enc (s 2)),(14,(aQ .u32).enc (s 3)),(15,(aQ .u32).enc (s 4)),(16,(aQ .u32).enc (s 5)),(17,(aQ .u32).enc (s 6)),(18,(aQ .u32).enc (s 7)),(116,(aQ .i64).enc ((t:Nat):Int))]
def M13 (s:Nat→Int):List (Option SV):=aD 204 0 [(0,.o (.a (.ptr 0 0))),(4,.o (.a (.ptr 1 0))),(11,(aQ .u32).enc (s 0)),(12,(aQ .u32).enc (s 1)),(13,(aQ .u32).enc (s 2)),(14,(aQ .u32).enc (s 3)),(15,(aQ .u32).enc (s 4)),(16,(aQ .u32).enc (s 5)),(17,(aQ .u32).enc (s 6)),(18,(aQ .u32).enc (s 7))]
def jK (h s:Nat→Int) (t i:Nat):Int:=cond (Nat.blt i t) (kJ (h i) (s i)) (h i)
def M4 (s:Nat→Int) (t:Nat):List (Option SV):=aD 204 0 [(0,.o (.a (.ptr 0 0))),(189,.o (.g [u32 (s 0),u32 (s 1),u32 (s 2),u32 (s 3),u32 (s 4),u32 (s 5),u32 (s 6),u32 (s 7)])),(190,(aQ .i64).enc ((t:Nat):Int))]
def zero64 (j:Nat):Int:=0
section
variable (h R:Nat→Int) (n:Int) (x:Nat→Int)
theorem fO:oI M0 (mem h R n x):=by delta oI;kernel_rfl
theorem dh (t:Nat):oI (M1 t) (mem h R n x):=by delta oI;kernel_rfl
theorem gG (t:Nat):oI (M2 t) (mem h R n x):=by delta oI;kernel_rfl
theorem jO (s:Nat→Int) (t:Nat):oI (M3 s t) (mem h R n x):=by delta oI;kernel_rfl
theorem ids13 (s:Nat→Int):oI (M13 s) (mem h R n x):=by delta oI;kernel_rfl
theorem ids4 (s:Nat→Int) (t:Nat):oI (M4 s t) (mem (jK h s t) R n x):=by delta oI;kernel_rfl
end
noncomputable def t0:List SV:=aK fn [.o (.a (.ptr 0 0)),.o (.a (.slc 0 8 64 64))]
section
variable (h R:Nat→Int) (n:Int)
theorem kD:oX Γ 100 A0 t0 [⟨true,109,oo h R n⟩] [] .normal M0 (mem h R n zero64) []:=by delta oX;kernel_rfl
theorem pre1 (x:Nat→Int) (g:Nat→SV):oX Γ 100 A1 (fill g 0 (M0)) (mem h R n x) [] .normal (M1 0) (mem h R n x) []:=by delta oX;kernel_rfl
theorem step1 (x:Nat→Int) (t:Nat) (v:Int) (g:Nat→SV):oX Γ 100 L1 (fill g 0 (M1 t)) (mem h R n x) [(27,[.b true]),(32,[.n ((4*t:Nat):Int)]),(35,[.n ((4*t+4:Nat):Int)]),(36,[.ds (.o (.a (.sld 0 8 (4*t) 4 (64-4*t))))]),(38,[.n v]),(39,[.dyn]),(40,[.n ((t+1:Nat):Int)])] .normal (M1 (t+1)) (mem h R n (putF (0+t) [v] x)) [decide ((t:Int)<16)=true,IntKind.i64.wrap (4*(t:Int))=((4*t:Nat):Int),IntKind.i64.wrap (IntKind.i64.wrap (4*(t:Int))+4)=((4*t+4:Nat):Int),0≤((4*t:Nat):Int),((4*t:Nat):Int)≤((4*t+4:Nat):Int),((4*t+4:Nat):Int)≤((64:Nat):Int),SV.o (.a (.sld 0 8 (advO 64 (4*t) 0) (4*t+4-4*t) (64-4*t)))=(.o (.a (.sld 0 8 (4*t) 4 (64-4*t)))),4*t+4≤(bR R 0 64).length,((((bR R 0 64).drop (4*t)).take 4).length:Int)<9223372036854775807,IntKind.u32.wrap (iL (((bR R 0 64).drop (4*t)).take 4))=v,0≤(t:Int),(t:Int)<((64:Nat):Int),0+t+1≤(bR x 0 64).length,IntKind.i64.wrap ((t:Int)+1)=((t+1:Nat):Int)]:=by delta oX;kernel_rfl
theorem end1 (x:Nat→Int) (t:Nat) (g:Nat→SV):oX Γ 100 L1 (fill g 0 (M1 t)) (mem h R n x) [(27,[.b false])] (.exit 0) M0 (mem h R n x) [decide ((t:Int)<16)=false]:=by delta oX;kernel_rfl
theorem pre2 (x:Nat→Int) (g:Nat→SV):oX Γ 100 A6 (fill g 0 (M0)) (mem h R n x) [] .normal (M2 16) (mem h R n x) []:=by delta oX;kernel_rfl
theorem step2 (x:Nat→Int) (t:Nat) (a b c d v:Int) (g:Nat→SV):oX Γ 100 L2 (fill g 0 (M2 (t+16))) (mem h R n x) [(42,[.b true]),(46,[.n ((t+14:Nat):Int)]),(47,[.dyn]),(48,[.n a]),(50,[.n ((t+1:Nat):Int)]),(51,[.dyn]),(52,[.n b]),(72,[.n ((t+9:Nat):Int)]),(73,[.dyn]),(74,[.n c]),(79,[.n ((t:Nat):Int)]),(80,[.dyn]),(81,[.n d]),(82,[.n v]),(83,[.dyn]),(44,[.n ((t+17:Nat):Int)])] .normal (M2 (t+17)) (mem h R n (putF (0+(t+16)) [v] x)) [decide (((t+16:Nat):Int)<64)=true,IntKind.i64.wrap (((t+16:Nat):Int)-2)=((t+14:Nat):Int),0≤((t+14:Nat):Int),((t+14:Nat):Int)<((64:Nat):Int),0+(t+14)<(bR x 0 64).length,(bR x 0 64).getD (0+(t+14)) 0=a,IntKind.i64.wrap (((t+16:Nat):Int)-15)=((t+1:Nat):Int),0≤((t+1:Nat):Int),((t+1:Nat):Int)<((64:Nat):Int),0+(t+1)<(bR x 0 64).length,(bR x 0 64).getD (0+(t+1)) 0=b,IntKind.i64.wrap (((t+16:Nat):Int)-7)=((t+9:Nat):Int),0≤((t+9:Nat):Int),((t+9:Nat):Int)<((64:Nat):Int),0+(t+9)<(bR x 0 64).length,(bR x 0 64).getD (0+(t+9)) 0=c,IntKind.i64.wrap (((t+16:Nat):Int)-16)=((t:Nat):Int),0≤((t:Nat):Int),((t:Nat):Int)<((64:Nat):Int),0+(t)<(bR x 0 64).length,(bR x 0 64).getD (0+(t)) 0=d,qc a b c d=v,0≤((t+16:Nat):Int),((t+16:Nat):Int)<((64:Nat):Int),0+(t+16)+1≤(bR x 0 64).length,IntKind.i64.wrap (((t+16:Nat):Int)+1)=((t+17:Nat):Int)]:=by delta oX;kernel_rfl
theorem end2 (x:Nat→Int) (t:Nat) (g:Nat→SV):oX Γ 100 L2 (fill g 0 (M2 t)) (mem h R n x) [(42,[.b false])] (.exit 2) M0 (mem h R n x) [decide ((t:Int)<64)=false]:=by delta oX;kernel_rfl
theorem pre3 (x:Nat→Int) (g:Nat→SV):oX Γ 100 A13 (fill g 0 (M0)) (mem h R n x) [] .normal (M13 h) (mem h R n x) []:=by delta oX;kernel_rfl
theorem pre4 (x:Nat→Int) (s:Nat→Int) (g:Nat→SV):oX Γ 100 A14 (fill g 0 (M13 s)) (mem h R n x) [] .normal (M3 s 0) (mem h R n x) []:=by delta oX;kernel_rfl
theorem step3 (x:Nat→Int) (s:Nat→Int) (t:Nat) (k w:Int) (g:Nat→SV):oX Γ 100 L3 (fill g 0 (M3 s t)) (mem h R n x) [(117,[.b true]),(140,[.dyn]),(141,[.n k]),(144,[.dyn]),(145,[.n w]),(180,[.n ((t+1:Nat):Int)])] .normal (M3 (qd s k w) (t+1)) (mem h R n x) [decide ((t:Int)<64)=true,0≤(t:Int),(t:Int)<((64:Nat):Int),0+t<jI.length,jI.getD (0+t) 0=k,0≤((t:Nat):Int),((t:Nat):Int)<((64:Nat):Int),0+(t)<(bR x 0 64).length,(bR x 0 64).getD (0+(t)) 0=w,IntKind.i64.wrap ((t:Int)+1)=((t+1:Nat):Int)]:=by delta oX;kernel_rfl
theorem end3 (x:Nat→Int) (s:Nat→Int) (t:Nat) (g:Nat→SV):oX Γ 100 L3 (fill g 0 (M3 s t)) (mem h R n x) [(117,[.b false])] (.exit 4) (M13 s) (mem h R n x) [decide ((t:Int)<64)=false]:=by delta oX;kernel_rfl
theorem pre5 (x:Nat→Int) (s:Nat→Int) (g:Nat→SV):oX Γ 100 A23 (fill g 0 (M13 s)) (mem h R n x) [] .normal (M4 s 0) (mem (jK h s 0) R n x) []:=by delta oX;kernel_rfl
theorem tab4 (x:Nat→Int) (s:Nat→Int) (g:Nat→SV):fV (fun t=>jq (mem (jK h s (t+1)) R n x).length (M4 s (t+1)) (exec Γ tys 100 L4 ⟨fill g 0 (M4 s t),mem (jK h s t) R n x,[]⟩)) 8=fU (fun t=>some (.normal,live (M4 s (t+1)),(M4 s (t+1)).length,mem (jK h s (t+1)) R n x,[])) 8:=by kernel_rfl
theorem end4 (x:Nat→Int) (s:Nat→Int) (g:Nat→SV):oX Γ 100 L4 (fill g 0 (M4 s 8)) (mem (jK h s 8) R n x) [] (.exit 6) (M4 s 8) (mem (jK h s 8) R n x) []:=by delta oX;kernel_rfl
end
end sblk
theorem fB (R:Nat→Int):∀(k j:Nat),(bR R j k).length=k
 | 0,_=>rfl
 | k+1,j=>by rw[bR,List.length_cons,fB R k]
theorem restL_get (R:Nat→Int):∀(k j i:Nat),i<k→(bR R j k).getD i 0=R (j+i)
 | 0,_,i,h=>by omega
 | k+1,j,0,h=>rfl
 | k+1,j,i+1,h=>by
  rw[bR,List.getD_cons_succ,restL_get R k (j+1) i (by omega),show j+1+i=j+(i+1) by omega]
theorem mZ (R:Nat→Int) (i:Nat) (h:i<64):(bR R 0 64).getD (0+i) 0=R i:=by rw[Nat.zero_add,restL_get R 64 0 i h,Nat.zero_add]
theorem restL_drop (R:Nat→Int):∀(i j k:Nat),(bR R j (i+k)).drop i=bR R (j+i) k
 | 0,j,k=>by rw[Nat.zero_add];rfl
 | i+1,j,k=>by
  rw[show i+1+k=(i+k)+1 by omega,bR,List.drop_succ_cons,restL_drop R i (j+1) k,show j+1+i=j+(i+1) by omega]
theorem restL_take (R:Nat→Int):∀(k m j:Nat),(bR R j (k+m)).take k=bR R j k
 | 0,m,j=>by rw[List.take_zero];rfl
 | k+1,m,j=>by
  rw[show k+1+m=(k+m)+1 by omega,bR,List.take_succ_cons,restL_take R k m (j+1)]
  rfl
theorem restL_four (R:Nat→Int) (t:Nat) (ht:t<16):((bR R 0 64).drop (4*t)).take 4=[R (4*t),R (4*t+1),R (4*t+2),R (4*t+3)]:=by
 rw[show(64:Nat)=4*t+(64-4*t) by omega,restL_drop,show 64-4*t=4+(60-4*t) by omega,restL_take,Nat.zero_add]
 rfl
theorem qP (o:Nat) (ys:List Int) (R:Nat→Int) (j:Nat):putF o ys R j=if o≤j∧j-o<ys.length then ys.getD (j-o) 0 else R j:=by
 unfold putF
 by_cases h:o≤j∧j-o<ys.length
 ·rw[if_pos h,Nat.ble_eq_true_of_le h.1]
  have:Nat.blt (j-o) ys.length=true:=Nat.ble_eq_true_of_le h.2
  rw[this];rfl
 ·rw[if_neg h]
  have:(Nat.ble o j&&Nat.blt (j-o) ys.length)=false:=by
   rw[Bool.eq_false_iff]
   intro hc
   rw[Bool.and_eq_true] at hc
   exact h ⟨Nat.le_of_ble_eq_true hc.1,Nat.le_of_ble_eq_true hc.2⟩
  rw[this];rfl
theorem pI (o:Nat) (v:Int) (R:Nat→Int) (j:Nat):putF o [v] R j=if j=o then v else R j:=by
 rw[qP]
 by_cases h:j=o
 ·subst h
  rw[if_pos ⟨Nat.le_refl _,by rw[Nat.sub_self];exact Nat.one_pos⟩,if_pos rfl,Nat.sub_self]
  rfl
 ·rw[if_neg h,if_neg (by simp only[List.length_singleton];omega)]
def Sched (R W:Nat→Int):Prop:=(∀t,t<16→IntKind.u32.wrap (iL [R (4*t),R (4*t+1),R (4*t+2),R (4*t+3)])=W t)∧∀t,t<48→qc (W (t+14)) (W (t+1)) (W (t+9)) (W t)=W (t+16)
def rounds (h W:Nat→Int):Nat→Nat→Int
 | 0=>h
 | t+1=>qd (rounds h W t) (jI.getD t 0) (W t)
theorem jP (x:Int) (h0:0≤x) (h1:x<9223372036854775808):IntKind.i64.wrap x=x:=by rw[IntKind.wrap_i64];omega
section
variable (h R:Nat→Int) (n:Int) (W:Nat→Int)
theorem sblk_loop1 (hS:Sched R W) (x:Nat→Int) {Post:Ex→List SV→List Blk→Prop} (hp:∀g x,(∀j,j<16→x j=W j)→Post .normal (fill g 0 sblk.M0) (sblk.mem h R n x)) (g:Nat→SV):
  aF Tryd.prog Gs 1 (.block 0 (.loop sblk.L1)) (fill g 0 (sblk.M1 0)) (sblk.mem h R n x) Post:=by
 refine Runs.block ?_
 refine Runs.dA (fun(p:Nat × (Nat→Int))=>sblk.M1 p.1) (fun p=>sblk.mem h R n p.2) (fun p=>p.1≤16∧∀j,j<p.1→p.2 j=W j) (fun p=>16-p.1) ?_ (0,x) ⟨Nat.zero_le _,fun j hj=>by simp only at hj;omega⟩ g
 rintro⟨t,x⟩ g ⟨ht,hx⟩
 simp only at ht hx
 by_cases hlt:t<16
 ·refine Runs.au aj mixed (sblk.step1 h R n x t (W t) g) ?_ (sblk.dh h R n _ _) rfl fun g'=>⟨(t+1,putF (0+t) [W t] x),g',rfl,rfl,⟨hlt,fun j hj=> ?_⟩,by simp only;omega⟩
  ·refine⟨decide_eq_true (by omega),?_,?_,by omega,by omega,by omega,?_,by rw[fB];omega,?_,by rw[restL_four R t hlt];exact hS.1 t hlt,by omega,by omega,by rw[fB];omega,?_,trivial⟩
   ·rw[jP _ (by omega) (by omega)];omega
   ·rw[jP (4*(t:Int)) (by omega) (by omega),jP _ (by omega) (by omega)];omega
   ·unfold advO
    rw[if_neg (by omega),Nat.zero_add,Nat.add_sub_cancel_left]
   ·rw[restL_four R t hlt];simp
   ·rw[jP _ (by omega) (by omega)];omega
  ·simp only at hj ⊢
   rw[pI]
   by_cases e:j=0+t
   ·rw[if_pos e,e,Nat.zero_add]
   ·rw[if_neg e];exact hx j (by omega)
 ·obtain rfl:t=16:=by omega
  exact Runs.au aj mixed (sblk.end1 h R n x 16 g) ⟨by decide,trivial⟩ (sblk.fO h R n x) rfl fun g'=>hp g' x hx
theorem sblk_loop2 (hS:Sched R W) (x:Nat→Int) (hx0:∀j,j<16→x j=W j) {Post:Ex→List SV→List Blk→Prop} (hp:∀g x,(∀j,j<64→x j=W j)→Post .normal (fill g 0 sblk.M0) (sblk.mem h R n x)) (g:Nat→SV):
  aF Tryd.prog Gs 1 (.block 2 (.loop sblk.L2)) (fill g 0 (sblk.M2 16)) (sblk.mem h R n x) Post:=by
 refine Runs.block ?_
 refine Runs.dA (fun(p:Nat × (Nat→Int))=>sblk.M2 (p.1+16)) (fun p=>sblk.mem h R n p.2) (fun p=>p.1≤48∧∀j,j<p.1+16→p.2 j=W j) (fun p=>48-p.1) ?_ (0,x) ⟨Nat.zero_le _,fun j hj=>hx0 j (by simpa using hj)⟩ g
 rintro⟨t,x⟩ g ⟨ht,hx⟩
 simp only at ht hx
 by_cases hlt:t<48
 ·refine Runs.au aj mixed (sblk.step2 h R n x t (W (t+14)) (W (t+1)) (W (t+9)) (W t) (W (t+16)) g) ?_ (sblk.gG h R n _ _) rfl fun g'=>⟨(t+1,putF (0+(t+16)) [W (t+16)] x),g',rfl,rfl,⟨hlt,fun j hj=> ?_⟩,by simp only;omega⟩
  ·have w:∀y:Int,0≤y→y<100→IntKind.i64.wrap y=y:=fun y h0 h1=>jP y h0 (by omega)
   have l:∀e,e<64→0+e<(bR x 0 64).length:=fun e he=>by rw[fB];omega
   have r:∀e,e<t+16→(bR x 0 64).getD (0+e) 0=W e:=fun e he=>by rw[mZ x e (by omega)];exact hx e he
   refine⟨decide_eq_true (by omega),?_,by omega,by omega,l _ (by omega),r _ (by omega),?_,by omega,by omega,l _ (by omega),r _ (by omega),?_,by omega,by omega,l _ (by omega),r _ (by omega),?_,by omega,by omega,l _ (by omega),r _ (by omega),hS.2 t hlt,by omega,by omega,by rw[fB];omega,?_,trivial⟩
   ·rw[w _ (by omega) (by omega)];omega
   ·rw[w _ (by omega) (by omega)];omega
   ·rw[w _ (by omega) (by omega)];omega
   ·rw[w _ (by omega) (by omega)];omega
   ·rw[w _ (by omega) (by omega)];omega
  ·simp only at hj ⊢
   rw[pI]
   by_cases e:j=0+(t+16)
   ·rw[if_pos e,e,Nat.zero_add]
   ·rw[if_neg e];exact hx j (by omega)
 ·obtain rfl:t=48:=by omega
  exact Runs.au aj mixed (sblk.end2 h R n x 64 g) ⟨by decide,trivial⟩ (sblk.fO h R n x) rfl fun g'=>hp g' x hx
theorem sblk_loop3 (x:Nat→Int) (hx:∀j,j<64→x j=W j) {Post:Ex→List SV→List Blk→Prop} (hp:∀g,Post .normal (fill g 0 (sblk.M13 (rounds h W 64))) (sblk.mem h R n x)) (g:Nat→SV):
  aF Tryd.prog Gs 1 (.block 4 (.loop sblk.L3)) (fill g 0 (sblk.M3 h 0)) (sblk.mem h R n x) Post:=by
 refine Runs.block ?_
 refine Runs.dA (fun(t:Nat)=>sblk.M3 (rounds h W t) t) (fun t=>sblk.mem h R n x) (fun t=>t≤64) (fun t=>64-t) ?_ 0 (Nat.zero_le _) g
 intro t g ht
 by_cases hlt:t<64
 ·refine Runs.au aj mixed (sblk.step3 h R n x (rounds h W t) t (jI.getD t 0) (W t) g) ?_ (sblk.jO h R n _ _ _) rfl fun g'=>⟨t+1,g',rfl,rfl,hlt,by omega⟩
  refine⟨decide_eq_true (by omega),by omega,by omega,by show 0+t<64;omega,by rw[Nat.zero_add],by omega,by omega,by rw[fB];omega,by rw[mZ x t hlt];exact hx t hlt,?_,trivial⟩
  rw[jP _ (by omega) (by omega)];omega
 ·obtain rfl:t=64:=by omega
  exact Runs.au aj mixed (sblk.end3 h R n x _ 64 g) ⟨by decide,trivial⟩ (sblk.ids13 h R n x _) rfl hp
theorem sblk_loop4 (x s:Nat→Int) {Post:Ex→List SV→List Blk→Prop} (hp:∀g,Post .normal (fill g 0 (sblk.M4 s 8)) (sblk.mem (sblk.jK h s 8) R n x)) (g:Nat→SV):
  aF Tryd.prog Gs 1 (.block 6 (.loop sblk.L4)) (fill g 0 (sblk.M4 s 0)) (sblk.mem (sblk.jK h s 0) R n x) Post:=by
 refine Runs.block ?_
 refine Runs.dA (fun(t:Nat)=>sblk.M4 s t) (fun t=>sblk.mem (sblk.jK h s t) R n x) (fun t=>t≤8) (fun t=>8-t) ?_ 0 (Nat.zero_le _) g
 intro t g ht
 by_cases hlt:t<8
 ·exact Runs.au aj mixed (dK (sblk.tab4 h R n x s g) t hlt) trivial (sblk.ids4 h R n x s _) rfl fun g'=>⟨t+1,g',rfl,rfl,hlt,by omega⟩
 ·obtain rfl:t=8:=by omega
  exact Runs.au aj mixed (sblk.end4 h R n x s g) trivial (sblk.ids4 h R n x s 8) rfl hp
def lS (h W:Nat→Int) (i:Nat):Int:=kJ (h i) (rounds h W 64 i)
theorem sblk_res (x s:Nat→Int) (g:Nat→SV):eRes tys (fill g 0 (sblk.M4 s 8)) (fun k=>(sblk.mem (sblk.jK h s 8) R n x)[k]?) sblk.fn.results.toList=some []:=by kernel_rfl
theorem sblk_row (x s:Nat→Int):(sblk.mem (sblk.jK h s 8) R n x)[0]? =some ⟨true,109,oo (fun i=>kJ (h i) (s i)) R n⟩:=by kernel_rfl
theorem sblk_run (hS:Sched R W):aF Tryd.prog Gs 1 sblk.body (aK sblk.fn [.o (.a (.ptr 0 0)),.o (.a (.slc 0 8 64 64))]) [⟨true,109,oo h R n⟩] (aH tys sblk.fn (bJ (.t []) (.upd 109 (oo (lS h W) R n)))):=by
 rw[sblk.ku]
 refine Runs.seq (Runs.au aj mixed (sblk.kD h R n) trivial (sblk.fO h R n _) rfl fun g=> ?_)
 refine Runs.seq (Runs.seq (Runs.au aj mixed (sblk.pre1 h R n _ g) trivial (sblk.dh h R n _ 0) rfl ?_))
 refine sblk_loop1 h R n W hS _ fun g x hx=> ?_
 refine Runs.seq (Runs.seq (Runs.au aj mixed (sblk.pre2 h R n x g) trivial (sblk.gG h R n x 16) rfl ?_))
 refine sblk_loop2 h R n W hS x hx fun g x hx=> ?_
 refine Runs.seq (Runs.au aj mixed (sblk.pre3 h R n x g) trivial (sblk.ids13 h R n x h) rfl fun g=> ?_)
 refine Runs.seq (Runs.seq (Runs.au aj mixed (sblk.pre4 h R n x h g) trivial (sblk.jO h R n x h 0) rfl ?_))
 refine sblk_loop3 h R n W x hx fun g=> ?_
 refine Runs.seq (Runs.au aj mixed (sblk.pre5 h R n x _ g) trivial (sblk.ids4 h R n x _ 0) rfl ?_)
 refine sblk_loop4 h R n x _ fun g=> ?_
 exact aH.fall (sblk_res h R n x _ g) ⟨rfl,sblk_row h R n x _⟩
end
structure E8 where
 b0:Int
 b1:Int
 b2:Int
 b3:Int
 b4:Int
 b5:Int
 b6:Int
 b7:Int
def E8.to (e:E8):List Int:=e.b0::e.b1::e.b2::e.b3::e.b4::e.b5::e.b6::e.b7::[]
def E8.of:List Int→Option E8
 | x0::x1::x2::x3::x4::x5::x6::x7::[]=>some ⟨x0,x1,x2,x3,x4,x5,x6,x7⟩
 | _=>none
theorem E8.of_to:∀l a,E8.of l=some a→E8.to a=l:=by
 intro l a h
 unfold E8.of at h
 split at h<;>cases h
 rfl
def E8.at (e:E8):Nat→Int
 | 0=>e.b0
 | 1=>e.b1
 | 2=>e.b2
 | 3=>e.b3
 | 4=>e.b4
 | 5=>e.b5
 | 6=>e.b6
 | _=>e.b7
def E8.mk' (f:Nat→Int):E8:=⟨f 0,f 1,f 2,f 3,f 4,f 5,f 6,f 7⟩
theorem E8.jo (f:Nat→Int):∀i,i<8→(E8.mk' f).at i=f i
 | 0,_=>rfl
 | 1,_=>rfl
 | 2,_=>rfl
 | 3,_=>rfl
 | 4,_=>rfl
 | 5,_=>rfl
 | 6,_=>rfl
 | 7,_=>rfl
 | i+8,h=>by omega
theorem E8.ext_at {a b:E8} (h:∀i,i<8→a.at i=b.at i):a=b:=by
 have e:a=E8.mk' a.at:=rfl
 have e':b=E8.mk' b.at:=rfl
 rw[e,e']
 unfold E8.mk'
 rw[h 0 (by omega),h 1 (by omega),h 2 (by omega),h 3 (by omega),h 4 (by omega),h 5 (by omega),h 6 (by omega),h 7 (by omega)]
structure B64 where
 b0:Int
 b1:Int
 b2:Int
 b3:Int
 b4:Int
 b5:Int
 b6:Int
 b7:Int
 b8:Int
 b9:Int
 b10:Int
 b11:Int
 b12:Int
 b13:Int
 b14:Int
 b15:Int
 b16:Int
 b17:Int
 b18:Int
 b19:Int
 b20:Int
 b21:Int
 b22:Int
 b23:Int
 b24:Int
 b25:Int
 b26:Int
 b27:Int
 b28:Int
 b29:Int
 b30:Int
 b31:Int
 b32:Int
 b33:Int
 b34:Int
 b35:Int
 b36:Int
 b37:Int
 b38:Int
 b39:Int
 b40:Int
 b41:Int
 b42:Int
 b43:Int
 b44:Int
 b45:Int
 b46:Int
 b47:Int
 b48:Int
 b49:Int
 b50:Int
 b51:Int
 b52:Int
 b53:Int
 b54:Int
 b55:Int
 b56:Int
 b57:Int
 b58:Int
 b59:Int
 b60:Int
 b61:Int
 b62:Int
 b63:Int
def B64.to (e:B64):List Int:=e.b0::e.b1::e.b2::e.b3::e.b4::e.b5::e.b6::e.b7::e.b8::e.b9::e.b10::e.b11::e.b12::e.b13::e.b14::e.b15::e.b16::e.b17::e.b18::e.b19::e.b20::e.b21::e.b22::e.b23::e.b24::e.b25::e.b26::e.b27::e.b28::e.b29::e.b30::e.b31::e.b32::e.b33::e.b34::e.b35::e.b36::e.b37::e.b38::e.b39::e.b40::e.b41::e.b42::e.b43::e.b44::e.b45::e.b46::e.b47::e.b48::e.b49::e.b50::e.b51::e.b52::e.b53::e.b54::e.b55::e.b56::e.b57::e.b58::e.b59::e.b60::e.b61::e.b62::e.b63::[]
def B64.of:List Int→Option B64
 | x0::x1::x2::x3::x4::x5::x6::x7::x8::x9::x10::x11::x12::x13::x14::x15::x16::x17::x18::x19::x20::x21::x22::x23::x24::x25::x26::x27::x28::x29::x30::x31::x32::x33::x34::x35::x36::x37::x38::x39::x40::x41::x42::x43::x44::x45::x46::x47::x48::x49::x50::x51::x52::x53::x54::x55::x56::x57::x58::x59::x60::x61::x62::x63::[]=>some ⟨x0,x1,x2,x3,x4,x5,x6,x7,x8,x9,x10,x11,x12,x13,x14,x15,x16,x17,x18,x19,x20,x21,x22,x23,x24,x25,x26,x27,x28,x29,x30,x31,x32,x33,x34,x35,x36,x37,x38,x39,x40,x41,x42,x43,x44,x45,x46,x47,x48,x49,x50,x51,x52,x53,x54,x55,x56,x57,x58,x59,x60,x61,x62,x63⟩
 | _=>none
theorem B64.of_to:∀l a,B64.of l=some a→B64.to a=l:=by
 intro l a h
 unfold B64.of at h
 split at h<;>cases h
 rfl
def B64.at (e:B64):Nat→Int
 | 0=>e.b0
 | 1=>e.b1
 | 2=>e.b2
 | 3=>e.b3
 | 4=>e.b4
 | 5=>e.b5
 | 6=>e.b6
 | 7=>e.b7
 | 8=>e.b8
 | 9=>e.b9
 | 10=>e.b10
 | 11=>e.b11
 | 12=>e.b12
 | 13=>e.b13
 | 14=>e.b14
 | 15=>e.b15
 | 16=>e.b16
 | 17=>e.b17
 | 18=>e.b18
 | 19=>e.b19
 | 20=>e.b20
 | 21=>e.b21
 | 22=>e.b22
 | 23=>e.b23
 | 24=>e.b24
 | 25=>e.b25
 | 26=>e.b26
 | 27=>e.b27
 | 28=>e.b28
 | 29=>e.b29
 | 30=>e.b30
 | 31=>e.b31
 | 32=>e.b32
 | 33=>e.b33
 | 34=>e.b34
 | 35=>e.b35
 | 36=>e.b36
 | 37=>e.b37
 | 38=>e.b38
 | 39=>e.b39
 | 40=>e.b40
 | 41=>e.b41
 | 42=>e.b42
 | 43=>e.b43
 | 44=>e.b44
 | 45=>e.b45
 | 46=>e.b46
 | 47=>e.b47
 | 48=>e.b48
 | 49=>e.b49
 | 50=>e.b50
 | 51=>e.b51
 | 52=>e.b52
 | 53=>e.b53
 | 54=>e.b54
 | 55=>e.b55
 | 56=>e.b56
 | 57=>e.b57
 | 58=>e.b58
 | 59=>e.b59
 | 60=>e.b60
 | 61=>e.b61
 | 62=>e.b62
 | _=>e.b63
def B64.mk' (f:Nat→Int):B64:=⟨f 0,f 1,f 2,f 3,f 4,f 5,f 6,f 7,f 8,f 9,f 10,f 11,f 12,f 13,f 14,f 15,f 16,f 17,f 18,f 19,f 20,f 21,f 22,f 23,f 24,f 25,f 26,f 27,f 28,f 29,f 30,f 31,f 32,f 33,f 34,f 35,f 36,f 37,f 38,f 39,f 40,f 41,f 42,f 43,f 44,f 45,f 46,f 47,f 48,f 49,f 50,f 51,f 52,f 53,f 54,f 55,f 56,f 57,f 58,f 59,f 60,f 61,f 62,f 63⟩
theorem B64.jo (f:Nat→Int):∀i,i<64→(B64.mk' f).at i=f i
 | 0,_=>rfl
 | 1,_=>rfl
 | 2,_=>rfl
 | 3,_=>rfl
 | 4,_=>rfl
 | 5,_=>rfl
 | 6,_=>rfl
 | 7,_=>rfl
 | 8,_=>rfl
 | 9,_=>rfl
 | 10,_=>rfl
 | 11,_=>rfl
 | 12,_=>rfl
 | 13,_=>rfl
 | 14,_=>rfl
 | 15,_=>rfl
 | 16,_=>rfl
 | 17,_=>rfl
 | 18,_=>rfl
 | 19,_=>rfl
 | 20,_=>rfl
 | 21,_=>rfl
 | 22,_=>rfl
 | 23,_=>rfl
 | 24,_=>rfl
 | 25,_=>rfl
 | 26,_=>rfl
 | 27,_=>rfl
 | 28,_=>rfl
 | 29,_=>rfl
 | 30,_=>rfl
 | 31,_=>rfl
 | 32,_=>rfl
 | 33,_=>rfl
 | 34,_=>rfl
 | 35,_=>rfl
 | 36,_=>rfl
 | 37,_=>rfl
 | 38,_=>rfl
 | 39,_=>rfl
 | 40,_=>rfl
 | 41,_=>rfl
 | 42,_=>rfl
 | 43,_=>rfl
 | 44,_=>rfl
 | 45,_=>rfl
 | 46,_=>rfl
 | 47,_=>rfl
 | 48,_=>rfl
 | 49,_=>rfl
 | 50,_=>rfl
 | 51,_=>rfl
 | 52,_=>rfl
 | 53,_=>rfl
 | 54,_=>rfl
 | 55,_=>rfl
 | 56,_=>rfl
 | 57,_=>rfl
 | 58,_=>rfl
 | 59,_=>rfl
 | 60,_=>rfl
 | 61,_=>rfl
 | 62,_=>rfl
 | 63,_=>rfl
 | i+64,h=>by omega
theorem B64.ext_at {a b:B64} (h:∀i,i<64→a.at i=b.at i):a=b:=by
 have e:a=B64.mk' a.at:=rfl
 have e':b=B64.mk' b.at:=rfl
 rw[e,e']
 unfold B64.mk'
 rw[h 0 (by omega),h 1 (by omega),h 2 (by omega),h 3 (by omega),h 4 (by omega),h 5 (by omega),h 6 (by omega),h 7 (by omega),h 8 (by omega),h 9 (by omega),h 10 (by omega),h 11 (by omega),h 12 (by omega),h 13 (by omega),h 14 (by omega),h 15 (by omega),h 16 (by omega),h 17 (by omega),h 18 (by omega),h 19 (by omega),h 20 (by omega),h 21 (by omega),h 22 (by omega),h 23 (by omega),h 24 (by omega),h 25 (by omega),h 26 (by omega),h 27 (by omega),h 28 (by omega),h 29 (by omega),h 30 (by omega),h 31 (by omega),h 32 (by omega),h 33 (by omega),h 34 (by omega),h 35 (by omega),h 36 (by omega),h 37 (by omega),h 38 (by omega),h 39 (by omega),h 40 (by omega),h 41 (by omega),h 42 (by omega),h 43 (by omega),h 44 (by omega),h 45 (by omega),h 46 (by omega),h 47 (by omega),h 48 (by omega),h 49 (by omega),h 50 (by omega),h 51 (by omega),h 52 (by omega),h 53 (by omega),h 54 (by omega),h 55 (by omega),h 56 (by omega),h 57 (by omega),h 58 (by omega),h 59 (by omega),h 60 (by omega),h 61 (by omega),h 62 (by omega),h 63 (by omega)]
structure Hs where
 h:E8
 r:B64
 n:Int
def gV (S:Hs):List Atom:=S.h.to.map (aG .u32)++(S.r.to.map (aG .u8)++[aG .u64 S.n])
def hsOf (cs:List Atom):Option Hs:=
 match qo .u32 (cs.take 8),qo .u8 ((cs.drop 8).take 64),qo .u64 (cs.drop 72) with
 | some a,some b,some [n]=>match E8.of a,B64.of b with
  | some h,some r=>some ⟨h,r,n⟩
  | _,_=>none
 | _,_,_=>none
theorem uE {cs:List Atom} {S:Hs} (h:hsOf cs=some S):cs=gV S:=by
 unfold hsOf at h
 split at h<;>try cases h
 rename_i a b n ha hb hn
 split at h<;>cases h
 rename_i x r hx hr
 unfold gV
 rw[E8.of_to _ _ hx,B64.of_to _ _ hr,nH ha,nH hb]
 have hn:=nH hn
 simp only[List.map_cons,List.map_nil] at hn
 rw[hn]
 have e:cs.drop 72=(cs.drop 8).drop 64:=by rw[List.drop_drop]
 rw[e,List.take_append_drop,List.take_append_drop]
theorem hashRow_hs (S:Hs):oo S.h.at S.r.at S.n=gV S:=by kernel_rfl
theorem rW (S:Hs):bL (gV S)=[]:=by
 unfold gV
 rw[kK,kK,lT,lT]
 rfl
def kC (R:Nat→Int) (t:Nat):Int:=
 if h:t<16 then IntKind.u32.wrap (iL [R (4*t),R (4*t+1),R (4*t+2),R (4*t+3)])
 else qc (kC R (t-2)) (kC R (t-15)) (kC R (t-7)) (kC R (t-16))
termination_by t
decreasing_by all_goals omega
theorem lI (R:Nat→Int):Sched R (kC R):=by
 refine⟨fun t ht=> ?_,fun t ht=> ?_⟩
 ·conv=>rhs;rw[kC]
  rw[dif_pos ht]
 ·conv=>rhs;rw[kC]
  rw[dif_neg (by omega)]
  rfl
theorem sched_unique {R W W':Nat→Int} (h:Sched R W) (h':Sched R W'):∀t,t<64→W t=W' t:=by
 intro t
 induction t using Nat.strongRecOn with
 | _ t ih=>
  intro ht
  rcases Nat.lt_or_ge t 16 with h1 | h1
  ·rw[←h.1 t h1,←h'.1 t h1]
  ·obtain⟨s,rfl⟩:∃s,t=s+16:=⟨t-16,by omega⟩
   rw[←h.2 s (by omega),←h'.2 s (by omega),ih (s+14) (by omega) (by omega),ih (s+1) (by omega) (by omega),ih (s+9) (by omega) (by omega),ih s (by omega) (by omega)]
theorem uX {h W W':Nat→Int}:∀t,(∀j,j<t→W j=W' j)→rounds h W t=rounds h W' t
 | 0,_=>rfl
 | t+1,e=>by rw[rounds,rounds,uX t fun j hj=>e j (by omega),e t (by omega)]
def blkS (S:Hs):Hs:={ S with h:=E8.mk' (lS S.h.at (kC S.r.at)) }
theorem sblk_runS (S:Hs):aF Tryd.prog Gs 1 sblk.body (aK sblk.fn [.o (.a (.ptr 0 0)),.o (.a (.slc 0 8 64 64))]) [⟨true,109,gV S⟩] (aH tys sblk.fn (bJ (.t []) (.upd 109 (gV (blkS S))))):=by
 have h:=sblk_run S.h.at S.r.at S.n (kC S.r.at) (lI S.r.at)
 rw[hashRow_hs] at h
 have e:oo (lS S.h.at (kC S.r.at)) S.r.at S.n=gV (blkS S):=by
  rw[←hashRow_hs]
  unfold oo blkS
  simp only[E8.jo _ 0 (by omega),E8.jo _ 1 (by omega),E8.jo _ 2 (by omega),E8.jo _ 3 (by omega),E8.jo _ 4 (by omega),E8.jo _ 5 (by omega),E8.jo _ 6 (by omega),E8.jo _ 7 (by omega)]
 rw[e] at h
 exact h
def uW:List aU→Option (SV × dH × Cst)
 | [.row true ty cs,.sub 0 8 64 64]=>if Nat.beq ty 109 then match hsOf cs with
   | some S=>some (.t [],.upd 109 (gV (blkS S)),[])
   | none=>none
  else none
 | _=>none
theorem sblk_specE {ps:List aU} {r:SV} {e:dH} {p:Cst} (h:uW ps=some (r,e,p)):∃S,ps=[.row true 109 (gV S),.sub 0 8 64 64]∧r= .t []∧e= .upd 109 (gV (blkS S))∧p=[]:=by
 unfold uW at h
 split at h<;>try cases h
 split at h<;>try cases h
 rename_i hty
 split at h<;>cases h
 rename_i S hS
 rw[uE hS,Nat.eq_of_beq_eq_true hty]
 exact⟨S,rfl,rfl,rfl,rfl⟩
noncomputable def sblk_con:Con Tryd.prog Gs:=Con.parts aj 89 sblk.fn Tryd.func89 (by kernel_rfl) (c:=sblk.body) (by kernel_rfl) [.rowW,.sub 0] uW
 (fun ps r e p h _=>by
  obtain⟨S,rfl,rfl,rfl,rfl⟩:=sblk_specE h
  exact⟨(fun k hk=>by cases hk),rW _,⟨_,rfl,rfl,rfl⟩,(fun i b h=>by simp[bf,aU.blk] at h),fun kd ty xs o n c rest h=>by cases h⟩)
 (fun ps r e p cap h _ _=>by
  obtain⟨S,rfl,rfl,rfl,rfl⟩:=sblk_specE h
  exact sblk_runS S)
theorem dR (x:Int):IntKind.u64.wrap x=x%18446744073709551616:=by rw[IntKind.wrap_u64]
theorem B64.mk_congr {f g:Nat→Int} (h:∀i,i<64→f i=g i):B64.mk' f=B64.mk' g:=B64.ext_at fun i hi=>by rw[B64.jo _ i hi,B64.jo _ i hi,h i hi]
def lG (S:Hs) (y:Int):Hs:=
 if (S.n%64).toNat=63 then blkS ⟨S.h,B64.mk' (fun j=>if j=(S.n%64).toNat then y else S.r.at j),IntKind.u64.wrap (S.n+1)⟩
 else ⟨S.h,B64.mk' (fun j=>if j=(S.n%64).toNat then y else S.r.at j),IntKind.u64.wrap (S.n+1)⟩
def dQ (S:Hs) (ys:List Int):Hs:=ys.foldl lG S
theorem nS (S:Hs) (a b:List Int):dQ S (a++b)=dQ (dQ S a) b:=List.foldl_append
theorem sQ (S:Hs) (y:Int):(lG S y).n=IntKind.u64.wrap (S.n+1):=by
 unfold lG
 split<;>rfl
theorem absorb_n (ys:List Int):∀(S:Hs),0≤S.n→S.n<18446744073709551616→(dQ S ys).n=IntKind.u64.wrap (S.n+ys.length):=by
 induction ys with
 | nil=>intro S h0 h1;rw[dR];show S.n=_;simp only[List.length_nil];omega
 | cons y r ih=>
  intro S h0 h1
  show(dQ (lG S y) r).n=_
  rw[ih _ (by rw[sQ,dR];omega) (by rw[sQ,dR];omega),sQ,dR,dR,dR]
  simp only[List.length_cons]
  omega
theorem absorb_nn (ys:List Int) (S:Hs) (h:0≤S.n):0≤(dQ S ys).n:=by
 induction ys generalizing S with
 | nil=>exact h
 | cons y r ih=>exact ih _ (by rw[sQ,dR];omega)
def oV (S:Hs) (o:Nat) (zs:List Int) (n':Int):Hs:=⟨S.h,B64.mk' (putF o zs S.r.at),n'⟩
theorem rJ:∀(zs:List Int) (S:Hs) (a:Nat),0≤S.n→(a:Int)=S.n%64→a+zs.length≤64→0<zs.length→
  dQ S zs=if a+zs.length=64 then blkS (oV S a zs (IntKind.u64.wrap (S.n+zs.length))) else oV S a zs (IntKind.u64.wrap (S.n+zs.length))
 | [],S,a,h0,ha,hle,hp=>by simp at hp
 | z::r,S,a,h0,ha,hle,hp=>by
  have hat:(S.n%64).toNat=a:=by omega
  simp only[List.length_cons] at hle
  have e1:B64.mk' (fun j=>if j=(S.n%64).toNat then z else S.r.at j)=B64.mk' (putF a [z] S.r.at):=B64.mk_congr fun i hi=>by
   rw[hat,qP]
   by_cases h:i=a
   ·subst h;simp
   ·rw[if_neg h,if_neg (by simp only[List.length_singleton];omega)]
  cases r with
  | nil=>
   show lG S z=_
   unfold lG
   rw[e1,hat]
   simp only[List.length_singleton]
   by_cases h:a=63
   ·rw[if_pos h,if_pos (by omega)];rfl
   ·rw[if_neg h,if_neg (by omega)];rfl
  | cons z2 r=>
   simp only[List.length_cons] at hle
   have h63:a≠63:=by omega
   have hst:lG S z=⟨S.h,B64.mk' (putF a [z] S.r.at),IntKind.u64.wrap (S.n+1)⟩:=by
    unfold lG
    rw[e1,hat,if_neg h63]
   show dQ (lG S z) (z2::r)=_
   have hn:(lG S z).n=(S.n+1)%18446744073709551616:=by rw[sQ,dR]
   rw[rJ (z2::r) (lG S z) (a+1) (by rw[hn];omega) (by rw[hn];omega) (by simp only[List.length_cons];omega) (by simp)]
   have e2:oV (lG S z) (a+1) (z2::r) (IntKind.u64.wrap ((lG S z).n+(z2::r).length))=oV S a (z::z2::r) (IntKind.u64.wrap (S.n+(z::z2::r).length)):=by
    unfold oV
    have e3:IntKind.u64.wrap ((lG S z).n+(z2::r).length)=IntKind.u64.wrap (S.n+(z::z2::r).length):=by
     rw[hn,dR,dR]
     simp only[List.length_cons]
     omega
    rw[e3]
    have e4:B64.mk' (putF (a+1) (z2::r) (lG S z).r.at)=B64.mk' (putF a (z::z2::r) S.r.at):=B64.mk_congr fun i hi=>by
     rw[hst,qP,qP]
     simp only
     rw[B64.jo _ i hi,qP]
     simp only[List.length_cons,List.length_nil,Nat.zero_add]
     by_cases c1:a+1≤i∧i-(a+1)<r.length+1
     ·rw[if_pos c1,if_pos (by omega)]
      obtain⟨d,hd⟩:∃d,i-a=d+1:=⟨i-a-1,by omega⟩
      rw[hd,show i-(a+1)=d by omega]
      rfl
     ·rw[if_neg c1]
      by_cases c2:a≤i∧i-a<1
      ·rw[if_pos c2,if_pos (by omega)]
       have:i-a=0:=by omega
       rw[this];rfl
      ·rw[if_neg c2,if_neg (by omega)]
    rw[e4,hst]
   rw[e2]
   simp only[List.length_cons]
   by_cases h:a+(r.length+1+1)=64
   ·rw[if_pos h,if_pos (by omega)]
   ·rw[if_neg h,if_neg (by omega)]
def bZ (v:Int) (s:Nat):Int:=IntKind.u8.wrap (v.fdiv (2^s))
def appR (v:Int) (o:Nat):List Int→Nat→List Nat→List Int
 | xs,_,[]=>xs
 | xs,n,s::r=>appR v o (gJ (o+n) [bZ v s] 0 xs) (n+1) r
def appC (v:Int) (o c:Nat):List Int→Nat→List Nat→Cst
 | _,_,[]=>[]
 | xs,n,s::r=>(0+1≤[bZ v s].length)::(n+1≤c)::(o+n+1≤xs.length)::appC v o c (gJ (o+n) [bZ v s] 0 xs) (n+1) r
theorem uP (v:Int) (o c:Nat):∀(l:List Nat) (xs:List Int) (n:Nat),n+l.length≤c→o+n+l.length≤xs.length→Holds (appC v o c xs n l)
 | [],_,_,_,_=>trivial
 | s::r,xs,n,h1,h2=>by
  simp only[List.length_cons] at h1 h2
  exact⟨by simp,by omega,by omega,uP v o c r _ _ (by omega) (by rw[gI];omega)⟩
theorem putI_nil (o:Nat) (xs:List Int):gJ o [] 0 xs=xs:=by
 apply List.ext_getElem?
 intro j
 rw[putI_get,Nat.zero_add]
 have:(Nat.ble o j&&Nat.blt (j-o) ([]:List Int).length)=false:=by
  rw[Bool.eq_false_iff]
  intro hc
  rw[Bool.and_eq_true] at hc
  have:=Nat.le_of_ble_eq_true hc.2
  simp at this
 rw[this]
 cases xs[j]? <;>rfl
theorem putI_two (o:Nat) (a b xs:List Int) (h:o+(a.length+b.length)≤xs.length):gJ (o+a.length) b 0 (gJ o a 0 xs)=gJ o (a++b) 0 xs:=by
 rw[o9 (o+a.length) b _ (by rw[gI];omega),o9 o a xs (by omega),o9 o (a++b) xs (by rw[List.length_append];omega)]
 have hY:(xs.take o++a).length=o+a.length:=by rw[List.length_append,List.length_take];omega
 have e:xs.take o++(a++xs.drop (o+a.length))=(xs.take o++a)++xs.drop (o+a.length):=(List.append_assoc _ _ _).symm
 rw[e,List.take_left' hY,←List.drop_drop,List.drop_left' hY,List.drop_drop,List.length_append]
 simp only[List.append_assoc,Nat.add_assoc]
theorem appR_put (v:Int) (o:Nat):∀(l:List Nat) (xs:List Int) (n:Nat),o+n+l.length≤xs.length→appR v o xs n l=gJ (o+n) (l.map (bZ v)) 0 xs
 | [],xs,n,_=>by rw[List.map_nil,putI_nil];rfl
 | s::r,xs,n,h=>by
  simp only[List.length_cons] at h
  rw[appR,appR_put v o r _ _ (by rw[gI];omega)]
  have:=putI_two (o+n) [bZ v s] (r.map (bZ v)) xs (by simp only[List.length_singleton,List.length_map];omega)
  simp only[List.length_singleton] at this
  rw[←Nat.add_assoc,this]
  rfl
namespace app
noncomputable abbrev fn:=Tryd.f90
noncomputable def body:Code:=d9 fn
def sh8:List Nat:=[56,48,40,32,24,16,8,0]
section
variable (xs:List Int) (ty:TypeId) (o n c:Nat) (v:Int)
noncomputable def s8:St:=⟨aK fn [.o (.a (.sld 0 0 o n c)),(aQ .u64).enc v,(aQ .i64).enc 8],[⟨true,ty,.run .u8 xs⟩],[]⟩
noncomputable def e8:St:=outS ([]:Cons Tryd.prog Gs) tys 100 body (s8 xs ty o n c v)
theorem ex8:exec ([]:Cons Tryd.prog Gs) tys 100 body (s8 xs ty o n c v)=some (.ret,⟨(e8 xs ty o n c v).tm,(e8 xs ty o n c v).mem,[]⟩,appC v o c xs n sh8):=by kernel_rfl
theorem res8:eRes tys (e8 xs ty o n c v).tm (fun k=>(e8 xs ty o n c v).mem[k]?) fn.results.toList=some [.a (.sld 0 0 o (n+8) c)]:=by kernel_rfl
theorem row8:(e8 xs ty o n c v).mem[0]? =some ⟨true,ty,.run .u8 (appR v o xs n sh8)⟩:=by kernel_rfl
theorem run8 (h1:n+8≤c) (h2:o+n+8≤xs.length):
  aF Tryd.prog Gs 1 body (aK fn [.o (.a (.sld 0 0 o n c)),(aQ .u64).enc v,(aQ .i64).enc 8]) [⟨true,ty,.run .u8 xs⟩] (aH tys fn (bJ (.o (.a (.sld 0 0 o (n+8) c))) (.upd ty (.run .u8 (gJ (o+n) (sh8.map (bZ v)) 0 xs))))):=by
 rw[←appR_put v o sh8 xs n h2]
 exact Runs.eB aj mixed (ex8 xs ty o n c v) (uP v o c sh8 xs n h1 h2) (aH.ret (res8 xs ty o n c v) ⟨rfl,row8 xs ty o n c v⟩)
end
def sh4:List Nat:=[24,16,8,0]
section
variable (xs:List Int) (ty:TypeId) (o n c:Nat) (v:Int)
noncomputable def s4:St:=⟨aK fn [.o (.a (.sld 0 0 o n c)),(aQ .u64).enc v,(aQ .i64).enc 4],[⟨true,ty,.run .u8 xs⟩],[]⟩
noncomputable def e4:St:=outS ([]:Cons Tryd.prog Gs) tys 100 body (s4 xs ty o n c v)
theorem ex4:exec ([]:Cons Tryd.prog Gs) tys 100 body (s4 xs ty o n c v)=some (.ret,⟨(e4 xs ty o n c v).tm,(e4 xs ty o n c v).mem,[]⟩,appC v o c xs n sh4):=by kernel_rfl
theorem res4:eRes tys (e4 xs ty o n c v).tm (fun k=>(e4 xs ty o n c v).mem[k]?) fn.results.toList=some [.a (.sld 0 0 o (n+4) c)]:=by kernel_rfl
theorem row4:(e4 xs ty o n c v).mem[0]? =some ⟨true,ty,.run .u8 (appR v o xs n sh4)⟩:=by kernel_rfl
theorem run4 (h1:n+4≤c) (h2:o+n+4≤xs.length):
  aF Tryd.prog Gs 1 body (aK fn [.o (.a (.sld 0 0 o n c)),(aQ .u64).enc v,(aQ .i64).enc 4]) [⟨true,ty,.run .u8 xs⟩] (aH tys fn (bJ (.o (.a (.sld 0 0 o (n+4) c))) (.upd ty (.run .u8 (gJ (o+n) (sh4.map (bZ v)) 0 xs))))):=by
 rw[←appR_put v o sh4 xs n h2]
 exact Runs.eB aj mixed (ex4 xs ty o n c v) (uP v o c sh4 xs n h1 h2) (aH.ret (res4 xs ty o n c v) ⟨rfl,row4 xs ty o n c v⟩)
end
end app
def app_spec:List aU→Option (SV × dH × Cst)
 | [.buf .u8 ty xs l o n c,.val (.o (.a (.v (.int .u64 v)))),.val (.o (.a (.v (.int .i64 k))))]=>
  if k=8 then some (.o (.a (.sld 0 0 o (n+8) c)),.upd ty (.run .u8 (gJ (o+n) (app.sh8.map (bZ v)) 0 xs)),[n+8≤c,o+n+8≤xs.length])
  else if k=4 then some (.o (.a (.sld 0 0 o (n+4) c)),.upd ty (.run .u8 (gJ (o+n) (app.sh4.map (bZ v)) 0 xs)),[n+4≤c,o+n+4≤xs.length])
  else none
 | _=>none
theorem app_specE {ps:List aU} {r:SV} {e:dH} {p:Cst} (h:app_spec ps=some (r,e,p)):∃ty xs l o n c v,(ps=[.buf .u8 ty xs l o n c,.val (.o (.a (.v (.int .u64 v)))),.val (.o (.a (.v (.int .i64 8))))]∧r= .o (.a (.sld 0 0 o (n+8) c))∧e= .upd ty (.run .u8 (gJ (o+n) (app.sh8.map (bZ v)) 0 xs))∧p=[n+8≤c,o+n+8≤xs.length])∨
  (ps=[.buf .u8 ty xs l o n c,.val (.o (.a (.v (.int .u64 v)))),.val (.o (.a (.v (.int .i64 4))))]∧r= .o (.a (.sld 0 0 o (n+4) c))∧e= .upd ty (.run .u8 (gJ (o+n) (app.sh4.map (bZ v)) 0 xs))∧p=[n+4≤c,o+n+4≤xs.length]):=by
 unfold app_spec at h
 split at h<;>try cases h
 rename_i ty xs l o n c v k
 split at h
 ·rename_i hk
  subst hk
  cases h
  exact⟨ty,xs,l,o,n,c,v,.inl ⟨rfl,rfl,rfl,rfl⟩⟩
 ·split at h<;>cases h
  rename_i hk
  subst hk
  exact⟨ty,xs,l,o,n,c,v,.inr ⟨rfl,rfl,rfl,rfl⟩⟩
noncomputable def app_con:Con Tryd.prog Gs:=Con.parts aj 90 app.fn Tryd.func90 (by kernel_rfl) (c:=app.body) (by kernel_rfl) [.buf .u8,.val,.val] app_spec
 (fun ps r e p h hp=>by
  obtain⟨ty,xs,l,o,n,c,v,h⟩:=app_specE h
  rcases h with⟨rfl,rfl,rfl,rfl⟩ | ⟨rfl,rfl,rfl,rfl⟩
  ·exact⟨(fun k hk=>by simpa [SV.ids,SV1.ids,Atom.ids] using hk),rfl,⟨_,rfl,rfl,rfl⟩,(fun i b h=>by simp[bf,aU.blk] at h),fun kd ty xs o n c rest h=>by cases h;exact⟨_,rfl,gI _ _ _ _⟩⟩
  ·exact⟨(fun k hk=>by simpa [SV.ids,SV1.ids,Atom.ids] using hk),rfl,⟨_,rfl,rfl,rfl⟩,(fun i b h=>by simp[bf,aU.blk] at h),fun kd ty xs o n c rest h=>by cases h;exact⟨_,rfl,gI _ _ _ _⟩⟩)
 (fun ps r e p cap h hp _=>by
  obtain⟨ty,xs,l,o,n,c,v,h⟩:=app_specE h
  rcases h with⟨rfl,rfl,rfl,rfl⟩ | ⟨rfl,rfl,rfl,rfl⟩
  ·exact app.run8 xs ty o n c v hp.1 hp.2.1
  ·exact app.run4 xs ty o n c v hp.1 hp.2.1)
def h0L:E8:=⟨1779033703,3144134277,1013904242,2773480762,1359893119,2600822924,528734635,1541459225⟩
def S0:Hs:=⟨h0L,⟨0,0,0,0,0,0,0,0,0,0,0,0,0,0,0,0,0,0,0,0,0,0,0,0,0,0,0,0,0,0,0,0,0,0,0,0,0,0,0,0,0,0,0,0,0,0,0,0,0,0,0,0,0,0,0,0,0,0,0,0,0,0,0,0⟩,0⟩
theorem begin256_fn:dI Tryd.prog Gs 88 [] (.o (.g (h0L.to.map (aG .u32)))):=
 dI.dO (Γ:=([]:Cons Tryd.prog Gs)) aj mixed Tryd.func88 (n:=100) (orc:=[]) (cs:=[]) (by kernel_rfl) trivial rfl rfl
noncomputable def begin256_con:Con Tryd.prog Gs:=con0 88 Tryd.f88 Tryd.func88 (by kernel_rfl) (by kernel_rfl) (.o (.g (h0L.to.map (aG .u32)))) [] rfl (fun _=>begin256_fn)
namespace new
noncomputable abbrev fn:=Tryd.f72
noncomputable def body:Code:=d9 fn
noncomputable def Γ:Cons Tryd.prog Gs:=[begin256_con]
noncomputable def e:St:=outS Γ tys 100 body ⟨aK fn [],[],[]⟩
theorem ex:exec Γ tys 100 body ⟨aK fn [],[],[]⟩=some (.ret,⟨e.tm,e.mem,[]⟩,[]):=by kernel_rfl
theorem res:eRes tys e.tm (fun k=>e.mem[k]?) fn.results.toList=some [.a (.ptr 0 0)]:=by kernel_rfl
theorem row:e.mem[0]? =some ⟨true,109,gV S0⟩:=by kernel_rfl
end new
def new_spec:List aU→Option (SV × dH × Cst)
 | []=>some (.o (.a (.ptr 0 0)),.new 109 (gV S0),[])
 | _=>none
noncomputable def new_con:Con Tryd.prog Gs:=Con.parts aj 72 new.fn Tryd.func72 (by kernel_rfl) (c:=new.body) (by kernel_rfl) [] new_spec
 (fun ps r e p h hp=>by
  unfold new_spec at h
  split at h<;>cases h
  exact⟨rW _,fun b hb=>by cases hb⟩)
 (fun ps r e p cap h hp hi=>by
  unfold new_spec at h
  split at h<;>cases h
  exact Runs.eB aj mixed new.ex trivial (aH.ret new.res ⟨0,rfl,new.row⟩))
namespace wr
noncomputable abbrev fn:=Tryd.f73
noncomputable def body:Code:=d9 fn
noncomputable def A:Code:=cs1 body
noncomputable def L:Code:=cL (cB (cs2 body))
theorem ku:body= .seq A (.block 0 (.loop L)):=by kernel_rfl
noncomputable def Γ:Cons Tryd.prog Gs:=[sblk_con]
def mem (H:Hs) (ty:TypeId) (ys:List Int):List Blk:=[⟨true,109,gV H⟩,⟨false,ty,.pre .u8 ys⟩]
def M (o n c:Nat):List (Option SV):=aD 48 0 [(0,.o (.a (.ptr 0 0))),(1,.o (.a (.sld 1 0 o n c)))]
noncomputable def t0 (n c:Nat):List SV:=aK fn [.o (.a (.ptr 0 0)),.o (.a (.sld 1 0 0 n c))]
theorem ids (H:Hs) (ty:TypeId) (ys:List Int) (o n c:Nat):oI (M o n c) (mem H ty ys):=by delta oI;kernel_rfl
theorem pre (H:Hs) (ty:TypeId) (ys:List Int) (n c:Nat):oX Γ 100 A (t0 n c) (mem H ty ys) [] .normal (M 0 n c) (mem H ty ys) []:=by delta oX;kernel_rfl
def zsOf (ys:List Int) (o n a:Nat):List Int:=((ys.drop o).take n).take (Nat.min n (64-a))
def orc (a k:Nat) (n':Int) (o2 n2 c2:Nat) (d:Bool):Orc:=[(10,[.b true]),(16,[.n (a:Int)]),(21,[.ds (.o (.a (.sld 0 8 a (64-a) (64-a))))]),(23,[.n (k:Int)]),(30,[.n n']),(35,[.s (.o (.a (.sld 1 0 o2 n2 c2)))]),(39,[.b d])]
def cst (H:Hs) (ys:List Int) (o n c a k:Nat) (n':Int) (o2 n2 c2:Nat) (d:Bool):Cst:=[decide (0<(n:Int))=true,IntKind.i64.wrap (H.n.tmod 64)=(a:Int),
 0≤(a:Int),(a:Int)≤64,((64:Nat):Int)≤((64:Nat):Int),SV.o (.a (.sld 0 8 (advO 64 (a:Int).toNat 0) (64-(a:Int).toNat) (64-(a:Int).toNat)))= .o (.a (.sld 0 8 a (64-a) (64-a))),
 o+n≤ys.length,a+Nat.min n (64-a)≤64,((Nat.min n (64-a):Nat):Int)=(k:Int),IntKind.u64.wrap (H.n+IntKind.u64.wrap (k:Int))=n',
 0≤(k:Int),(k:Int)≤(n:Int),(n:Int)≤(c:Int),SV.o (.a (.sld 1 0 (advO c (k:Int).toNat o) ((n:Int).toNat-(k:Int).toNat) (c-(k:Int).toNat)))= .o (.a (.sld 1 0 o2 n2 c2)),
 (IntKind.i64.wrap ((a:Int)+(k:Int))==64)=d]
section
variable (H:Hs) (ty:TypeId) (ys:List Int) (o n c:Nat) (g:Nat→SV)
theorem step0 (a k:Nat) (n':Int) (o2 n2 c2:Nat):jq (mem (oV H a (zsOf ys o n a) n') ty ys).length (M o2 n2 c2) (exec Γ tys 100 L ⟨fill g 0 (M o n c),mem H ty ys,orc a k n' o2 n2 c2 false⟩)=
  some (.normal,live (M o2 n2 c2),(M o2 n2 c2).length,mem (oV H a (zsOf ys o n a) n') ty ys,cst H ys o n c a k n' o2 n2 c2 false):=by kernel_rfl
theorem step1 (a k:Nat) (n':Int) (o2 n2 c2:Nat):jq (mem (blkS (oV H a (zsOf ys o n a) n')) ty ys).length (M o2 n2 c2) (exec Γ tys 100 L ⟨fill g 0 (M o n c),mem H ty ys,orc a k n' o2 n2 c2 true⟩)=
  some (.normal,live (M o2 n2 c2),(M o2 n2 c2).length,mem (blkS (oV H a (zsOf ys o n a) n')) ty ys,cst H ys o n c a k n' o2 n2 c2 true):=by kernel_rfl
theorem stop:jq (mem H ty ys).length (M o n c) (exec Γ tys 100 L ⟨fill g 0 (M o n c),mem H ty ys,[(10,[.b false])]⟩)=
  some (.exit 0,live (M o n c),(M o n c).length,mem H ty ys,[decide (0<(n:Int))=false]):=by kernel_rfl
theorem res:eRes tys (fill g 0 (M o n c)) (fun k=>(mem H ty ys)[k]?) fn.results.toList=some []:=by kernel_rfl
end
section
variable (H:Hs) (a:Option Addr)
noncomputable def z0:St:=⟨aK fn [.o (.a (.ptr 0 0)),.o (.a (.v (.slice a 0 0)))],[⟨true,109,gV H⟩],[]⟩
noncomputable def z1:St:=outS Γ tys 100 body (z0 H a)
theorem zex:exec Γ tys 100 body (z0 H a)=some (.normal,⟨(z1 H a).tm,(z1 H a).mem,[]⟩,[]):=by kernel_rfl
theorem zres:eRes tys (z1 H a).tm (fun k=>(z1 H a).mem[k]?) fn.results.toList=some []:=by kernel_rfl
theorem zrow:(z1 H a).mem[0]? =some ⟨true,109,gV H⟩:=by kernel_rfl
end
section
variable (ty:TypeId) (ys:List Int) (n c:Nat)
noncomputable def y1:St:=outS Γ tys 100 body ⟨aK fn [.o (.a (.v (.pointer none))),.o (.a (.sld 0 0 0 n c))],[⟨false,ty,.pre .u8 ys⟩],[]⟩
theorem yex:exec Γ tys 100 body ⟨aK fn [.o (.a (.v (.pointer none))),.o (.a (.sld 0 0 0 n c))],[⟨false,ty,.pre .u8 ys⟩],[]⟩=some (.ret,⟨(y1 ty ys n c).tm,(y1 ty ys n c).mem,[]⟩,[]):=by kernel_rfl
theorem yres:eRes tys (y1 ty ys n c).tm (fun k=>(y1 ty ys n c).mem[k]?) fn.results.toList=some []:=by kernel_rfl
end
noncomputable def x1 (a:Option Addr):St:=outS Γ tys 100 body ⟨aK fn [.o (.a (.v (.pointer none))),.o (.a (.v (.slice a 0 0)))],[],[]⟩
theorem xex (a:Option Addr):exec Γ tys 100 body ⟨aK fn [.o (.a (.v (.pointer none))),.o (.a (.v (.slice a 0 0)))],[],[]⟩=some (.ret,⟨(x1 a).tm,(x1 a).mem,[]⟩,[]):=by kernel_rfl
theorem xres (a:Option Addr):eRes tys (x1 a).tm (fun k=>(x1 a).mem[k]?) fn.results.toList=some []:=by kernel_rfl
end wr
theorem wr_step (H:Hs) (ty:TypeId) (ys:List Int) (o n c:Nat) (g:Nat→SV) (h0:0≤H.n) (hn:0<n) (hc:n≤c) (hy:o+n≤ys.length) {Post:Ex→List SV→List Blk→Prop}
  (hp:∀H' o2 n2 c2 g',0≤H'.n→n2≤c2→n2<n→o2+n2≤ys.length→dQ H' ((ys.drop o2).take n2)=dQ H ((ys.drop o).take n)→Post .normal (fill g' 0 (wr.M o2 n2 c2)) (wr.mem H' ty ys)):
  aF Tryd.prog Gs 2 wr.L (fill g 0 (wr.M o n c)) (wr.mem H ty ys) Post:=by
 obtain⟨a,ha⟩:∃a:Nat,(a:Int)=H.n%64:=⟨(H.n%64).toNat,by omega⟩
 have ha64:a<64:=by omega
 obtain⟨k,hk⟩:∃k,k=Nat.min n (64-a):=⟨_,rfl⟩
 have hkn:k≤n:=by rw[hk];exact Nat.min_le_left _ _
 have hka:k≤64-a:=by rw[hk];exact Nat.min_le_right _ _
 have hk0:0<k:=by
  rw[hk]
  exact Nat.lt_min.2 ⟨hn,by omega⟩
 have hzl:(wr.zsOf ys o n a).length=k:=by
  unfold wr.zsOf
  rw[←hk,List.length_take,List.length_take,List.length_drop]
  omega
 obtain⟨o2,ho2⟩:∃o2,o2=advO c k o:=⟨_,rfl⟩
 have hrest:(ys.drop o).take n=wr.zsOf ys o n a++(ys.drop o2).take (n-k):=by
  unfold wr.zsOf
  rw[←hk,ho2]
  have e:(ys.drop o).take n=((ys.drop o).take n).take k++((ys.drop o).take n).drop k:=(List.take_append_drop k _).symm
  have e2:((ys.drop o).take n).drop k=(ys.drop (advO c k o)).take (n-k):=by
   rw[List.drop_take,List.drop_drop]
   unfold advO
   by_cases hck:c=k
   ·rw[if_pos hck]
    have:n-k=0:=by omega
    rw[this,List.take_zero,List.take_zero]
   ·rw[if_neg hck]
  rw[e2] at e
  exact e
 have hlen2:o2+(n-k)≤ys.length:=by
  rw[ho2]
  unfold advO
  split<;>omega
 have hcs:∀d,(IntKind.i64.wrap ((a:Int)+(k:Int))==64)=d→Holds (wr.cst H ys o n c a k (IntKind.u64.wrap (H.n+(k:Int))) o2 (n-k) (c-k) d):=fun d hd=>by
  refine⟨decide_eq_true (by omega),?_,by omega,by omega,by omega,?_,hy,?_,by rw[hk],?_,by omega,by omega,by omega,?_,hd,trivial⟩
  ·rw[Int.tmod_eq_emod_of_nonneg h0,IntKind.wrap_i64];omega
  ·show SV.o (.a (.sld 0 8 (advO 64 a 0) (64-a) (64-a)))=_
   unfold advO
   rw[if_neg (by omega),Nat.zero_add]
  ·rw[←hk];omega
  ·rw[dR,dR,dR];omega
  ·show SV.o (.a (.sld 1 0 (advO c k o) (n-k) (c-k)))=_
   rw[ho2]
 have hch:=rJ (wr.zsOf ys o n a) H a h0 ha (by omega) (by omega)
 rw[hzl] at hch
 by_cases hd:a+k=64
 ·rw[if_pos hd] at hch
  refine Runs.au aj mixed (wr.step1 H ty ys o n c g a k _ o2 (n-k) (c-k)) (hcs true (by rw[IntKind.wrap_i64,beq_iff_eq];omega)) (wr.ids _ _ _ _ _ _) rfl (fun g'=>hp _ o2 (n-k) (c-k) g' ?_ (by omega) (by omega) hlen2 ?_)
  ·show 0≤IntKind.u64.wrap _
   rw[dR];omega
  ·rw[hrest,nS,hch]
 ·rw[if_neg hd] at hch
  refine Runs.au aj mixed (wr.step0 H ty ys o n c g a k _ o2 (n-k) (c-k)) (hcs false (by rw[IntKind.wrap_i64,beq_eq_false_iff_ne];omega)) (wr.ids _ _ _ _ _ _) rfl (fun g'=>hp _ o2 (n-k) (c-k) g' ?_ (by omega) (by omega) hlen2 ?_)
  ·show 0≤IntKind.u64.wrap _
   rw[dR];omega
  ·rw[hrest,nS,hch]
theorem wr_loop (H:Hs) (ty:TypeId) (ys:List Int) (n c:Nat) (g:Nat→SV) (h0:0≤H.n) (hc:n≤c) (hy:ys.length=n) {Post:Ex→List SV→List Blk→Prop}
  (hp:∀o n c g',Post .normal (fill g' 0 (wr.M o n c)) (wr.mem (dQ H ys) ty ys)):
  aF Tryd.prog Gs 2 (.block 0 (.loop wr.L)) (fill g 0 (wr.M 0 n c)) (wr.mem H ty ys) Post:=by
 refine Runs.block ?_
 refine Runs.dA (fun(x:Hs × Nat × Nat × Nat)=>wr.M x.2.1 x.2.2.1 x.2.2.2) (fun x=>wr.mem x.1 ty ys) (fun x=>0≤x.1.n∧x.2.2.1≤x.2.2.2∧x.2.1+x.2.2.1≤ys.length∧dQ x.1 ((ys.drop x.2.1).take x.2.2.1)=dQ H ys) (fun x=>x.2.2.1) ?_ (H,0,n,c) ⟨h0,hc,by simp only;omega,by simp only[List.drop_zero];rw[List.take_of_length_le (by omega)]⟩ g
 rintro⟨H1,o,n1,c1⟩ g1 ⟨i0,i1,i2,i3⟩
 simp only at i0 i1 i2 i3
 by_cases hn:0<n1
 ·exact wr_step H1 ty ys o n1 c1 g1 i0 hn i1 i2 fun H' o2 n2 c2 g' j0 j1 j2 j3 j4=>⟨(H',o2,n2,c2),g',rfl,rfl,⟨j0,j1,j3,j4.trans i3⟩,j2⟩
 ·obtain rfl:n1=0:=by omega
  rw[List.take_zero] at i3
  have i3:H1=dQ H ys:=i3
  subst i3
  exact Runs.au aj mixed (wr.stop _ ty ys o 0 c1 g1) ⟨by decide,trivial⟩ (wr.ids _ _ _ _ _ _) rfl (hp _ _ _)
theorem wr_run (H:Hs) (ty:TypeId) (ys:List Int) (n c:Nat) (h0:0≤H.n) (hc:n≤c) (hy:ys.length=n):
  aF Tryd.prog Gs 2 wr.body (aK wr.fn [.o (.a (.ptr 0 0)),.o (.a (.sld 1 0 0 n c))]) (wr.mem H ty ys) (aH tys wr.fn (bJ (.t []) (.upd 109 (gV (dQ H ys))))):=by
 rw[wr.ku]
 refine Runs.seq (Runs.au aj mixed (wr.pre H ty ys n c) trivial (wr.ids _ _ _ _ _ _) rfl fun g=> ?_)
 exact wr_loop H ty ys n c g h0 hc hy fun o n c g'=>aH.fall (wr.res _ ty ys o n c g') ⟨rfl,rfl⟩
def wr_spec:List aU→Option (SV × dH × Cst)
 | [.row true ty cs,.win .u8 ys n wty]=>if Nat.beq ty 109 then match hsOf cs with
   | some H=>some (.t [],.upd 109 (gV (dQ H ys)),[0≤H.n])
   | none=>none
  else none
 | [.row true ty cs,.val (.o (.a (.v (.slice _ 0 0))))]=>if Nat.beq ty 109 then match hsOf cs with
   | some H=>some (.t [],.upd 109 (gV H),[0≤H.n])
   | none=>none
  else none
 | [.val (.o (.a (.v (.pointer none)))),.win .u8 ys n wty]=>some (.t [],.none,[])
 | [.val (.o (.a (.v (.pointer none)))),.val (.o (.a (.v (.slice _ 0 0))))]=>some (.t [],.none,[])
 | _=>none
theorem wr_specE {ps:List aU} {q:SV × dH × Cst} (h:wr_spec ps=some q):(∃H ys n wty,ps=[.row true 109 (gV H),.win .u8 ys n wty]∧q=(.t [],.upd 109 (gV (dQ H ys)),[0≤H.n]))∨
  (∃H a,ps=[.row true 109 (gV H),.val (.o (.a (.v (.slice a 0 0))))]∧q=(.t [],.upd 109 (gV H),[0≤H.n]))∨
  (∃ys n wty,ps=[.val (.o (.a (.v (.pointer none)))),.win .u8 ys n wty]∧q=(.t [],.none,[]))∨(∃a,ps=[.val (.o (.a (.v (.pointer none)))),.val (.o (.a (.v (.slice a 0 0))))]∧q=(.t [],.none,[])):=by
 unfold wr_spec at h
 split at h
 ·split at h<;>try cases h
  rename_i hty
  split at h<;>cases h
  rename_i H hH
  rw[uE hH,Nat.eq_of_beq_eq_true hty]
  exact .inl ⟨H,_,_,_,rfl,rfl⟩
 ·split at h<;>try cases h
  rename_i hty
  split at h<;>cases h
  rename_i H hH
  rw[uE hH,Nat.eq_of_beq_eq_true hty]
  exact .inr (.inl ⟨H,_,rfl,rfl⟩)
 ·cases h;exact .inr (.inr (.inl ⟨_,_,_,rfl,rfl⟩))
 ·cases h;exact .inr (.inr (.inr ⟨_,rfl,rfl⟩))
 ·cases h
noncomputable def wr_con:Con Tryd.prog Gs:=Con.parts aj 73 wr.fn Tryd.func73 (by kernel_rfl) (c:=wr.body) (by kernel_rfl) [.rowW,.win .u8] wr_spec
 (fun ps r e p h _=>by
  rcases wr_specE h with⟨H,ys,n,wty,rfl,hq⟩ | ⟨H,a,rfl,hq⟩ | ⟨ys,n,wty,rfl,hq⟩ | ⟨a,rfl,hq⟩<;>cases hq
  ·refine⟨(fun k hk=>by cases hk),rW _,⟨_,rfl,rfl,rfl⟩,(fun i b hib=> ?_),fun kd ty xs o n c rest h=>by cases h⟩
   cases i with
   | zero=>cases hib;rfl
   | succ i=>cases hib
  ·exact⟨(fun k hk=>by cases hk),rW _,⟨_,rfl,rfl,rfl⟩,(fun i b hib=>by cases hib),fun kd ty xs o n c rest h=>by cases h⟩
  ·exact⟨rfl,fun b hb=>by simp only[bf,aU.blk,List.append_nil,List.nil_append,List.mem_singleton] at hb;rw[hb]⟩
  ·exact⟨rfl,fun b hb=>by cases hb⟩)
 (fun ps r e p cap h hp hi=>by
  rcases wr_specE h with⟨H,ys,n,wty,rfl,hq⟩ | ⟨H,a,rfl,hq⟩ | ⟨ys,n,wty,rfl,hq⟩ | ⟨a,rfl,hq⟩<;>cases hq
  ·exact wr_run H wty ys n _ hp.1 hi.2.1.2 hi.2.1.1
  ·exact Runs.eB aj mixed (wr.zex H a) trivial (aH.fall (wr.zres H a) ⟨rfl,wr.zrow H a⟩)
  ·exact Runs.eB aj mixed (wr.yex wty ys n _) trivial (aH.ret (wr.yres wty ys n _) rfl)
  ·exact Runs.eB aj mixed (wr.xex a) trivial (aH.ret (wr.xres a) rfl))
theorem uY {s s':Nat→Int} (h:∀i,i<8→s i=s' i) (k w:Int):∀i,i<8→qd s k w i=qd s' k w i:=by
 intro i hi
 have e1:t1F s k w=t1F s' k w:=by unfold t1F;rw[h 4 (by omega),h 5 (by omega),h 6 (by omega),h 7 (by omega)]
 have e2:t2F s=t2F s':=by unfold t2F;rw[h 0 (by omega),h 1 (by omega),h 2 (by omega)]
 match i,hi with
 | 0,_=>show kJ _ _=kJ _ _;rw[e1,e2]
 | 1,_=>exact h 0 (by omega)
 | 2,_=>exact h 1 (by omega)
 | 3,_=>exact h 2 (by omega)
 | 4,_=>show kJ _ _=kJ _ _;rw[e1,h 3 (by omega)]
 | 5,_=>exact h 4 (by omega)
 | 6,_=>exact h 5 (by omega)
 | 7,_=>exact h 6 (by omega)
theorem E8.mk_congr {f g:Nat→Int} (h:∀i,i<8→f i=g i):E8.mk' f=E8.mk' g:=E8.ext_at fun i hi=>by rw[E8.jo _ i hi,E8.jo _ i hi,h i hi]
theorem iO (n:Nat) (h:n≤140737488355328):Room Tryd.prog 5 n:=by
 have h1:(Tryd.prog.info? 5).map (·.bytes)=some 1:=by kernel_rfl
 cases hq:Tryd.prog.info? 5 with
 | none=>rw[hq] at h1;cases h1
 | some j=>
  rw[hq] at h1
  have:j.bytes=1:=by simpa using h1
  exact⟨j,hq,by rw[this];omega,by omega⟩
def padL (n:Int):Nat:=(IntKind.u64.wrap (1+(IntKind.u64.wrap (119-n.tmod 64)).tmod 64)).toNat
def padV (n:Int) (L:Nat):List Int:=((gJ (0+L) (app.sh8.map (bZ (IntKind.u64.wrap (n*8)))) 0 (gJ 0 [128] 0 (List.replicate 72 0))).drop 0).take (L+8)
def sumB (h:E8):B32:=⟨bZ (IntKind.u64.wrap h.b0) 24,bZ (IntKind.u64.wrap h.b0) 16,bZ (IntKind.u64.wrap h.b0) 8,bZ (IntKind.u64.wrap h.b0) 0,bZ (IntKind.u64.wrap h.b1) 24,bZ (IntKind.u64.wrap h.b1) 16,bZ (IntKind.u64.wrap h.b1) 8,bZ (IntKind.u64.wrap h.b1) 0,bZ (IntKind.u64.wrap h.b2) 24,bZ (IntKind.u64.wrap h.b2) 16,bZ (IntKind.u64.wrap h.b2) 8,bZ (IntKind.u64.wrap h.b2) 0,bZ (IntKind.u64.wrap h.b3) 24,bZ (IntKind.u64.wrap h.b3) 16,bZ (IntKind.u64.wrap h.b3) 8,bZ (IntKind.u64.wrap h.b3) 0,bZ (IntKind.u64.wrap h.b4) 24,bZ (IntKind.u64.wrap h.b4) 16,bZ (IntKind.u64.wrap h.b4) 8,bZ (IntKind.u64.wrap h.b4) 0,bZ (IntKind.u64.wrap h.b5) 24,bZ (IntKind.u64.wrap h.b5) 16,bZ (IntKind.u64.wrap h.b5) 8,bZ (IntKind.u64.wrap h.b5) 0,bZ (IntKind.u64.wrap h.b6) 24,bZ (IntKind.u64.wrap h.b6) 16,bZ (IntKind.u64.wrap h.b6) 8,bZ (IntKind.u64.wrap h.b6) 0,bZ (IntKind.u64.wrap h.b7) 24,bZ (IntKind.u64.wrap h.b7) 16,bZ (IntKind.u64.wrap h.b7) 8,bZ (IntKind.u64.wrap h.b7) 0⟩
def finB (H:Hs):B32:=sumB (dQ H (padV H.n (padL H.n))).h
theorem padL_le (n:Int) (h:0≤n):1≤padL n∧padL n≤64:=by
 unfold padL
 rw[Int.tmod_eq_emod_of_nonneg h,dR,dR,Int.tmod_eq_emod_of_nonneg (by omega)]
 omega
namespace sum
noncomputable abbrev fn:=Tryd.f74
noncomputable def body:Code:=d9 fn
noncomputable def Γ:Cons Tryd.prog Gs:=[app_con,wr_con]
noncomputable def s0 (own:Bool) (H:Hs) (L:Nat):St:=⟨aK fn [.o (.a (.ptr 0 0))],[⟨own,109,.lit (gV H)⟩],[(21,[.n (L:Int)])]⟩
noncomputable def e (own:Bool) (H:Hs) (L:Nat):St:=outS Γ tys 100 body (s0 own H L)
def cst (H:Hs) (L:Nat):Cst:=[IntKind.u64.wrap (1+(IntKind.u64.wrap (119-H.n.tmod 64)).tmod 64)=(L:Int),0≤(L:Int),(L:Int)≤72,Room Tryd.prog 5 72,(0:Int)≤0,(0:Int)<(L:Int),1≤72,L≤72,L+8≤72,0+L+8≤72,
 0+(L+8)≤(gJ (0+L) (app.sh8.map (bZ (IntKind.u64.wrap (H.n*8)))) 0 (gJ 0 [128] 0 (List.replicate 72 0))).length,L+8≤72,0≤H.n,0≤32,4≤32,4≤32,4≤32,8≤32,8≤32,8≤32,12≤32,12≤32,12≤32,16≤32,16≤32,16≤32,20≤32,20≤32,20≤32,24≤32,24≤32,24≤32,28≤32,28≤32,28≤32,32≤32,32≤32]
theorem ex (own:Bool) (H:Hs) (L:Nat):exec Γ tys 100 body (s0 own H L)=some (.ret,⟨(e own H L).tm,(e own H L).mem,(e own H L).orc⟩,cst H L):=by kernel_rfl
theorem res (own:Bool) (H:Hs) (L:Nat):eRes tys (e own H L).tm (fun k=>(e own H L).mem[k]?) fn.results.toList=some [.g ((sumB (dQ H (padV H.n L)).h).to.map (aG .u8))]:=by kernel_rfl
end sum
theorem sum_run (own:Bool) (H:Hs) (h0:0≤H.n):aF Tryd.prog Gs 1 sum.body (aK sum.fn [.o (.a (.ptr 0 0))]) [⟨own,109,.lit (gV H)⟩] (aH tys sum.fn (bJ (ay.enc (finB H)) .none)):=by
 obtain⟨h1,h2⟩:=padL_le H.n h0
 have hL:IntKind.u64.wrap (1+(IntKind.u64.wrap (119-H.n.tmod 64)).tmod 64)=((padL H.n:Nat):Int):=by
  unfold padL
  rw[Int.toNat_of_nonneg (by rw[dR];omega)]
 refine Runs.eB aj mixed (sum.ex own H (padL H.n)) ⟨hL,by omega,by omega,iO 72 (by omega),by decide,by omega,by decide,by omega,by omega,by omega,?_,by omega,h0,?_⟩ (aH.ret (sum.res own H (padL H.n)) rfl)
 ·rw[gI,gI,List.length_replicate];omega
 ·refine⟨?_,?_,?_,?_,?_,?_,?_,?_,?_,?_,?_,?_,?_,?_,?_,?_,?_,?_,?_,?_,?_,?_,?_,?_,trivial⟩<;>decide
def zeroB:B32:=⟨0,0,0,0,0,0,0,0,0,0,0,0,0,0,0,0,0,0,0,0,0,0,0,0,0,0,0,0,0,0,0,0⟩
def sum_spec:List aU→Option (SV × dH × Cst)
 | [.row false ty cs]=>if Nat.beq ty 109 then match hsOf cs with
   | some H=>some (ay.enc (finB H),.none,[0≤H.n])
   | none=>none
  else none
 | [.val (.o (.a (.v (.pointer none))))]=>some (ay.enc zeroB,.none,[])
 | _=>none
theorem row_specE {f:Hs→SV × dH × Cst} {z:SV × dH × Cst} {ps:List aU} {q:SV × dH × Cst} (h:(match ps with
 | [.row false ty cs]=>if Nat.beq ty 109 then match hsOf cs with
   | some H=>some (f H)
   | none=>none
  else none
 | [.val (.o (.a (.v (.pointer none))))]=>some z
 | _=>none)=some q):(∃H,ps=[.row false 109 (gV H)]∧q=f H)∨(ps=[.val (.o (.a (.v (.pointer none))))]∧q=z):=by
 split at h
 ·split at h<;>try cases h
  rename_i hty
  split at h<;>cases h
  rename_i H hH
  rw[uE hH,Nat.eq_of_beq_eq_true hty]
  exact .inl ⟨H,rfl,rfl⟩
 ·cases h
  exact .inr ⟨rfl,rfl⟩
 ·cases h
namespace sum
noncomputable def ze:St:=outS Γ tys 100 body ⟨aK fn [.o (.a (.v (.pointer none)))],[],[]⟩
theorem zex:exec Γ tys 100 body ⟨aK fn [.o (.a (.v (.pointer none)))],[],[]⟩=some (.ret,⟨ze.tm,ze.mem,[]⟩,[]):=by kernel_rfl
theorem zres:eRes tys ze.tm (fun k=>ze.mem[k]?) fn.results.toList=some [.g (zeroB.to.map (aG .u8))]:=by kernel_rfl
end sum
noncomputable def sum_con:Con Tryd.prog Gs:=Con.parts aj 74 sum.fn Tryd.func74 (by kernel_rfl) (c:=sum.body) (by kernel_rfl) [.row] sum_spec
 (fun ps r e p h hp=>by
  rcases row_specE (f:=fun H=>(ay.enc (finB H),.none,[0≤H.n])) (z:=(ay.enc zeroB,.none,[])) h with⟨H,rfl,hq⟩ | ⟨rfl,hq⟩
  ·cases hq
   exact⟨ay.ids _,fun b hb=>by simp only[bf,aU.blk,List.append_nil,List.mem_singleton] at hb;rw[hb]⟩
  ·cases hq
   exact⟨ay.ids _,fun b hb=>by cases hb⟩)
 (fun ps r e p cap h hp hi=>by
  rcases row_specE (f:=fun H=>(ay.enc (finB H),.none,[0≤H.n])) (z:=(ay.enc zeroB,.none,[])) h with⟨H,rfl,hq⟩ | ⟨rfl,hq⟩
  ·cases hq
   exact sum_run false H hp.1
  ·cases hq
   exact Runs.eB aj mixed sum.zex trivial (aH.ret sum.zres rfl))
namespace s256
noncomputable abbrev fn:=Tryd.f55
noncomputable def body:Code:=d9 fn
noncomputable def Γ:Cons Tryd.prog Gs:=[new_con,wr_con,sum_con]
section
variable (ys:List Int) (n c:Nat) (ty:TypeId)
noncomputable def s0:St:=⟨aK fn [.o (.a (.sld 0 0 0 n c))],[⟨false,ty,.pre .u8 ys⟩],[]⟩
noncomputable def e:St:=outS Γ tys 100 body (s0 ys n c ty)
theorem ex:exec Γ tys 100 body (s0 ys n c ty)=some (.ret,⟨(e ys n c ty).tm,(e ys n c ty).mem,[]⟩,[0+n≤ys.length,n≤c,(0:Int)≤0,0≤(dQ S0 ((ys.drop 0).take n)).n]):=by kernel_rfl
theorem res:eRes tys (e ys n c ty).tm (fun k=>(e ys n c ty).mem[k]?) fn.results.toList=some [.g ((finB (dQ S0 ((ys.drop 0).take n))).to.map (aG .u8))]:=by kernel_rfl
end
noncomputable def ze (a:Option Addr):St:=outS Γ tys 100 body ⟨aK fn [.o (.a (.v (.slice a 0 0)))],[],[]⟩
theorem zex (a:Option Addr):exec Γ tys 100 body ⟨aK fn [.o (.a (.v (.slice a 0 0)))],[],[]⟩=some (.ret,⟨(ze a).tm,(ze a).mem,[]⟩,[(0:Int)≤0,(0:Int)≤0]):=by kernel_rfl
theorem zres (a:Option Addr):eRes tys (ze a).tm (fun k=>(ze a).mem[k]?) fn.results.toList=some [.g ((finB S0).to.map (aG .u8))]:=by kernel_rfl
end s256
theorem s256_run (ys:List Int) (n c:Nat) (ty:TypeId) (hy:ys.length=n) (hc:n≤c):aF Tryd.prog Gs 1 s256.body (aK s256.fn [.o (.a (.sld 0 0 0 n c))]) [⟨false,ty,.pre .u8 ys⟩] (aH tys s256.fn (bJ (ay.enc (finB (dQ S0 ys))) .none)):=by
 have e:(ys.drop 0).take n=ys:=by rw[List.drop_zero,List.take_of_length_le (by omega)]
 have h:=s256.res ys n c ty
 have h2:=absorb_nn ys S0 (by decide)
 have hx:=s256.ex ys n c ty
 rw[e] at h hx
 exact Runs.eB aj mixed hx ⟨by omega,hc,by decide,h2,trivial⟩ (aH.ret h rfl)
def s256_spec:List aU→Option (SV × dH × Cst)
 | [.win .u8 ys n ty]=>some (ay.enc (finB (dQ S0 ys)),.none,[])
 | [.val (.o (.a (.v (.slice _ 0 0))))]=>some (ay.enc (finB S0),.none,[])
 | _=>none
theorem win_specE {f:List Int→SV × dH × Cst} {z:SV × dH × Cst} {ps:List aU} {q:SV × dH × Cst} (h:(match ps with
 | [.win .u8 ys n ty]=>some (f ys)
 | [.val (.o (.a (.v (.slice _ 0 0))))]=>some z
 | _=>none)=some q):(∃ys n ty,ps=[.win .u8 ys n ty]∧q=f ys)∨(∃a,ps=[.val (.o (.a (.v (.slice a 0 0))))]∧q=z):=by
 split at h
 ·cases h;exact .inl ⟨_,_,_,rfl,rfl⟩
 ·cases h;exact .inr ⟨_,rfl,rfl⟩
 ·cases h
noncomputable def s256_con:Con Tryd.prog Gs:=Con.parts aj 55 s256.fn Tryd.func55 (by kernel_rfl) (c:=s256.body) (by kernel_rfl) [.win .u8] s256_spec
 (fun ps r e p h hp=>by
  rcases win_specE (f:=fun ys=>(ay.enc (finB (dQ S0 ys)),.none,[])) (z:=(ay.enc (finB S0),.none,[])) h with⟨ys,n,ty,rfl,hq⟩ | ⟨a,rfl,hq⟩
  ·cases hq
   exact⟨ay.ids _,fun b hb=>by simp only[bf,aU.blk,List.append_nil,List.mem_singleton] at hb;rw[hb]⟩
  ·cases hq
   exact⟨ay.ids _,fun b hb=>by cases hb⟩)
 (fun ps r e p cap h hp hi=>by
  rcases win_specE (f:=fun ys=>(ay.enc (finB (dQ S0 ys)),.none,[])) (z:=(ay.enc (finB S0),.none,[])) h with⟨ys,n,ty,rfl,hq⟩ | ⟨a,rfl,hq⟩
  ·cases hq
   exact s256_run ys n _ ty hi.1.1 hi.1.2
  ·cases hq
   exact Runs.eB aj mixed (s256.zex a) ⟨by decide,by decide,trivial⟩ (aH.ret (s256.zres a) rfl))
end Go.Proofs.YtdccehmekkcheaaDoor.S3

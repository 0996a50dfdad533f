/- Package sha2: its tables, and words out of bytes. -/
import Derived.Test.YthlmepolmemejaaGreatDoorLTy
import Derived.Test.YthlmepolmemejaaGreatDoorLMA
import Derived.Test.YthlmepolmemejaaGreatDoorLMF
set_option linter.unusedVariables false
namespace Go.Proofs.YthlmepolmemejaaGreatDoor
open Go Go.Eng
set_option maxRecDepth 100000
def kH:List Int:=[1116352408,1899447441,3049323471,3921009573,961987163,1508970993,2453635748,2870763221,3624381080,310598401,607225278,1426881987,1925078388,2162078206,2614888103,3248222580,3835390401,4022224774,264347078,604807628,770255983,1249150122,1555081692,1996064986,2554220882,2821834349,2952996808,3210313671,3336571891,3584528711,113926993,338241895,666307205,773529912,1294757372,1396182291,1695183700,1986661051,2177026350,2456956037,2730485921,2820302411,3259730800,3345764771,3516065817,3600352804,4094571909,275423344,430227734,506948616,659060556,883997877,958139571,1322822218,1537002063,1747873779,1955562222,2024104815,2227730452,2361852424,2428436474,2756734187,3204031479,3329325298]
def mY:List Int:=[4794697086780616226,8158064640168781261,13096744586834688815,16840607885511220156,4131703408338449720,6480981068601479193,10538285296894168987,12329834152419229976,15566598209576043074,1334009975649890238,2608012711638119052,6128411473006802146,8268148722764581231,9286055187155687089,11230858885718282805,13951009754708518548,16472876342353939154,17275323862435702243,1135362057144423861,2597628984639134821,3308224258029322869,5365058923640841347,6679025012923562964,8573033837759648693,10970295158949994411,12119686244451234320,12683024718118986047,13788192230050041572,14330467153632333762,15395433587784984357,489312712824947311,1452737877330783856,2861767655752347644,3322285676063803686,5560940570517711597,5996557281743188959,7280758554555802590,8532644243296465576,9350256976987008742,10552545826968843579,11727347734174303076,12113106623233404929,14000437183269869457,14369950271660146224,15101387698204529176,15463397548674623760,17586052441742319658,1182934255886127544,1847814050463011016,2177327727835720531,2830643537854262169,3796741975233480872,4115178125766777443,5681478168544905931,6601373596472566643,7507060721942968483,8399075790359081724,8693463985226723168,9568029438360202098,10144078919501101548,10430055236837252648,11840083180663258601,13761210420658862357,14299343276471374635,14566680578165727644,15097957966210449927,16922976911328602910,17689382322260857208,500013540394364858,748580250866718886,1242879168328830382,1977374033974150939,2944078676154940804,3659926193048069267,4368137639120453308,4836135668995329356,5532061633213252278,6448918945643986474,6902733635092675308,7801388544844847127]
def Gs:Glob:=fun g=>match g with
 | 1=>some (orderL.map (aB .u64))
 | _=>none
theorem pair_etaH {α β:Type} (x:α × β):(x.1,x.2)=x:=rfl
def tabLH {α:Type} (f:Nat→α):Nat→List α
 | 0=>[]
 | n+1=>f n::tabLH f n
def tabRH {α:Type} (f:Nat→α):Nat→List α
 | 0=>[]
 | n+1=>f n::tabRH f n
theorem vP {α:Type} {f g:Nat→α}:∀{n:Nat},tabLH f n=tabRH g n→∀j,j<n→f j=g j
 | 0,_,j,hj=>by omega
 | n+1,h,j,hj=>by
  simp only[tabLH,tabRH,List.cons.injEq] at h
  by_cases hjn:j=n
  ·subst hjn;exact h.1
  ·exact vP h.2 j (by omega)
def kT (a x:Int):Int:=orU (shlU a 8) (IntKind.u64.wrap x)
def gM (ys:List Int):Nat→Int
 | 0=>0
 | n+1=>kT (gM ys n) (ys.getD n 0)
def cO (ys:List Int):Int:=gM ys ys.length
namespace sword
noncomputable abbrev fn:=Tryz.f138
noncomputable def body:Code:=bZ fn
noncomputable def A:Code:=cs1 body
noncomputable def B:Code:=cs1 (cs2 body)
noncomputable def C:Code:=cs1 (cs1 (cs2 (cs2 body)))
noncomputable def L:Code:=cL (cB (cs2 (cs1 (cs2 (cs2 body)))))
noncomputable def D:Code:=cs2 (cs2 (cs2 body))
theorem dX:body= .seq A (.seq B (.seq (.seq C (.block 0 (.loop L))) D)):=by kernel_rfl
noncomputable def Γ:Cons Tryz.prog Gs:=[]
def mem (ty:TypeId) (ys:List Int):List Blk:=[⟨false,ty,.pre .u8 ys⟩]
section
variable (ys:List Int) (n:Nat) (ty:TypeId)
def S (i:Nat) (a:Int) (g:Nat→SV):List SV × List Blk:=
 ([.o (.a (.slg 0 n)),g 1,g 2,(av .u64).enc a,g 4,g 5,.o (.a (.slg 0 n)),(av .i64).enc (n:Int),(av .i64).enc (i:Int),g 9,g 10,g 11,g 12,g 13,g 14,g 15,g 16,g 17,g 18],mem ty ys)
def st (i:Nat) (a:Int) (g:Nat→SV) (o:Orc):St:=⟨(S ys n ty i a g).1,(S ys n ty i a g).2,o⟩
noncomputable def s0:St:=⟨aH fn [.o (.a (.slg 0 n))],mem ty ys,[]⟩
noncomputable def s1:St:=dz Γ tys 100 A (s0 ys n ty)
noncomputable def s2:St:=dz Γ tys 100 B (s1 ys n ty)
theorem preA:exec Γ tys 100 A (s0 ys n ty)=some (.normal,⟨(s1 ys n ty).tm,(s1 ys n ty).mem,[]⟩,[]):=by kernel_rfl
theorem preB:exec Γ tys 100 B ⟨(s1 ys n ty).tm,(s1 ys n ty).mem,[]⟩=some (.normal,⟨(s2 ys n ty).tm,(s2 ys n ty).mem,[]⟩,[]):=by kernel_rfl
theorem preC:exec Γ tys 100 C ⟨(s2 ys n ty).tm,(s2 ys n ty).mem,[]⟩=some (.normal,st ys n ty 0 0 (outT Γ tys 100 C (s2 ys n ty)) [],[]):=by kernel_rfl
end
def orc (v i:Int):Orc:=[(9,[true]),(11,[.n v]),(17,[.n i])]
section
variable (ys:List Int) (n:Nat) (ty:TypeId) (i:Nat)
theorem step (a v:Int) (g:Nat→SV):exec Γ tys 100 L (st ys n ty i a g (orc v ((i+1:Nat):Int)))=
  some (.normal,st ys n ty (i+1) (kT a v) (outT Γ tys 100 L (st ys n ty i a g (orc v ((i+1:Nat):Int)))) [(9,[]),(11,[]),(17,[])],
   [decide ((i:Int)<(n:Int))=true,0≤(i:Int),(i:Int)<(n:Int),0+(i:Int).toNat<ys.length,ys.getD (0+(i:Int).toNat) 0=v,IntKind.i64.wrap ((i:Int)+1)=((i+1:Nat):Int)]):=by kernel_rfl
theorem stop (a:Int) (g:Nat→SV):exec Γ tys 100 L (st ys n ty i a g [(9,[false])])=
  some (.exit 0,st ys n ty i a (outT Γ tys 100 L (st ys n ty i a g [(9,[false])])) [(9,[])],[decide ((i:Int)<(n:Int))=false]):=by kernel_rfl
noncomputable def fin (a:Int) (g:Nat→SV):St:=dz Γ tys 100 D (st ys n ty i a g [])
theorem post (a:Int) (g:Nat→SV):exec Γ tys 100 D (st ys n ty i a g [])=some (.ret,⟨(fin ys n ty i a g).tm,(fin ys n ty i a g).mem,[]⟩,[]):=by kernel_rfl
theorem result (a:Int) (g:Nat→SV):eRes tys (fin ys n ty i a g).tm (fun k=>(fin ys n ty i a g).mem[k]?) fn.results.toList=some [.a (aB .u64 a)]:=by kernel_rfl
end
end sword
section
variable (ys:List Int) (n:Nat) (ty:TypeId)
theorem y7 (i:Nat) (g:Nat→SV) (hy:ys.length=n) (hn:(n:Int)<9223372036854775807) (hlt:i<n) {Post:Ex→List SV→List Blk→Prop} (hp:∀g',Post .normal (sword.S ys n ty (i+1) (gM ys (i+1)) g').1 (sword.S ys n ty (i+1) (gM ys (i+1)) g').2):aK Tryz.prog Gs 1 sword.L (sword.S ys n ty i (gM ys i) g).1 (sword.S ys n ty i (gM ys i) g).2 Post:=by
 have e0:0+(i:Int).toNat=i:=by omega
 have h1:decide ((i:Int)<(n:Int))=true:=decide_eq_true (by omega)
 have h2:0≤(i:Int):=by omega
 have h3:(i:Int)<(n:Int):=by omega
 have h4:0+(i:Int).toNat<ys.length:=by omega
 have h5:ys.getD (0+(i:Int).toNat) 0=ys.getD i 0:=by rw[e0]
 have h6:IntKind.i64.wrap ((i:Int)+1)=((i+1:Nat):Int):=by rw[IntKind.wrap_i64];omega
 exact Runs.aQ ah mixed (sword.step ys n ty i (gM ys i) (ys.getD i 0) g) ⟨h1,h2,h3,h4,h5,h6,trivial⟩ (hp _)
theorem xZ (a:Int) (g:Nat→SV) {Post:Ex→List SV→List Blk→Prop} (hp:∀g',Post (.exit 0) (sword.S ys n ty n a g').1 (sword.S ys n ty n a g').2):
  aK Tryz.prog Gs 1 sword.L (sword.S ys n ty n a g).1 (sword.S ys n ty n a g).2 Post:=by
 have h1:decide ((n:Int)<(n:Int))=false:=decide_eq_false (by omega)
 exact Runs.aQ ah mixed (sword.stop ys n ty n a g) ⟨h1,trivial⟩ (hp _)
theorem y9 (a:Int) (g:Nat→SV):aK Tryz.prog Gs 1 sword.D (sword.S ys n ty n a g).1 (sword.S ys n ty n a g).2 (aN tys sword.fn (bA ((av .u64).enc a) .none)):=
 Runs.aQ ah mixed (sword.post ys n ty n a g) trivial (aN.ret (sword.result ys n ty n a g) rfl)
theorem y8 (hy:ys.length=n) (hn:(n:Int)<9223372036854775807) (g:Nat→SV) {Post:Ex→List SV→List Blk→Prop} (hp:∀g',Post .normal (sword.S ys n ty n (gM ys n) g').1 (sword.S ys n ty n (gM ys n) g').2):
  aK Tryz.prog Gs 1 (.block 0 (.loop sword.L)) (sword.S ys n ty 0 0 g).1 (sword.S ys n ty 0 0 g).2 Post:=by
 refine Runs.block ?_
 refine Runs.loop (fun(x:Nat × (Nat→SV))=>sword.S ys n ty x.1 (gM ys x.1) x.2) (fun x=>x.1≤n) (fun x=>n-x.1) ?_ (0,g) (Nat.zero_le _)
 rintro⟨i,g⟩ hi
 simp only at hi
 by_cases hlt:i<n
 ·exact y7 ys n ty i g hy hn hlt fun g'=>⟨(i+1,g'),pair_etaH _,hlt,by simp only;omega⟩
 ·obtain rfl:i=n:=by omega
  exact xZ ys i ty _ g hp
theorem zI (hy:ys.length=n) (hn:(n:Int)<9223372036854775807):aK Tryz.prog Gs 1 sword.body (aH sword.fn [.o (.a (.slg 0 n))]) (sword.mem ty ys) (aN tys sword.fn (bA ((av .u64).enc (cO ys)) .none)):=by
 rw[sword.dX]
 refine Runs.seq (Runs.aQ ah mixed (sword.preA ys n ty) trivial ?_)
 refine Runs.seq (Runs.aQ ah mixed (sword.preB ys n ty) trivial ?_)
 refine Runs.seq (Runs.seq (Runs.aQ ah mixed (sword.preC ys n ty) trivial ?_))
 refine y8 ys n ty hy hn _ fun g'=> ?_
 have h:=y9 ys n ty (gM ys n) g'
 have e:cO ys=gM ys n:=by unfold cO;rw[hy]
 rw[e]
 exact h
end
noncomputable def zJ:Con Tryz.prog Gs:=Con.hand ah 138 Tryz.f138 Tryz.func138 (by kernel_rfl) (c:=sword.body) (by kernel_rfl)
 (Dec.win Tryz.prog .u8 (fun ys=>(av .u64).enc (cO ys)) (fun ys=>[(ys.length:Int)<9223372036854775807]) (fun _=>rfl)) (fun x hc hi=>zI x.ys x.n x.ty hi (by
  have h:=(aR hc).2.1
  have hi:x.ys.length=x.n:=hi
  rw[←hi];exact h))
def rotL (n:Int):Nat:=(n%32).toNat
def kN (a k:Int):Int:=bits .or .u32 (IntKind.u32.wrap (a*2^rotL k)) (a.fdiv (2^(32-rotL k)))
def rots:List Int:=[-17,-19,-7,-18,-6,-11,-25,-2,-13,-22]
theorem u32_ids (n:Int):((av .u32).enc n).ids=[]:=rfl
def nN (a b:Int):Int:=IntKind.u32.wrap (a+b)
def lQ (a b:Int):Int:=bits .xor .u32 a b
def andW (a b:Int):Int:=bits .and .u32 a b
def sG (x y v7 v16:Int):Int:=nN (nN (nN (lQ (lQ (kN x (-17)) (kN x (-19))) (x.fdiv (2^10))) v7) (lQ (lQ (kN y (-7)) (kN y (-18))) (y.fdiv (2^3)))) v16
def t1F (s:Nat→Int) (k w:Int):Int:=nN (nN (nN (nN (s 7) (lQ (lQ (kN (s 4) (-6)) (kN (s 4) (-11))) (kN (s 4) (-25)))) (lQ (andW (s 4) (s 5)) (andW (bits .xor .u32 4294967295 (s 4)) (s 6)))) k) w
def t2F (s:Nat→Int):Int:=nN (lQ (lQ (kN (s 0) (-2)) (kN (s 0) (-13))) (kN (s 0) (-22))) (lQ (lQ (andW (s 0) (s 1)) (andW (s 0) (s 2))) (andW (s 1) (s 2)))
def qj (s:Nat→Int) (k w:Int):Nat→Int
 | 0=>nN (t1F s k w) (t2F s)
 | 1=>s 0
 | 2=>s 1
 | 3=>s 2
 | 4=>nN (s 3) (t1F s k w)
 | 5=>s 4
 | 6=>s 5
 | _=>s 6
def u32 (n:Int):Atom:=aB .u32 n
def pE (h R:Nat→Int) (n:Int):List Atom:=[u32 (h 0),u32 (h 1),u32 (h 2),u32 (h 3),u32 (h 4),u32 (h 5),u32 (h 6),u32 (h 7),u8 (R 0),u8 (R 1),u8 (R 2),u8 (R 3),u8 (R 4),u8 (R 5),u8 (R 6),u8 (R 7),u8 (R 8),u8 (R 9),u8 (R 10),u8 (R 11),u8 (R 12),u8 (R 13),u8 (R 14),u8 (R 15),u8 (R 16),u8 (R 17),u8 (R 18),u8 (R 19),u8 (R 20),u8 (R 21),u8 (R 22),u8 (R 23),u8 (R 24),u8 (R 25),u8 (R 26),u8 (R 27),u8 (R 28),u8 (R 29),u8 (R 30),u8 (R 31),u8 (R 32),u8 (R 33),u8 (R 34),u8 (R 35),u8 (R 36),u8 (R 37),u8 (R 38),u8 (R 39),u8 (R 40),u8 (R 41),u8 (R 42),u8 (R 43),u8 (R 44),u8 (R 45),u8 (R 46),u8 (R 47),u8 (R 48),u8 (R 49),u8 (R 50),u8 (R 51),u8 (R 52),u8 (R 53),u8 (R 54),u8 (R 55),u8 (R 56),u8 (R 57),u8 (R 58),u8 (R 59),u8 (R 60),u8 (R 61),u8 (R 62),u8 (R 63),u64 n]
def rowX (x:Nat→Int):List Atom:=[u32 (x 0),u32 (x 1),u32 (x 2),u32 (x 3),u32 (x 4),u32 (x 5),u32 (x 6),u32 (x 7),u32 (x 8),u32 (x 9),u32 (x 10),u32 (x 11),u32 (x 12),u32 (x 13),u32 (x 14),u32 (x 15),u32 (x 16),u32 (x 17),u32 (x 18),u32 (x 19),u32 (x 20),u32 (x 21),u32 (x 22),u32 (x 23),u32 (x 24),u32 (x 25),u32 (x 26),u32 (x 27),u32 (x 28),u32 (x 29),u32 (x 30),u32 (x 31),u32 (x 32),u32 (x 33),u32 (x 34),u32 (x 35),u32 (x 36),u32 (x 37),u32 (x 38),u32 (x 39),u32 (x 40),u32 (x 41),u32 (x 42),u32 (x 43),u32 (x 44),u32 (x 45),u32 (x 46),u32 (x 47),u32 (x 48),u32 (x 49),u32 (x 50),u32 (x 51),u32 (x 52),u32 (x 53),u32 (x 54),u32 (x 55),u32 (x 56),u32 (x 57),u32 (x 58),u32 (x 59),u32 (x 60),u32 (x 61),u32 (x 62),u32 (x 63)]
def iM (o:Nat) (ys:List Int) (R:Nat→Int) (j:Nat):Int:=cond (Nat.ble o j&&Nat.blt (j-o) ys.length) (ys.getD (j-o) 0) (R j)
def aX (R:Nat→Int):Nat→Nat→List Int
 | _,0=>[]
 | j,k+1=>R j::aX R (j+1) k
namespace sblk
def M0:List (Option SV):=aJ 204 0 [(0,.o (.a (.ptr 0 0))),(1,.o (.a (.slc 0 8 64 64))),(4,.o (.a (.ptr 1 0)))]
def M1 (t:Nat):List (Option SV):=aJ 204 0 [(0,.o (.a (.ptr 0 0))),(1,.o (.a (.slc 0 8 64 64))),(4,.o (.a (.ptr 1 0))),(26,(av .i64).enc ((t:Nat):Int))]
def M2 (t:Nat):List (Option SV):=aJ 204 0 [(0,.o (.a (.ptr 0 0))),(1,.o (.a (.slc 0 8 64 64))),(4,.o (.a (.ptr 1 0))),(6,(av .i64).enc ((t:Nat):Int))]
def M3 (s:Nat→Int) (t:Nat):List (Option SV):=aJ 204 0 [(0,.o (.a (.ptr 0 0))),(4,.o (.a (.ptr 1 0))),(11,(av .u32).enc (s 0)),(12,(av .u32).enc (s 1)),(13,(av .u32).enc (s 2)),(14,(av .u32).enc (s 3)),(15,(av .u32).enc (s 4)),(16,(av .u32).enc (s 5)),(17,(av .u32).enc (s 6)),(18,(av .u32).enc (s 7)),(116,(av .i64).enc ((t:Nat):Int))]
def M13 (s:Nat→Int):List (Option SV):=aJ 204 0 [(0,.o (.a (.ptr 0 0))),(4,.o (.a (.ptr 1 0))),(11,(av .u32).enc (s 0)),(12,(av .u32).enc (s 1)),(13,(av .u32).enc (s 2)),(14,(av .u32).enc (s 3)),(15,(av .u32).enc (s 4)),(16,(av .u32).enc (s 5)),(17,(av .u32).enc (s 6)),(18,(av .u32).enc (s 7))]
def jM (h s:Nat→Int) (t i:Nat):Int:=cond (Nat.blt i t) (nN (h i) (s i)) (h i)
def M4 (s:Nat→Int) (t:Nat):List (Option SV):=aJ 204 0 [(0,.o (.a (.ptr 0 0))),(189,.o (.g [u32 (s 0),u32 (s 1),u32 (s 2),u32 (s 3),u32 (s 4),u32 (s 5),u32 (s 6),u32 (s 7)])),(190,(av .i64).enc ((t:Nat):Int))]
def zero64 (j:Nat):Int:=0
end sblk
theorem dD (R:Nat→Int):∀(k j:Nat),(aX R j k).length=k
 | 0,_=>rfl
 | k+1,j=>by rw[aX,List.length_cons,dD R k]
theorem rQ (R:Nat→Int):∀(k j i:Nat),i<k→(aX R j k).getD i 0=R (j+i)
 | 0,_,i,h=>by omega
 | k+1,j,0,h=>rfl
 | k+1,j,i+1,h=>by
  rw[aX,List.getD_cons_succ,rQ R k (j+1) i (by omega),show j+1+i=j+(i+1) by omega]
theorem sN (R:Nat→Int) (i:Nat) (h:i<64):(aX R 0 64).getD (0+i) 0=R i:=by rw[Nat.zero_add,rQ R 64 0 i h,Nat.zero_add]
theorem sO (R:Nat→Int):∀(i j k:Nat),(aX R j (i+k)).drop i=aX R (j+i) k
 | 0,j,k=>by rw[Nat.zero_add];rfl
 | i+1,j,k=>by
  rw[show i+1+k=(i+k)+1 by omega,aX,List.drop_succ_cons,sO R i (j+1) k,show j+1+i=j+(i+1) by omega]
theorem sK (R:Nat→Int):∀(k m j:Nat),(aX R j (k+m)).take k=aX R j k
 | 0,m,j=>by rw[List.take_zero];rfl
 | k+1,m,j=>by
  rw[show k+1+m=(k+m)+1 by omega,aX,List.take_succ_cons,sK R k m (j+1)]
  rfl
theorem yE (R:Nat→Int) (t:Nat) (ht:t<16):((aX R 0 64).drop (4*t)).take 4=[R (4*t),R (4*t+1),R (4*t+2),R (4*t+3)]:=by
 rw[show(64:Nat)=4*t+(64-4*t) by omega,sO,show 64-4*t=4+(60-4*t) by omega,sK,Nat.zero_add]
 rfl
theorem mq (o:Nat) (ys:List Int) (R:Nat→Int) (j:Nat):iM o ys R j=if o≤j∧j-o<ys.length then ys.getD (j-o) 0 else R j:=by
 unfold iM
 by_cases h:o≤j∧j-o<ys.length
 ·rw[if_pos h,Nat.ble_eq_true_of_le h.1]
  have:Nat.blt (j-o) ys.length=true:=Nat.ble_eq_true_of_le h.2
  rw[this];rfl
 ·rw[if_neg h]
  have:(Nat.ble o j&&Nat.blt (j-o) ys.length)=false:=by
   rw[Bool.eq_false_iff]
   intro hc
   rw[Bool.and_eq_true] at hc
   exact h ⟨Nat.le_of_ble_eq_true hc.1,Nat.le_of_ble_eq_true hc.2⟩
  rw[this];rfl
theorem nG (o:Nat) (v:Int) (R:Nat→Int) (j:Nat):iM o [v] R j=if j=o then v else R j:=by
 rw[mq]
 by_cases h:j=o
 ·subst h
  rw[if_pos ⟨Nat.le_refl _,by rw[Nat.sub_self];exact Nat.one_pos⟩,if_pos rfl,Nat.sub_self]
  rfl
 ·rw[if_neg h,if_neg (by simp only[List.length_singleton];omega)]
def rE (R W:Nat→Int):Prop:=(∀t,t<16→IntKind.u32.wrap (cO [R (4*t),R (4*t+1),R (4*t+2),R (4*t+3)])=W t)∧∀t,t<48→sG (W (t+14)) (W (t+1)) (W (t+9)) (W t)=W (t+16)
def rounds (h W:Nat→Int):Nat→Nat→Int
 | 0=>h
 | t+1=>qj (rounds h W t) (kH.getD t 0) (W t)
theorem gV (x:Int) (h0:0≤x) (h1:x<9223372036854775808):IntKind.i64.wrap x=x:=by rw[IntKind.wrap_i64];omega
section
variable (h R:Nat→Int) (n:Int) (W:Nat→Int)
def nk (h W:Nat→Int) (i:Nat):Int:=nN (h i) (rounds h W 64 i)
end
structure E8 where
 b0:Int
 b1:Int
 b2:Int
 b3:Int
 b4:Int
 b5:Int
 b6:Int
 b7:Int
def E8.to (e:E8):List Int:=e.b0::e.b1::e.b2::e.b3::e.b4::e.b5::e.b6::e.b7::[]
def E8.of:List Int→Option E8
 | x0::x1::x2::x3::x4::x5::x6::x7::[]=>some ⟨x0,x1,x2,x3,x4,x5,x6,x7⟩
 | _=>none
theorem E8.iV:∀l a,E8.of l=some a→E8.to a=l:=by
 intro l a h
 unfold E8.of at h
 split at h<;>cases h
 rfl
def E8.at (e:E8):Nat→Int
 | 0=>e.b0
 | 1=>e.b1
 | 2=>e.b2
 | 3=>e.b3
 | 4=>e.b4
 | 5=>e.b5
 | 6=>e.b6
 | _=>e.b7
def E8.mk' (f:Nat→Int):E8:=⟨f 0,f 1,f 2,f 3,f 4,f 5,f 6,f 7⟩
theorem E8.dY (f:Nat→Int):∀i,i<8→(E8.mk' f).at i=f i
 | 0,_=>rfl
 | 1,_=>rfl
 | 2,_=>rfl
 | 3,_=>rfl
 | 4,_=>rfl
 | 5,_=>rfl
 | 6,_=>rfl
 | 7,_=>rfl
 | i+8,h=>by omega
theorem E8.uQ {a b:E8} (h:∀i,i<8→a.at i=b.at i):a=b:=by
 have e:a=E8.mk' a.at:=rfl
 have e':b=E8.mk' b.at:=rfl
 rw[e,e']
 unfold E8.mk'
 rw[h 0 (by omega),h 1 (by omega),h 2 (by omega),h 3 (by omega),h 4 (by omega),h 5 (by omega),h 6 (by omega),h 7 (by omega)]
structure B64 where
 b0:Int
 b1:Int
 b2:Int
 b3:Int
 b4:Int
 b5:Int
 b6:Int
 b7:Int
 b8:Int
 b9:Int
 b10:Int
 b11:Int
 b12:Int
 b13:Int
 b14:Int
 b15:Int
 b16:Int
 b17:Int
 b18:Int
 b19:Int
 b20:Int
 b21:Int
 b22:Int
 b23:Int
 b24:Int
 b25:Int
 b26:Int
 b27:Int
 b28:Int
 b29:Int
 b30:Int
 b31:Int
 b32:Int
 b33:Int
 b34:Int
 b35:Int
 b36:Int
 b37:Int
 b38:Int
 b39:Int
 b40:Int
 b41:Int
 b42:Int
 b43:Int
 b44:Int
 b45:Int
 b46:Int
 b47:Int
 b48:Int
 b49:Int
 b50:Int
 b51:Int
 b52:Int
 b53:Int
 b54:Int
 b55:Int
 b56:Int
 b57:Int
 b58:Int
 b59:Int
 b60:Int
 b61:Int
 b62:Int
 b63:Int
def B64.to (e:B64):List Int:=e.b0::e.b1::e.b2::e.b3::e.b4::e.b5::e.b6::e.b7::e.b8::e.b9::e.b10::e.b11::e.b12::e.b13::e.b14::e.b15::e.b16::e.b17::e.b18::e.b19::e.b20::e.b21::e.b22::e.b23::e.b24::e.b25::e.b26::e.b27::e.b28::e.b29::e.b30::e.b31::e.b32::e.b33::e.b34::e.b35::e.b36::e.b37::e.b38::e.b39::e.b40::e.b41::e.b42::e.b43::e.b44::e.b45::e.b46::e.b47::e.b48::e.b49::e.b50::e.b51::e.b52::e.b53::e.b54::e.b55::e.b56::e.b57::e.b58::e.b59::e.b60::e.b61::e.b62::e.b63::[]
def B64.of:List Int→Option B64
 | x0::x1::x2::x3::x4::x5::x6::x7::x8::x9::x10::x11::x12::x13::x14::x15::x16::x17::x18::x19::x20::x21::x22::x23::x24::x25::x26::x27::x28::x29::x30::x31::x32::x33::x34::x35::x36::x37::x38::x39::x40::x41::x42::x43::x44::x45::x46::x47::x48::x49::x50::x51::x52::x53::x54::x55::x56::x57::x58::x59::x60::x61::x62::x63::[]=>some ⟨x0,x1,x2,x3,x4,x5,x6,x7,x8,x9,x10,x11,x12,x13,x14,x15,x16,x17,x18,x19,x20,x21,x22,x23,x24,x25,x26,x27,x28,x29,x30,x31,x32,x33,x34,x35,x36,x37,x38,x39,x40,x41,x42,x43,x44,x45,x46,x47,x48,x49,x50,x51,x52,x53,x54,x55,x56,x57,x58,x59,x60,x61,x62,x63⟩
 | _=>none
theorem B64.iV:∀l a,B64.of l=some a→B64.to a=l:=by
 intro l a h
 unfold B64.of at h
 split at h<;>cases h
 rfl
def B64.at (e:B64):Nat→Int
 | 0=>e.b0
 | 1=>e.b1
 | 2=>e.b2
 | 3=>e.b3
 | 4=>e.b4
 | 5=>e.b5
 | 6=>e.b6
 | 7=>e.b7
 | 8=>e.b8
 | 9=>e.b9
 | 10=>e.b10
 | 11=>e.b11
 | 12=>e.b12
 | 13=>e.b13
 | 14=>e.b14
 | 15=>e.b15
 | 16=>e.b16
 | 17=>e.b17
 | 18=>e.b18
 | 19=>e.b19
 | 20=>e.b20
 | 21=>e.b21
 | 22=>e.b22
 | 23=>e.b23
 | 24=>e.b24
 | 25=>e.b25
 | 26=>e.b26
 | 27=>e.b27
 | 28=>e.b28
 | 29=>e.b29
 | 30=>e.b30
 | 31=>e.b31
 | 32=>e.b32
 | 33=>e.b33
 | 34=>e.b34
 | 35=>e.b35
 | 36=>e.b36
 | 37=>e.b37
 | 38=>e.b38
 | 39=>e.b39
 | 40=>e.b40
 | 41=>e.b41
 | 42=>e.b42
 | 43=>e.b43
 | 44=>e.b44
 | 45=>e.b45
 | 46=>e.b46
 | 47=>e.b47
 | 48=>e.b48
 | 49=>e.b49
 | 50=>e.b50
 | 51=>e.b51
 | 52=>e.b52
 | 53=>e.b53
 | 54=>e.b54
 | 55=>e.b55
 | 56=>e.b56
 | 57=>e.b57
 | 58=>e.b58
 | 59=>e.b59
 | 60=>e.b60
 | 61=>e.b61
 | 62=>e.b62
 | _=>e.b63
def B64.mk' (f:Nat→Int):B64:=⟨f 0,f 1,f 2,f 3,f 4,f 5,f 6,f 7,f 8,f 9,f 10,f 11,f 12,f 13,f 14,f 15,f 16,f 17,f 18,f 19,f 20,f 21,f 22,f 23,f 24,f 25,f 26,f 27,f 28,f 29,f 30,f 31,f 32,f 33,f 34,f 35,f 36,f 37,f 38,f 39,f 40,f 41,f 42,f 43,f 44,f 45,f 46,f 47,f 48,f 49,f 50,f 51,f 52,f 53,f 54,f 55,f 56,f 57,f 58,f 59,f 60,f 61,f 62,f 63⟩
theorem B64.dY (f:Nat→Int):∀i,i<64→(B64.mk' f).at i=f i
 | 0,_=>rfl
 | 1,_=>rfl
 | 2,_=>rfl
 | 3,_=>rfl
 | 4,_=>rfl
 | 5,_=>rfl
 | 6,_=>rfl
 | 7,_=>rfl
 | 8,_=>rfl
 | 9,_=>rfl
 | 10,_=>rfl
 | 11,_=>rfl
 | 12,_=>rfl
 | 13,_=>rfl
 | 14,_=>rfl
 | 15,_=>rfl
 | 16,_=>rfl
 | 17,_=>rfl
 | 18,_=>rfl
 | 19,_=>rfl
 | 20,_=>rfl
 | 21,_=>rfl
 | 22,_=>rfl
 | 23,_=>rfl
 | 24,_=>rfl
 | 25,_=>rfl
 | 26,_=>rfl
 | 27,_=>rfl
 | 28,_=>rfl
 | 29,_=>rfl
 | 30,_=>rfl
 | 31,_=>rfl
 | 32,_=>rfl
 | 33,_=>rfl
 | 34,_=>rfl
 | 35,_=>rfl
 | 36,_=>rfl
 | 37,_=>rfl
 | 38,_=>rfl
 | 39,_=>rfl
 | 40,_=>rfl
 | 41,_=>rfl
 | 42,_=>rfl
 | 43,_=>rfl
 | 44,_=>rfl
 | 45,_=>rfl
 | 46,_=>rfl
 | 47,_=>rfl
 | 48,_=>rfl
 | 49,_=>rfl
 | 50,_=>rfl
 | 51,_=>rfl
 | 52,_=>rfl
 | 53,_=>rfl
 | 54,_=>rfl
 | 55,_=>rfl
 | 56,_=>rfl
 | 57,_=>rfl
 | 58,_=>rfl
 | 59,_=>rfl
 | 60,_=>rfl
 | 61,_=>rfl
 | 62,_=>rfl
 | 63,_=>rfl
 | i+64,h=>by omega
theorem B64.uQ {a b:B64} (h:∀i,i<64→a.at i=b.at i):a=b:=by
 have e:a=B64.mk' a.at:=rfl
 have e':b=B64.mk' b.at:=rfl
 rw[e,e']
 unfold B64.mk'
 rw[h 0 (by omega),h 1 (by omega),h 2 (by omega),h 3 (by omega),h 4 (by omega),h 5 (by omega),h 6 (by omega),h 7 (by omega),h 8 (by omega),h 9 (by omega),h 10 (by omega),h 11 (by omega),h 12 (by omega),h 13 (by omega),h 14 (by omega),h 15 (by omega),h 16 (by omega),h 17 (by omega),h 18 (by omega),h 19 (by omega),h 20 (by omega),h 21 (by omega),h 22 (by omega),h 23 (by omega),h 24 (by omega),h 25 (by omega),h 26 (by omega),h 27 (by omega),h 28 (by omega),h 29 (by omega),h 30 (by omega),h 31 (by omega),h 32 (by omega),h 33 (by omega),h 34 (by omega),h 35 (by omega),h 36 (by omega),h 37 (by omega),h 38 (by omega),h 39 (by omega),h 40 (by omega),h 41 (by omega),h 42 (by omega),h 43 (by omega),h 44 (by omega),h 45 (by omega),h 46 (by omega),h 47 (by omega),h 48 (by omega),h 49 (by omega),h 50 (by omega),h 51 (by omega),h 52 (by omega),h 53 (by omega),h 54 (by omega),h 55 (by omega),h 56 (by omega),h 57 (by omega),h 58 (by omega),h 59 (by omega),h 60 (by omega),h 61 (by omega),h 62 (by omega),h 63 (by omega)]
structure Hs where
 h:E8
 r:B64
 n:Int
def gN (S:Hs):List Atom:=S.h.to.map (aB .u32)++(S.r.to.map (aB .u8)++[aB .u64 S.n])
def hsOf (cs:List Atom):Option Hs:=
 match oP .u32 (cs.take 8),oP .u8 ((cs.drop 8).take 64),oP .u64 (cs.drop 72) with
 | some a,some b,some [n]=>match E8.of a,B64.of b with
  | some h,some r=>some ⟨h,r,n⟩
  | _,_=>none
 | _,_,_=>none
theorem wC {cs:List Atom} {S:Hs} (h:hsOf cs=some S):cs=gN S:=by
 unfold hsOf at h
 split at h<;>try cases h
 rename_i a b n ha hb hn
 split at h<;>cases h
 rename_i x r hx hr
 unfold gN
 rw[E8.iV _ _ hx,B64.iV _ _ hr,kI ha,kI hb]
 have hn:=kI hn
 simp only[List.map_cons,List.map_nil] at hn
 rw[hn]
 have e:cs.drop 72=(cs.drop 8).drop 64:=by rw[List.drop_drop]
 rw[e,List.take_append_drop,List.take_append_drop]
theorem yX (S:Hs):pE S.h.at S.r.at S.n=gN S:=by kernel_rfl
theorem uM (S:Hs):bB (gN S)=[]:=by
 unfold gN
 rw[jL,jL,iy,iy]
 rfl
def jk (R:Nat→Int) (t:Nat):Int:=
 if h:t<16 then IntKind.u32.wrap (cO [R (4*t),R (4*t+1),R (4*t+2),R (4*t+3)])
 else sG (jk R (t-2)) (jk R (t-15)) (jk R (t-7)) (jk R (t-16))
termination_by t
decreasing_by all_goals omega
theorem ou (R:Nat→Int):rE R (jk R):=by
 refine⟨fun t ht=> ?_,fun t ht=> ?_⟩
 ·conv=>rhs;rw[jk]
  rw[dif_pos ht]
 ·conv=>rhs;rw[jk]
  rw[dif_neg (by omega)]
  rfl
theorem zP {R W W':Nat→Int} (h:rE R W) (h':rE R W'):∀t,t<64→W t=W' t:=by
 intro t
 induction t using Nat.strongRecOn with
 | _ t ih=>
  intro ht
  rcases Nat.lt_or_ge t 16 with h1 | h1
  ·rw[←h.1 t h1,←h'.1 t h1]
  ·obtain⟨s,rfl⟩:∃s,t=s+16:=⟨t-16,by omega⟩
   rw[←h.2 s (by omega),←h'.2 s (by omega),ih (s+14) (by omega) (by omega),ih (s+1) (by omega) (by omega),ih (s+9) (by omega) (by omega),ih s (by omega) (by omega)]
theorem sJ {h W W':Nat→Int}:∀t,(∀j,j<t→W j=W' j)→rounds h W t=rounds h W' t
 | 0,_=>rfl
 | t+1,e=>by rw[rounds,rounds,sJ t fun j hj=>e j (by omega),e t (by omega)]
def blkS (S:Hs):Hs:={ S with h:=E8.mk' (nk S.h.at (jk S.r.at)) }
theorem bN (x:Int):IntKind.u64.wrap x=x%18446744073709551616:=by rw[IntKind.wrap_u64]
theorem B64.mk_congr {f g:Nat→Int} (h:∀i,i<64→f i=g i):B64.mk' f=B64.mk' g:=B64.uQ fun i hi=>by rw[B64.dY _ i hi,B64.dY _ i hi,h i hi]
def gW (S:Hs) (y:Int):Hs:=
 if (S.n%64).toNat=63 then blkS ⟨S.h,B64.mk' (fun j=>if j=(S.n%64).toNat then y else S.r.at j),IntKind.u64.wrap (S.n+1)⟩
 else ⟨S.h,B64.mk' (fun j=>if j=(S.n%64).toNat then y else S.r.at j),IntKind.u64.wrap (S.n+1)⟩
def cK (S:Hs) (ys:List Int):Hs:=ys.foldl gW S
theorem oV (S:Hs) (a b:List Int):cK S (a++b)=cK (cK S a) b:=List.foldl_append
theorem nO (S:Hs) (y:Int):(gW S y).n=IntKind.u64.wrap (S.n+1):=by
 unfold gW
 split<;>rfl
theorem absorb_n (ys:List Int):∀(S:Hs),0≤S.n→S.n<18446744073709551616→(cK S ys).n=IntKind.u64.wrap (S.n+ys.length):=by
 induction ys with
 | nil=>intro S h0 h1;rw[bN];show S.n=_;simp only[List.length_nil];omega
 | cons y r ih=>
  intro S h0 h1
  show(cK (gW S y) r).n=_
  rw[ih _ (by rw[nO,bN];omega) (by rw[nO,bN];omega),nO,bN,bN,bN]
  simp only[List.length_cons]
  omega
theorem absorb_nn (ys:List Int) (S:Hs) (h:0≤S.n):0≤(cK S ys).n:=by
 induction ys generalizing S with
 | nil=>exact h
 | cons y r ih=>exact ih _ (by rw[nO,bN];omega)
def lY (S:Hs) (o:Nat) (zs:List Int) (n':Int):Hs:=⟨S.h,B64.mk' (iM o zs S.r.at),n'⟩
theorem qE:∀(zs:List Int) (S:Hs) (a:Nat),0≤S.n→(a:Int)=S.n%64→a+zs.length≤64→0<zs.length→
  cK S zs=if a+zs.length=64 then blkS (lY S a zs (IntKind.u64.wrap (S.n+zs.length))) else lY S a zs (IntKind.u64.wrap (S.n+zs.length))
 | [],S,a,h0,ha,hle,hp=>by simp at hp
 | z::r,S,a,h0,ha,hle,hp=>by
  have hat:(S.n%64).toNat=a:=by omega
  simp only[List.length_cons] at hle
  have e1:B64.mk' (fun j=>if j=(S.n%64).toNat then z else S.r.at j)=B64.mk' (iM a [z] S.r.at):=B64.mk_congr fun i hi=>by
   rw[hat,mq]
   by_cases h:i=a
   ·subst h;simp
   ·rw[if_neg h,if_neg (by simp only[List.length_singleton];omega)]
  cases r with
  | nil=>
   show gW S z=_
   unfold gW
   rw[e1,hat]
   simp only[List.length_singleton]
   by_cases h:a=63
   ·rw[if_pos h,if_pos (by omega)];rfl
   ·rw[if_neg h,if_neg (by omega)];rfl
  | cons z2 r=>
   simp only[List.length_cons] at hle
   have h63:a≠63:=by omega
   have hst:gW S z=⟨S.h,B64.mk' (iM a [z] S.r.at),IntKind.u64.wrap (S.n+1)⟩:=by
    unfold gW
    rw[e1,hat,if_neg h63]
   show cK (gW S z) (z2::r)=_
   have hn:(gW S z).n=(S.n+1)%18446744073709551616:=by rw[nO,bN]
   rw[qE (z2::r) (gW S z) (a+1) (by rw[hn];omega) (by rw[hn];omega) (by simp only[List.length_cons];omega) (by simp)]
   have e2:lY (gW S z) (a+1) (z2::r) (IntKind.u64.wrap ((gW S z).n+(z2::r).length))=lY S a (z::z2::r) (IntKind.u64.wrap (S.n+(z::z2::r).length)):=by
    unfold lY
    have e3:IntKind.u64.wrap ((gW S z).n+(z2::r).length)=IntKind.u64.wrap (S.n+(z::z2::r).length):=by
     rw[hn,bN,bN]
     simp only[List.length_cons]
     omega
    rw[e3]
    have e4:B64.mk' (iM (a+1) (z2::r) (gW S z).r.at)=B64.mk' (iM a (z::z2::r) S.r.at):=B64.mk_congr fun i hi=>by
     rw[hst,mq,mq]
     simp only
     rw[B64.dY _ i hi,mq]
     simp only[List.length_cons,List.length_nil,Nat.zero_add]
     by_cases c1:a+1≤i∧i-(a+1)<r.length+1
     ·rw[if_pos c1,if_pos (by omega)]
      obtain⟨d,hd⟩:∃d,i-a=d+1:=⟨i-a-1,by omega⟩
      rw[hd,show i-(a+1)=d by omega]
      rfl
     ·rw[if_neg c1]
      by_cases c2:a≤i∧i-a<1
      ·rw[if_pos c2,if_pos (by omega)]
       have:i-a=0:=by omega
       rw[this];rfl
      ·rw[if_neg c2,if_neg (by omega)]
    rw[e4,hst]
   rw[e2]
   simp only[List.length_cons]
   by_cases h:a+(r.length+1+1)=64
   ·rw[if_pos h,if_pos (by omega)]
   ·rw[if_neg h,if_neg (by omega)]
def aF (v:Int) (s:Nat):Int:=IntKind.u8.wrap (v.fdiv (2^s))
def appR (v:Int) (o:Nat):List Int→Nat→List Nat→List Int
 | xs,_,[]=>xs
 | xs,n,s::r=>appR v o (bq (o+n) [aF v s] 0 xs) (n+1) r
def appC (v:Int) (o c:Nat):List Int→Nat→List Nat→Cst
 | _,_,[]=>[]
 | xs,n,s::r=>(0+1≤[aF v s].length)::(n+1≤c)::(o+n+1≤xs.length)::appC v o c (bq (o+n) [aF v s] 0 xs) (n+1) r
theorem oK (v:Int) (o c:Nat):∀(l:List Nat) (xs:List Int) (n:Nat),n+l.length≤c→o+n+l.length≤xs.length→Holds (appC v o c xs n l)
 | [],_,_,_,_=>trivial
 | s::r,xs,n,h1,h2=>by
  simp only[List.length_cons] at h1 h2
  exact⟨by simp,by omega,by omega,oK v o c r _ _ (by omega) (by rw[bE];omega)⟩
theorem putI_nil (o:Nat) (xs:List Int):bq o [] 0 xs=xs:=by
 apply List.ext_getElem?
 intro j
 rw[yM,Nat.zero_add]
 have:(Nat.ble o j&&Nat.blt (j-o) ([]:List Int).length)=false:=by
  rw[Bool.eq_false_iff]
  intro hc
  rw[Bool.and_eq_true] at hc
  have:=Nat.le_of_ble_eq_true hc.2
  simp at this
 rw[this]
 cases xs[j]? <;>rfl
theorem putI_two (o:Nat) (a b xs:List Int) (h:o+(a.length+b.length)≤xs.length):bq (o+a.length) b 0 (bq o a 0 xs)=bq o (a++b) 0 xs:=by
 rw[jr (o+a.length) b _ (by rw[bE];omega),jr o a xs (by omega),jr o (a++b) xs (by rw[List.length_append];omega)]
 have hY:(xs.take o++a).length=o+a.length:=by rw[List.length_append,List.length_take];omega
 have e:xs.take o++(a++xs.drop (o+a.length))=(xs.take o++a)++xs.drop (o+a.length):=(List.append_assoc _ _ _).symm
 rw[e,List.take_left' hY,←List.drop_drop,List.drop_left' hY,List.drop_drop,List.length_append]
 simp only[List.append_assoc,Nat.add_assoc]
theorem rO (v:Int) (o:Nat):∀(l:List Nat) (xs:List Int) (n:Nat),o+n+l.length≤xs.length→appR v o xs n l=bq (o+n) (l.map (aF v)) 0 xs
 | [],xs,n,_=>by rw[List.map_nil,putI_nil];rfl
 | s::r,xs,n,h=>by
  simp only[List.length_cons] at h
  rw[appR,rO v o r _ _ (by rw[bE];omega)]
  have:=putI_two (o+n) [aF v s] (r.map (aF v)) xs (by simp only[List.length_singleton,List.length_map];omega)
  simp only[List.length_singleton] at this
  rw[←Nat.add_assoc,this]
  rfl
namespace app
noncomputable abbrev fn:=Tryz.f112
noncomputable def body:Code:=bZ fn
def sh8:List Nat:=[56,48,40,32,24,16,8,0]
section
variable (xs:List Int) (ty:TypeId) (o n c:Nat) (v:Int)
noncomputable def s8:St:=⟨aH fn [.o (.a (.sld 0 0 o n c)),(av .u64).enc v,(av .i64).enc 8],[⟨true,ty,.run .u8 xs⟩],[]⟩
noncomputable def e8:St:=dz ([]:Cons Tryz.prog Gs) tys 100 body (s8 xs ty o n c v)
theorem ex8:exec ([]:Cons Tryz.prog Gs) tys 100 body (s8 xs ty o n c v)=some (.ret,⟨(e8 xs ty o n c v).tm,(e8 xs ty o n c v).mem,[]⟩,appC v o c xs n sh8):=by kernel_rfl
theorem res8:eRes tys (e8 xs ty o n c v).tm (fun k=>(e8 xs ty o n c v).mem[k]?) fn.results.toList=some [.a (.sld 0 0 o (n+8) c)]:=by kernel_rfl
theorem row8:(e8 xs ty o n c v).mem[0]? =some ⟨true,ty,.run .u8 (appR v o xs n sh8)⟩:=by kernel_rfl
theorem run8 (h1:n+8≤c) (h2:o+n+8≤xs.length):
  aK Tryz.prog Gs 1 body (aH fn [.o (.a (.sld 0 0 o n c)),(av .u64).enc v,(av .i64).enc 8]) [⟨true,ty,.run .u8 xs⟩] (aN tys fn (bA (.o (.a (.sld 0 0 o (n+8) c))) (.upd ty (.run .u8 (bq (o+n) (sh8.map (aF v)) 0 xs))))):=by
 rw[←rO v o sh8 xs n h2]
 exact Runs.aQ ah mixed (ex8 xs ty o n c v) (oK v o c sh8 xs n h1 h2) (aN.ret (res8 xs ty o n c v) ⟨rfl,row8 xs ty o n c v⟩)
end
def sh4:List Nat:=[24,16,8,0]
section
variable (xs:List Int) (ty:TypeId) (o n c:Nat) (v:Int)
noncomputable def s4:St:=⟨aH fn [.o (.a (.sld 0 0 o n c)),(av .u64).enc v,(av .i64).enc 4],[⟨true,ty,.run .u8 xs⟩],[]⟩
noncomputable def e4:St:=dz ([]:Cons Tryz.prog Gs) tys 100 body (s4 xs ty o n c v)
theorem ex4:exec ([]:Cons Tryz.prog Gs) tys 100 body (s4 xs ty o n c v)=some (.ret,⟨(e4 xs ty o n c v).tm,(e4 xs ty o n c v).mem,[]⟩,appC v o c xs n sh4):=by kernel_rfl
theorem res4:eRes tys (e4 xs ty o n c v).tm (fun k=>(e4 xs ty o n c v).mem[k]?) fn.results.toList=some [.a (.sld 0 0 o (n+4) c)]:=by kernel_rfl
theorem row4:(e4 xs ty o n c v).mem[0]? =some ⟨true,ty,.run .u8 (appR v o xs n sh4)⟩:=by kernel_rfl
theorem run4 (h1:n+4≤c) (h2:o+n+4≤xs.length):
  aK Tryz.prog Gs 1 body (aH fn [.o (.a (.sld 0 0 o n c)),(av .u64).enc v,(av .i64).enc 4]) [⟨true,ty,.run .u8 xs⟩] (aN tys fn (bA (.o (.a (.sld 0 0 o (n+4) c))) (.upd ty (.run .u8 (bq (o+n) (sh4.map (aF v)) 0 xs))))):=by
 rw[←rO v o sh4 xs n h2]
 exact Runs.aQ ah mixed (ex4 xs ty o n c v) (oK v o c sh4 xs n h1 h2) (aN.ret (res4 xs ty o n c v) ⟨rfl,row4 xs ty o n c v⟩)
end
end app
def rM:List aV→Option (SV × dh × Cst)
 | [.buf .u8 ty xs l o n c,.val (.o (.a (.v (.int .u64 v)))),.val (.o (.a (.v (.int .i64 k))))]=>
  if k=8 then some (.o (.a (.sld 0 0 o (n+8) c)),.upd ty (.run .u8 (bq (o+n) (app.sh8.map (aF v)) 0 xs)),[n+8≤c,o+n+8≤xs.length])
  else if k=4 then some (.o (.a (.sld 0 0 o (n+4) c)),.upd ty (.run .u8 (bq (o+n) (app.sh4.map (aF v)) 0 xs)),[n+4≤c,o+n+4≤xs.length])
  else none
 | _=>none
theorem uY {ps:List aV} {r:SV} {e:dh} {p:Cst} (h:rM ps=some (r,e,p)):∃ty xs l o n c v,(ps=[.buf .u8 ty xs l o n c,.val (.o (.a (.v (.int .u64 v)))),.val (.o (.a (.v (.int .i64 8))))]∧r= .o (.a (.sld 0 0 o (n+8) c))∧e= .upd ty (.run .u8 (bq (o+n) (app.sh8.map (aF v)) 0 xs))∧p=[n+8≤c,o+n+8≤xs.length])∨
  (ps=[.buf .u8 ty xs l o n c,.val (.o (.a (.v (.int .u64 v)))),.val (.o (.a (.v (.int .i64 4))))]∧r= .o (.a (.sld 0 0 o (n+4) c))∧e= .upd ty (.run .u8 (bq (o+n) (app.sh4.map (aF v)) 0 xs))∧p=[n+4≤c,o+n+4≤xs.length]):=by
 unfold rM at h
 split at h<;>try cases h
 rename_i ty xs l o n c v k
 split at h
 ·rename_i hk
  subst hk
  cases h
  exact⟨ty,xs,l,o,n,c,v,.inl ⟨rfl,rfl,rfl,rfl⟩⟩
 ·split at h<;>cases h
  rename_i hk
  subst hk
  exact⟨ty,xs,l,o,n,c,v,.inr ⟨rfl,rfl,rfl,rfl⟩⟩
noncomputable def app_con:Con Tryz.prog Gs:=Con.parts ah 112 app.fn Tryz.func112 (by kernel_rfl) (c:=app.body) (by kernel_rfl) [.buf .u8,.val,.val] rM
 (fun ps r e p h hp=>by
  obtain⟨ty,xs,l,o,n,c,v,h⟩:=uY h
  rcases h with⟨rfl,rfl,rfl,rfl⟩ | ⟨rfl,rfl,rfl,rfl⟩
  ·exact⟨(fun k hk=>by simpa [SV.ids,SV1.ids,Atom.ids] using hk),rfl,⟨_,rfl,rfl,rfl⟩,(fun i b h=>by simp[bG,aV.blk] at h),fun kd ty xs o n c rest h=>by cases h;exact⟨_,rfl,bE _ _ _ _⟩⟩
  ·exact⟨(fun k hk=>by simpa [SV.ids,SV1.ids,Atom.ids] using hk),rfl,⟨_,rfl,rfl,rfl⟩,(fun i b h=>by simp[bG,aV.blk] at h),fun kd ty xs o n c rest h=>by cases h;exact⟨_,rfl,bE _ _ _ _⟩⟩)
 (fun ps r e p cap h hp _=>by
  obtain⟨ty,xs,l,o,n,c,v,h⟩:=uY h
  rcases h with⟨rfl,rfl,rfl,rfl⟩ | ⟨rfl,rfl,rfl,rfl⟩
  ·exact app.run8 xs ty o n c v hp.1 hp.2.1
  ·exact app.run4 xs ty o n c v hp.1 hp.2.1)
def h0L:E8:=⟨1779033703,3144134277,1013904242,2773480762,1359893119,2600822924,528734635,1541459225⟩
def S0:Hs:=⟨h0L,⟨0,0,0,0,0,0,0,0,0,0,0,0,0,0,0,0,0,0,0,0,0,0,0,0,0,0,0,0,0,0,0,0,0,0,0,0,0,0,0,0,0,0,0,0,0,0,0,0,0,0,0,0,0,0,0,0,0,0,0,0,0,0,0,0⟩,0⟩
namespace wr
def M (o n c:Nat):List (Option SV):=aJ 48 0 [(0,.o (.a (.ptr 0 0))),(1,.o (.a (.sld 1 0 o n c)))]
def zsOf (ys:List Int) (o n a:Nat):List Int:=((ys.drop o).take n).take (Nat.min n (64-a))
def cst (H:Hs) (ys:List Int) (o n c a k:Nat) (n':Int) (o2 n2 c2:Nat) (d:Bool):Cst:=[decide (0<(n:Int))=true,IntKind.i64.wrap (H.n.tmod 64)=(a:Int),
 0≤(a:Int),(a:Int)≤64,((64:Nat):Int)≤((64:Nat):Int),SV.o (.a (.sld 0 8 (advO 64 (a:Int).toNat 0) (64-(a:Int).toNat) (64-(a:Int).toNat)))= .o (.a (.sld 0 8 a (64-a) (64-a))),
 o+n≤ys.length,a+Nat.min n (64-a)≤64,((Nat.min n (64-a):Nat):Int)=(k:Int),IntKind.u64.wrap (H.n+IntKind.u64.wrap (k:Int))=n',
 0≤(k:Int),(k:Int)≤(n:Int),(n:Int)≤(c:Int),SV.o (.a (.sld 1 0 (advO c (k:Int).toNat o) ((n:Int).toNat-(k:Int).toNat) (c-(k:Int).toNat)))= .o (.a (.sld 1 0 o2 n2 c2)),
 (IntKind.i64.wrap ((a:Int)+(k:Int))==64)=d]
end wr
theorem vT {s s':Nat→Int} (h:∀i,i<8→s i=s' i) (k w:Int):∀i,i<8→qj s k w i=qj s' k w i:=by
 intro i hi
 have e1:t1F s k w=t1F s' k w:=by unfold t1F;rw[h 4 (by omega),h 5 (by omega),h 6 (by omega),h 7 (by omega)]
 have e2:t2F s=t2F s':=by unfold t2F;rw[h 0 (by omega),h 1 (by omega),h 2 (by omega)]
 match i,hi with
 | 0,_=>show nN _ _=nN _ _;rw[e1,e2]
 | 1,_=>exact h 0 (by omega)
 | 2,_=>exact h 1 (by omega)
 | 3,_=>exact h 2 (by omega)
 | 4,_=>show nN _ _=nN _ _;rw[e1,h 3 (by omega)]
 | 5,_=>exact h 4 (by omega)
 | 6,_=>exact h 5 (by omega)
 | 7,_=>exact h 6 (by omega)
theorem E8.mk_congr {f g:Nat→Int} (h:∀i,i<8→f i=g i):E8.mk' f=E8.mk' g:=E8.uQ fun i hi=>by rw[E8.dY _ i hi,E8.dY _ i hi,h i hi]
theorem kW (n:Nat) (h:n≤140737488355328):Room Tryz.prog 5 n:=by
 have h1:(Tryz.prog.info? 5).map (·.bytes)=some 1:=by kernel_rfl
 cases hq:Tryz.prog.info? 5 with
 | none=>rw[hq] at h1;cases h1
 | some j=>
  rw[hq] at h1
  have:j.bytes=1:=by simpa using h1
  exact⟨j,hq,by rw[this];omega,by omega⟩
def padL (n:Int):Nat:=(IntKind.u64.wrap (1+(IntKind.u64.wrap (119-n.tmod 64)).tmod 64)).toNat
def padV (n:Int) (L:Nat):List Int:=((bq (0+L) (app.sh8.map (aF (IntKind.u64.wrap (n*8)))) 0 (bq 0 [128] 0 (List.replicate 72 0))).drop 0).take (L+8)
def sumBH (h:E8):B32:=⟨aF (IntKind.u64.wrap h.b0) 24,aF (IntKind.u64.wrap h.b0) 16,aF (IntKind.u64.wrap h.b0) 8,aF (IntKind.u64.wrap h.b0) 0,aF (IntKind.u64.wrap h.b1) 24,aF (IntKind.u64.wrap h.b1) 16,aF (IntKind.u64.wrap h.b1) 8,aF (IntKind.u64.wrap h.b1) 0,aF (IntKind.u64.wrap h.b2) 24,aF (IntKind.u64.wrap h.b2) 16,aF (IntKind.u64.wrap h.b2) 8,aF (IntKind.u64.wrap h.b2) 0,aF (IntKind.u64.wrap h.b3) 24,aF (IntKind.u64.wrap h.b3) 16,aF (IntKind.u64.wrap h.b3) 8,aF (IntKind.u64.wrap h.b3) 0,aF (IntKind.u64.wrap h.b4) 24,aF (IntKind.u64.wrap h.b4) 16,aF (IntKind.u64.wrap h.b4) 8,aF (IntKind.u64.wrap h.b4) 0,aF (IntKind.u64.wrap h.b5) 24,aF (IntKind.u64.wrap h.b5) 16,aF (IntKind.u64.wrap h.b5) 8,aF (IntKind.u64.wrap h.b5) 0,aF (IntKind.u64.wrap h.b6) 24,aF (IntKind.u64.wrap h.b6) 16,aF (IntKind.u64.wrap h.b6) 8,aF (IntKind.u64.wrap h.b6) 0,aF (IntKind.u64.wrap h.b7) 24,aF (IntKind.u64.wrap h.b7) 16,aF (IntKind.u64.wrap h.b7) 8,aF (IntKind.u64.wrap h.b7) 0⟩
def kZ (H:Hs):B32:=sumBH (cK H (padV H.n (padL H.n))).h
theorem padL_le (n:Int) (h:0≤n):1≤padL n∧padL n≤64:=by
 unfold padL
 rw[Int.tmod_eq_emod_of_nonneg h,bN,bN,Int.tmod_eq_emod_of_nonneg (by omega)]
 omega
def zeroBH:B32:=⟨0,0,0,0,0,0,0,0,0,0,0,0,0,0,0,0,0,0,0,0,0,0,0,0,0,0,0,0,0,0,0,0⟩
def s256_spec:List aV→Option (SV × dh × Cst)
 | [.win .u8 ys n ty]=>some (ak.enc (kZ (cK S0 ys)),.none,[])
 | [.val (.o (.a (.v (.slice _ 0 0))))]=>some (ak.enc (kZ S0),.none,[])
 | _=>none
theorem zC {f:List Int→SV × dh × Cst} {z:SV × dh × Cst} {ps:List aV} {q:SV × dh × Cst} (h:(match ps with
 | [.win .u8 ys n ty]=>some (f ys)
 | [.val (.o (.a (.v (.slice _ 0 0))))]=>some z
 | _=>none)=some q):(∃ys n ty,ps=[.win .u8 ys n ty]∧q=f ys)∨(∃a,ps=[.val (.o (.a (.v (.slice a 0 0))))]∧q=z):=by
 split at h
 ·cases h;exact .inl ⟨_,_,_,rfl,rfl⟩
 ·cases h;exact .inr ⟨_,rfl,rfl⟩
 ·cases h
open Go Go.Eng Go.RowKit
end Go.Proofs.YthlmepolmemejaaGreatDoor

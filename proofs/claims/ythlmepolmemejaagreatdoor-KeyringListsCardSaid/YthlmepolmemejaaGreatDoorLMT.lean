/- Package beaconref03: mod of any bytes: walk, contract, value. -/
import Derived.Test.YthlmepolmemejaaGreatDoorLFo
import Derived.Test.YthlmepolmemejaaGreatDoorLMC
import Derived.Test.YthlmepolmemejaaGreatDoorLMS
import Derived.Test.YthlmepolmemejaaGreatDoorLMP
import Derived.Test.YthlmepolmemejaaGreatDoorLMQ
set_option linter.unusedVariables false
namespace Go.Proofs.YthlmepolmemejaaGreatDoor
open Go Go.Eng
set_option maxRecDepth 100000
def bitF (f:Nat→Int) (k:Nat):Bool:=bits .and .u8 (eB (f (k/8)) (k%8)) 1==1
def modB (f:Nat→Bool):Nat→N4→N4
 | 0,o=>o
 | k+1,o=>modB f k (bif f k then bM (bM o o) d9 else bM o o)
def lf (ys:List Int) (i:Nat):Int:=ys.getD i 0
namespace rmod
noncomputable abbrev fn:=Tryz.f70
noncomputable def body:Code:=bZ fn
noncomputable def C:Code:=cs1 (cs1 (bY 2 body))
noncomputable def L:Code:=cL (cB (cs2 (cs1 (bY 2 body))))
noncomputable def D:Code:=cs2 (bY 2 body)
theorem fV:bY 2 body= .seq (.seq C (.block 0 (.loop L))) D:=by kernel_rfl
noncomputable def Γ:Cons Tryz.prog G2:=[zM.lift jh]
def M0 (n c:Nat):List (Option SV):=aJ 31 0 [(0,.o (.a (.sld 0 0 0 n c))),(2,.o (.a (.ptr 1 0))),(3,.o (.a (.ptr 2 0)))]
def M (n c k:Nat):List (Option SV):=aJ 31 0 [(0,.o (.a (.sld 0 0 0 n c))),(2,.o (.a (.ptr 1 0))),(3,.o (.a (.ptr 2 0))),(4,.o (.a (.v (.int .i64 ((k:Int)-1)))))]
def mem (ys:List Int) (ty:TypeId) (o:N4):List Blk:=[⟨false,ty,.pre .u8 ys⟩,⟨true,99,.lit (cN4.row bF)⟩,⟨true,99,.lit (cN4.row o)⟩]
theorem jy (n c:Nat) (ys:List Int) (ty:TypeId) (o:N4):oI (M0 n c) (mem ys ty o):=by delta oI;kernel_rfl
theorem ids (n c k:Nat) (ys:List Int) (ty:TypeId) (o:N4):oI (M n c k) (mem ys ty o):=by delta oI;kernel_rfl
theorem s0 (n c:Nat) (ys:List Int) (ty:TypeId):oX Γ 100 (dU 2 body) (aH fn [.o (.a (.sld 0 0 0 n c))]) [⟨false,ty,.pre .u8 ys⟩] [] .normal (M0 n c) (mem ys ty bF) []:=by delta oX;kernel_rfl
theorem c0 (n c:Nat) (ys:List Int) (ty:TypeId) (g:Nat→SV):outX (mem ys ty bF).length (M n c (8*n)) (exec Γ tys 100 C ⟨fill g 0 (M0 n c),mem ys ty bF,[(7,[.n ((8*n:Nat):Int)]),(8,[.n (((8*n:Nat):Int)-1)])]⟩)=
  some (.normal,live (M n c (8*n)),(M n c (8*n)).length,mem ys ty bF,[IntKind.i64.wrap (8*(n:Int))=((8*n:Nat):Int),IntKind.i64.wrap (((8*n:Nat):Int)-1)=((8*n:Nat):Int)-1]):=by kernel_rfl
def cs (n k : Nat) (ys : List Int) (o oo : N4) (v : Int) (t : Bool) : Cst :=
  [decide (((k + 1 : Nat) : Int) - 1 ≥ 0) = true, aj o, aj o, cN4.enc (bM o o) = cN4.enc oo, IntKind.i64.wrap ((((k + 1 : Nat) : Int) - 1).tdiv 8) = ((k / 8 : Nat) : Int), 0 ≤ ((k / 8 : Nat) : Int), ((k / 8 : Nat) : Int) < (n : Int), 0 + k / 8 < ys.length, ys.getD (0 + k / 8) 0 = v,
   (((k + 1 : Nat) : Int) - 1).tmod 8 = ((k % 8 : Nat) : Int), IntKind.u64.wrap ((k % 8 : Nat) : Int) = ((k % 8 : Nat) : Int), (bits .and .u8 (v.fdiv (2 ^ min (k % 8) 8)) 1 == 1) = t]
def orc (k:Nat) (oo o2:N4) (v:Int) (t:Bool):Orc:=[(10,[.b true]),(15,[.s (cN4.enc oo)]),(18,[.n ((k/8:Nat):Int)]),(20,[.n v]),(22,[.n ((k%8:Nat):Int)]),(23,[.n ((k%8:Nat):Int)]),(26,[.b t]),(29,[.s (cN4.enc o2)]),(12,[.n ((k:Int)-1)])]
theorem stepT (n c k:Nat) (ys:List Int) (ty:TypeId) (o oo o2:N4) (v:Int) (g:Nat→SV):outX (mem ys ty o2).length (M n c k) (exec Γ tys 100 L ⟨fill g 0 (M n c (k+1)),mem ys ty o,orc k oo o2 v true⟩)=
  some (.normal,live (M n c k),(M n c k).length,mem ys ty o2,cs n k ys o oo v true++[aj oo,aj d9,cN4.enc (bM oo d9)=cN4.enc o2,IntKind.i64.wrap (((k+1:Nat):Int)-1-1)=(k:Int)-1]):=by kernel_rfl
theorem stepF (n c k:Nat) (ys:List Int) (ty:TypeId) (o oo:N4) (v:Int) (g:Nat→SV):outX (mem ys ty oo).length (M n c k) (exec Γ tys 100 L ⟨fill g 0 (M n c (k+1)),mem ys ty o,orc k oo oo v false⟩)=
  some (.normal,live (M n c k),(M n c k).length,mem ys ty oo,cs n k ys o oo v false++[IntKind.i64.wrap (((k+1:Nat):Int)-1-1)=(k:Int)-1]):=by kernel_rfl
section
variable (n c:Nat) (ys:List Int) (ty:TypeId) (o:N4) (g:Nat→SV)
theorem stop:outX (mem ys ty o).length (M0 n c) (exec Γ tys 100 L ⟨fill g 0 (M n c 0),mem ys ty o,[(10,[.b false])]⟩)=
  some (.exit 0,live (M0 n c),(M0 n c).length,mem ys ty o,[decide (((0:Nat):Int)-1≥0)=false]):=by kernel_rfl
noncomputable def fin:St:=dz Γ tys 100 D ⟨fill g 0 (M0 n c),mem ys ty o,[]⟩
theorem d:exec Γ tys 100 D ⟨fill g 0 (M0 n c),mem ys ty o,[]⟩=some (.ret,⟨(fin n c ys ty o g).tm,(fin n c ys ty o g).mem,[]⟩,[]):=by kernel_rfl
theorem res:eRes tys (fin n c ys ty o g).tm (fun k=>(fin n c ys ty o g).mem[k]?) fn.results.toList=some [.g (cN4.row o)]:=by kernel_rfl
end
theorem walk (n c:Nat) (ys:List Int) (ty:TypeId) (hy:ys.length=n) (hn:n≤140737488355328):aK Tryz.prog G2 1 body (aH fn [.o (.a (.sld 0 0 0 n c))]) [⟨false,ty,.pre .u8 ys⟩] (aN tys fn (bA (cN4.enc (modB (bitF (lf ys)) (8*n) bF)) .none)):=by
 have w:∀x:Int,-9223372036854775808≤x→x<9223372036854775808→IntKind.i64.wrap x=x:=fun x h0 h1=>by rw[IntKind.wrap_i64];omega
 refine Runs.bS ah mixed 2 (s0 n c ys ty) trivial (jy _ _ _ _ _) rfl fun g=> ?_
 rw[fV]
 refine Runs.seq (Runs.seq (Runs.au ah mixed (c0 n c ys ty g) ⟨by rw[w _ (by omega) (by omega)];omega,by rw[w _ (by omega) (by omega)],trivial⟩ (ids _ _ _ _ _ _) rfl fun g=> ?_))
 refine Runs.block ?_
 refine Runs.dS (fun(x:Nat × N4)=>M n c x.1) (fun x=>mem ys ty x.2) (fun x=>x.1≤8*n∧aj x.2∧modB (bitF (lf ys)) x.1 x.2=modB (bitF (lf ys)) (8*n) bF) (fun x=>x.1) ?_ (8*n,bF) ⟨Nat.le_refl _,gy,rfl⟩ g
 rintro⟨k,o⟩ g ⟨hk,ho,hm⟩
 simp only at hk ho hm
 cases k with
 | zero=>
  refine Runs.au ah mixed (stop n c ys ty o g) ⟨by decide,trivial⟩ (jy _ _ _ _ _) rfl fun g=> ?_
  refine Runs.aQ ah mixed (d n c ys ty o g) trivial (aN.ret (res n c ys ty o g) ?_)
  rw[←hm]
  rfl
 | succ k=>
  have hoo:=kg ho ho
  have e1:IntKind.i64.wrap ((((k+1:Nat):Int)-1).tdiv 8)=((k/8:Nat):Int):=by
   rw[show((k+1:Nat):Int)-1=(k:Int) by omega,Int.tdiv_eq_ediv_of_nonneg (by omega),w _ (by omega) (by omega)]
   omega
  have e2:(((k+1:Nat):Int)-1).tmod 8=((k%8:Nat):Int):=by
   rw[show((k+1:Nat):Int)-1=(k:Int) by omega,Int.tmod_eq_emod_of_nonneg (by omega)]
   omega
  have e3:IntKind.u64.wrap ((k%8:Nat):Int)=((k%8:Nat):Int):=by rw[IntKind.wrap_u64];omega
  have e4:IntKind.i64.wrap (((k+1:Nat):Int)-1-1)=(k:Int)-1:=by rw[w _ (by omega) (by omega)];omega
  have e5:min (k%8) 8=k%8:=by omega
  have e6:ys.getD (0+k/8) 0=lf ys (k/8):=by rw[Nat.zero_add];rfl
  have hd:decide (((k+1:Nat):Int)-1≥0)=true:=decide_eq_true (by omega)
  cases hb:bitF (lf ys) k with
  | true=>
   have hb':(bits .and .u8 ((lf ys (k/8)).fdiv (2^min (k%8) 8)) 1==1)=true:=by rw[e5];exact hb
   refine Runs.au ah mixed (stepT n c k ys ty o (bM o o) (bM (bM o o) d9) (lf ys (k/8)) g) ⟨hd,ho,ho,rfl,e1,by omega,by omega,by omega,e6,e2,e3,hb',hoo,qK,rfl,e4,trivial⟩ (ids _ _ _ _ _ _) rfl fun g'=>⟨(k,bM (bM o o) d9),g',rfl,rfl,⟨by simp only;omega,kg hoo qK,?_⟩,by simp only;omega⟩
   rw[←hm]
   show _=modB (bitF (lf ys)) k (bif bitF (lf ys) k then bM (bM o o) d9 else bM o o)
   rw[hb,cond_true]
  | false=>
   have hb':(bits .and .u8 ((lf ys (k/8)).fdiv (2^min (k%8) 8)) 1==1)=false:=by rw[e5];exact hb
   refine Runs.au ah mixed (stepF n c k ys ty o (bM o o) (lf ys (k/8)) g) ⟨hd,ho,ho,rfl,e1,by omega,by omega,by omega,e6,e2,e3,hb',e4,trivial⟩ (ids _ _ _ _ _ _) rfl fun g'=>⟨(k,bM o o),g',rfl,rfl,⟨by simp only;omega,hoo,?_⟩,by simp only;omega⟩
   rw[←hm]
   show _=modB (bitF (lf ys)) k (bif bitF (lf ys) k then bM (bM o o) d9 else bM o o)
   rw[hb,cond_false]
def spec:List aV→Option (SV × dh × Cst)
 | [.win .u8 ys n ty]=>some (cN4.enc (modB (bitF (lf ys)) (8*n) bF),.none,[n≤140737488355328])
 | _=>none
end rmod
noncomputable def rmod_con:Con Tryz.prog G2:=Con.parts ah 70 rmod.fn Tryz.func70 (by kernel_rfl) (c:=rmod.body) (by kernel_rfl) [.win .u8] rmod.spec
 (fun ps r e p h hp=>by
  unfold rmod.spec at h
  split at h<;>cases h
  exact⟨rfl,fun b hb=>by simp[bG,aV.blk] at hb;rw[hb]⟩)
 (fun ps r e p cap h hp hi=>by
  unfold rmod.spec at h
  split at h<;>cases h
  exact rmod.walk _ _ _ _ hi.1.1 hp.1)
theorem plus_lt {a b:N4} (ha:aj a) (hb:aj b) (la:N4V a<bP) (lb:N4V b<bP):N4V (bM a b)<bP:=by
 rw[rR ha hb la lb]
 exact Int.emod_lt_of_pos _ (by decide)
theorem one4_val:N4V d9=1:=by decide
theorem modB_val (f:Nat→Bool):∀(k:Nat) (o:N4),aj o→N4V o<bP→aj (modB f k o)∧N4V (modB f k o)=(N4V o*((2^k:Nat):Int)+((gX f k:Nat):Int))%bP
 | 0,o,ho,hl=>⟨ho,by
   show N4V o=(N4V o*1+0)%bP
   rw[Int.mul_one,Int.add_zero,Int.emod_eq_of_lt (jH ho).1 hl]⟩
 | k+1,o,ho,hl=>by
  have hoo:=kg ho ho
  have loo:=plus_lt ho ho hl hl
  have voo:=rR ho ho hl hl
  have h1l:N4V d9<bP:=by rw[one4_val];decide
  have hp:((2^(k+1):Nat):Int)=2*((2^k:Nat):Int):=by rw[Nat.pow_succ];omega
  have fin:∀(x t:Int) (o':N4),aj o'→N4V o'<bP→N4V o'=(x+x+t)%bP→(N4V (modB f k o')=(N4V o'*((2^k:Nat):Int)+((gX f k:Nat):Int))%bP)→N4V (modB f k o')=(x*((2^(k+1):Nat):Int)+(((gX f k:Nat):Int)+((2^k:Nat):Int)*t))%bP:=by
   intro x t o' _ _ h1 h2
   rw[h2,h1,Int.add_emod,Int.mul_emod,Int.emod_emod_of_dvd _ (Int.dvd_refl _),←Int.mul_emod,←Int.add_emod,hp]
   congr 1
   rw[Int.add_mul,Int.add_mul,Int.mul_comm t]
   generalize ((2^k:Nat):Int)=P
   have:x*(2*P)=x*P+x*P:=by rw[←Int.mul_assoc,Int.mul_comm x 2,Int.mul_assoc];omega
   omega
  cases hb:f k with
  | true=>
   have e:modB f (k+1) o=modB f k (bM (bM o o) d9):=by
    show modB f k (bif f k then _ else _)=_
    rw[hb,cond_true]
   have h3:=kg hoo qK
   have l3:=plus_lt hoo qK loo h1l
   have v3:=rR hoo qK loo h1l
   rw[voo,one4_val] at v3
   obtain⟨g1,g2⟩:=modB_val f k _ h3 l3
   refine⟨by rw[e];exact g1,?_⟩
   have v4:N4V (bM (bM o o) d9)=(N4V o+N4V o+1)%bP:=by
    rw[v3,Int.add_emod,Int.emod_emod_of_dvd _ (Int.dvd_refl _),←Int.add_emod]
   have:=fin (N4V o) 1 _ h3 l3 v4 g2
   rw[e,this]
   congr 2
   show _=((gX f k+2^k*(f k).toNat:Nat):Int)
   rw[hb]
   show _=((gX f k+2^k*1:Nat):Int)
   omega
  | false=>
   have e:modB f (k+1) o=modB f k (bM o o):=by
    show modB f k (bif f k then _ else _)=_
    rw[hb,cond_false]
   obtain⟨g1,g2⟩:=modB_val f k _ hoo loo
   refine⟨by rw[e];exact g1,?_⟩
   have v4:N4V (bM o o)=(N4V o+N4V o+0)%bP:=by rw[voo,Int.add_zero]
   have:=fin (N4V o) 0 _ hoo loo v4 g2
   rw[e,this]
   congr 2
   show _=((gX f k+2^k*(f k).toNat:Nat):Int)
   rw[hb]
   show _=((gX f k+2^k*0:Nat):Int)
   omega
theorem bitF_eq {f:Nat→Int} (hf:∀i,0≤f i∧f i<256) (i t:Nat) (ht:t<8):bitF f (8*i+t)=decide ((f i).toNat/2^t%2=1):=by
 obtain⟨h0,h1⟩:=hf i
 unfold bitF
 rw[show(8*i+t)/8=i by omega,show(8*i+t)%8=t by omega,mh]
 generalize f i=x at*
 obtain⟨n,rfl⟩:=Int.eq_ofNat_of_zero_le h0
 have e:(n:Int)/2^t=((n/2^t:Nat):Int):=by simp
 have hle:n/2^t≤n:=Nat.div_le_self _ _
 rw[e,Int.toNat_natCast]
 generalize n/2^t=q at*
 rw[and1 _ (by omega) (by omega)]
 have e2:(q:Int)%2=((q%2:Nat):Int):=by simp
 rw[e2]
 by_cases hc:q%2=1
 ·rw[hc];rfl
 ·rw[decide_eq_false hc,beq_eq_false_iff_ne]
  omega
def nu (f:Nat→Int) (s:Nat):Nat→Nat
 | 0=>0
 | m+1=>nu f s m+256^m*(f (s+m)).toNat
theorem byteV_cat (f:Nat→Int) (s m:Nat):∀r,nu f s (m+r)=nu f s m+256^m*nu f (s+m) r
 | 0=>by simp[nu]
 | r+1=>by
  rw[←Nat.add_assoc]
  show nu f s (m+r)+256^(m+r)*(f (s+(m+r))).toNat=_
  rw[byteV_cat f s m r,Nat.pow_add]
  show _=nu f s m+256^m*(nu f (s+m) r+256^r*(f (s+m+r)).toNat)
  rw[Nat.mul_add,Nat.add_assoc,Nat.mul_assoc,Nat.add_assoc s m r]
theorem zm {f:Nat→Int} (hf:∀i,0≤f i∧f i<256):∀i,gX (bitF f) (8*i)=nu f 0 i
 | 0=>by rw[Nat.mul_zero,gX,nu]
 | i+1=>by
  rw[Nat.mul_succ,xg (bitF f) (8*i) (f i).toNat 8 (fun t ht=>bitF_eq hf i t ht),zm hf i,nu,Nat.zero_add]
  have h1:=(hf i).2
  have h0:=(hf i).1
  rw[Nat.mod_eq_of_lt (by omega),Nat.pow_mul]
theorem w8_byteV {f:Nat→Int} (hf:∀i,0≤f i∧f i<256) (k:Nat):w8 f k=((nu f k 8:Nat):Int):=by
 rw[(mH hf k).1]
 have h7:=(hf (k+7)).1
 have h6:=(hf (k+6)).1
 have h5:=(hf (k+5)).1
 have h4:=(hf (k+4)).1
 have h3:=(hf (k+3)).1
 have h2:=(hf (k+2)).1
 have h1:=(hf (k+1)).1
 have h0:=(hf (k+0)).1
 simp only[nu]
 generalize f (k+7)=x7 at*
 generalize f (k+6)=x6 at*
 generalize f (k+5)=x5 at*
 generalize f (k+4)=x4 at*
 generalize f (k+3)=x3 at*
 generalize f (k+2)=x2 at*
 generalize f (k+1)=x1 at*
 generalize f (k+0)=x0 at*
 omega
theorem Ac {f:Nat→Int} (hf:∀i,0≤f i∧f i<256) (n:Nat):∀j,j≤n→hor f n j=((nu f (8*(n-j)) (8*j):Nat):Int)
 | 0,_=>rfl
 | j+1,h=>by
  show hor f n j*18446744073709551616+w8 f (8*(n-1-j))=_
  rw[Ac hf n j (by omega),w8_byteV hf,show 8*(j+1)=8+8*j by omega,byteV_cat,show 8*(n-(j+1))=8*(n-1-j) by omega,show 8*(n-1-j)+8=8*(n-j) by omega]
  generalize nu f (8*(n-j)) (8*j)=A
  generalize nu f (8*(n-1-j)) 8=B
  have:(256^8:Nat)=18446744073709551616:=by decide
  rw[this]
  omega
theorem bsum_congr {f g:Nat→Bool}:∀k,(∀i,i<k→f i=g i)→gX f k=gX g k
 | 0,_=>rfl
 | k+1,h=>by
  rw[gX,gX,bsum_congr k fun i hi=>h i (by omega),h k (by omega)]
theorem pX:N4V bF=0:=by decide
theorem red_mod {f g:Nat→Int} (n:Nat) (hf:∀i,0≤f i∧f i<256) (he:∀i,i<8*n→g i=f i):modB (bitF g) (8*(8*n)) bF=fJ f n n:=by
 obtain⟨g1,g2⟩:=modB_val (bitF g) (8*(8*n)) bF gy (by rw[pX];decide)
 obtain⟨k1,k2⟩:=iT hf n n
 refine N4V_inj g1 k1 ?_
 have e:gX (bitF g) (8*(8*n))=gX (bitF f) (8*(8*n)):=bsum_congr _ fun i hi=>by
  unfold bitF
  rw[he _ (by omega)]
 rw[g2,k2,pX,Int.zero_mul,Int.zero_add,e,zm hf,Ac hf n n (Nat.le_refl _),Nat.sub_self]
theorem modS_modB (b:B32):∀(k:Nat) (o:N4),modS b k o=modB (bitF b.at) k o
 | 0,o=>by rw[modS,modB]
 | k+1,o=>by
  show modS b k (match lI b k with | true=>bM (bM o o) d9 | false=>bM o o)=modB (bitF b.at) k (bif lI b k then bM (bM o o) d9 else bM o o)
  rw[←modS_modB b k]
  cases lI b k with
  | true=>rfl
  | false=>rfl
theorem modN_red {b:B32} (h:∀i,0≤b.at i∧b.at i<256):kQ b=fJ b.at 4 4:=by
 unfold kQ
 rw[modS_modB]
 exact red_mod 4 h fun _ _=>rfl
theorem and1w (x:Int) (h:Word x):gu x 1=x%2:=
 bits_mask .u64 64 (by decide) wraps_u64 1 (by decide) x h.1 h.2
theorem bitW_eq (e:N4) (he:aj e) (i t:Nat) (hi:i<4) (ht:t<64):jO e (64*i+t)=decide ((at4 e i).toNat/2^t%2=1):=by
 have hw:Word (at4 e i):=by
  obtain⟨a,b,c,d⟩:=he
  match i,hi with
  | 0,_=>exact a
  | 1,_=>exact b
  | 2,_=>exact c
  | 3,_=>exact d
 obtain⟨h0,h1⟩:=hw
 unfold jO
 rw[show(64*i+t)/64=i by omega,show(64*i+t)%64=t by omega,mh]
 generalize at4 e i=x at*
 obtain⟨n,rfl⟩:=Int.eq_ofNat_of_zero_le h0
 have e:(n:Int)/2^t=((n/2^t:Nat):Int):=by simp
 have hle:n/2^t≤n:=Nat.div_le_self _ _
 rw[e,Int.toNat_natCast]
 generalize n/2^t=q at*
 rw[and1w _ ⟨by omega,by omega⟩]
 have e2:(q:Int)%2=((q%2:Nat):Int):=by simp
 rw[e2]
 by_cases hc:q%2=1
 ·rw[hc];rfl
 ·rw[decide_eq_false hc,beq_eq_false_iff_ne]
  omega
theorem bsum_n4 {e:N4} (he:aj e):((gX (jO e) 256:Nat):Int)=N4V e:=by
 have s:=fun i hi=>xg (jO e) (64*i) (at4 e i).toNat 64 (fun t ht=>bitW_eq e he i t hi ht)
 have s3:=s 3 (by omega)
 have s2:=s 2 (by omega)
 have s1:=s 1 (by omega)
 have s0:=s 0 (by omega)
 simp only[Nat.mul_zero,Nat.mul_one] at s0 s1 s2 s3
 obtain⟨⟨a0,a1⟩,⟨b0,b1⟩,⟨c0,c1⟩,⟨d0,d1⟩⟩:=he
 rw[show(256:Nat)=64*3+64 by rfl,s3,show 64*3=64*2+64 by rfl,s2,show 64*2=64+64 by rfl,s1,show gX (jO e) 64=gX (jO e) (0+64) by rw[Nat.zero_add],s0]
 show((0+2^0*(e.l0.toNat%2^64)+2^64*(e.l1.toNat%2^64)+2^(64+64)*(e.l2.toNat%2^64)+2^(64*2+64)*(e.l3.toNat%2^64):Nat):Int)=_
 unfold N4V
 generalize e.l0=x0 at*
 generalize e.l1=x1 at*
 generalize e.l2=x2 at*
 generalize e.l3=x3 at*
 clear s0 s1 s2 s3 s
 omega
theorem mulS_val {x y:N4} (hy:aj y) (ly:N4V y<bP):∀(k:Nat) (o:N4),aj o→N4V o<bP→aj (lU x y k o)∧N4V (lU x y k o)=(N4V o*((2^k:Nat):Int)+((gX (jO x) k:Nat):Int)*N4V y)%bP
 | 0,o,ho,hl=>⟨by rw[lU];exact ho,by
   rw[lU]
   show N4V o=(N4V o*1+0*N4V y)%bP
   rw[Int.mul_one,Int.zero_mul,Int.add_zero,Int.emod_eq_of_lt (jH ho).1 hl]⟩
 | k+1,o,ho,hl=>by
  have hoo:=kg ho ho
  have loo:=plus_lt ho ho hl hl
  have voo:=rR ho ho hl hl
  have hp:((2^(k+1):Nat):Int)=2*((2^k:Nat):Int):=by rw[Nat.pow_succ];omega
  have fin:∀(z t:Int) (o':N4),N4V o'=(z+z+t)%bP→(N4V (lU x y k o')=(N4V o'*((2^k:Nat):Int)+((gX (jO x) k:Nat):Int)*N4V y)%bP)→N4V (lU x y k o')=(z*((2^(k+1):Nat):Int)+(((gX (jO x) k:Nat):Int)*N4V y+((2^k:Nat):Int)*t))%bP:=by
   intro z t o' h1 h2
   rw[h2,h1,Int.add_emod,Int.mul_emod,Int.emod_emod_of_dvd _ (Int.dvd_refl _),←Int.mul_emod,←Int.add_emod,hp]
   congr 1
   rw[Int.add_mul,Int.add_mul,Int.mul_comm t]
   generalize ((2^k:Nat):Int)=P
   have:z*(2*P)=z*P+z*P:=by rw[←Int.mul_assoc,Int.mul_comm z 2,Int.mul_assoc];omega
   omega
  cases hb:jO x k with
  | true=>
   have e:lU x y (k+1) o=lU x y k (bM (bM o o) y):=by
    show lU x y k (match jO x k with | true=>bM (bM o o) y | false=>bM o o)=_
    rw[hb]
   have h3:=kg hoo hy
   have l3:=plus_lt hoo hy loo ly
   have v3:=rR hoo hy loo ly
   rw[voo] at v3
   obtain⟨g1,g2⟩:=mulS_val hy ly k _ h3 l3
   refine⟨by rw[e];exact g1,?_⟩
   have v4:N4V (bM (bM o o) y)=(N4V o+N4V o+N4V y)%bP:=by
    rw[v3,Int.add_emod,Int.emod_emod_of_dvd _ (Int.dvd_refl _),←Int.add_emod]
   have:=fin (N4V o) (N4V y) _ v4 g2
   rw[e,this]
   congr 2
   show _=((gX (jO x) k+2^k*(jO x k).toNat:Nat):Int)*N4V y
   rw[hb]
   show _=((gX (jO x) k+2^k*1:Nat):Int)*N4V y
   rw[Nat.mul_one,Int.natCast_add,Int.add_mul]
  | false=>
   have e:lU x y (k+1) o=lU x y k (bM o o):=by
    show lU x y k (match jO x k with | true=>bM (bM o o) y | false=>bM o o)=_
    rw[hb]
   obtain⟨g1,g2⟩:=mulS_val hy ly k _ hoo loo
   refine⟨by rw[e];exact g1,?_⟩
   have v4:N4V (bM o o)=(N4V o+N4V o+0)%bP:=by rw[voo,Int.add_zero]
   have:=fin (N4V o) 0 _ v4 g2
   rw[e,this]
   congr 2
   show _=((gX (jO x) k+2^k*(jO x k).toNat:Nat):Int)*N4V y
   rw[hb]
   show _=((gX (jO x) k+2^k*0:Nat):Int)*N4V y
   rw[Nat.mul_zero,Int.mul_zero,Int.add_zero,Nat.add_zero]
theorem mul0_val {x y:N4} (hx:aj x) (hy:aj y) (ly:N4V y<bP):aj (lU x y 256 bF)∧N4V (lU x y 256 bF)=(N4V x*N4V y)%bP:=by
 obtain⟨h1,h2⟩:=mulS_val (x:=x) hy ly 256 bF gy (by rw[pX];decide)
 refine⟨h1,?_⟩
 rw[h2,pX,Int.zero_mul,Int.zero_add,bsum_n4 hx]
theorem lf_b64 (b:B64):∀i,i<64→lf b.to i=b.at i
 | 0,_=>rfl
 | 1,_=>rfl
 | 2,_=>rfl
 | 3,_=>rfl
 | 4,_=>rfl
 | 5,_=>rfl
 | 6,_=>rfl
 | 7,_=>rfl
 | 8,_=>rfl
 | 9,_=>rfl
 | 10,_=>rfl
 | 11,_=>rfl
 | 12,_=>rfl
 | 13,_=>rfl
 | 14,_=>rfl
 | 15,_=>rfl
 | 16,_=>rfl
 | 17,_=>rfl
 | 18,_=>rfl
 | 19,_=>rfl
 | 20,_=>rfl
 | 21,_=>rfl
 | 22,_=>rfl
 | 23,_=>rfl
 | 24,_=>rfl
 | 25,_=>rfl
 | 26,_=>rfl
 | 27,_=>rfl
 | 28,_=>rfl
 | 29,_=>rfl
 | 30,_=>rfl
 | 31,_=>rfl
 | 32,_=>rfl
 | 33,_=>rfl
 | 34,_=>rfl
 | 35,_=>rfl
 | 36,_=>rfl
 | 37,_=>rfl
 | 38,_=>rfl
 | 39,_=>rfl
 | 40,_=>rfl
 | 41,_=>rfl
 | 42,_=>rfl
 | 43,_=>rfl
 | 44,_=>rfl
 | 45,_=>rfl
 | 46,_=>rfl
 | 47,_=>rfl
 | 48,_=>rfl
 | 49,_=>rfl
 | 50,_=>rfl
 | 51,_=>rfl
 | 52,_=>rfl
 | 53,_=>rfl
 | 54,_=>rfl
 | 55,_=>rfl
 | 56,_=>rfl
 | 57,_=>rfl
 | 58,_=>rfl
 | 59,_=>rfl
 | 60,_=>rfl
 | 61,_=>rfl
 | 62,_=>rfl
 | 63,_=>rfl
 | n+64,h=>absurd h (by omega)
theorem rReduce_ex (b:B64) (v:N4):eP [rmod_con,sbytes_con.lift jh] tys Tryz.f69 100 [bU.enc b] [(4,[.s (cN4.enc v)])]=some (ak.enc (fO v),[64≤b.to.length,64≤64,64≤140737488355328,cN4.enc (modB (bitF (lf b.to)) (8*64) bF)=cN4.enc v]):=by kernel_rfl
theorem rReduce_fn (b:B64) (h:∀i,0≤b.at i∧b.at i<256):ay Tryz.prog G2 69 [bU.enc b] (ak.enc (fO (fJ b.at 8 8))):=
 ay.aD ah mixed Tryz.func69 (rReduce_ex b (fJ b.at 8 8)) ⟨by show 64≤64;omega,by omega,by omega,congrArg cN4.enc (red_mod 8 h fun i hi=>lf_b64 b i hi),trivial⟩ rfl rfl
noncomputable def rReduce_con:Con Tryz.prog G2:=fQ 69 Tryz.f69 Tryz.func69 (by kernel_rfl) (by kernel_rfl) bU (fun b=>ak.enc (fO (fJ b.at 8 8))) (fun b=>[∀i,0≤b.at i∧b.at i<256]) (fun _=>rfl) (fun b h=>rReduce_fn b h.1)
structure PtB (b:B32) (p:Pt):Prop where
 ok:BOk b
 on:OnC p
 val:VB b=encV p
theorem PtB.dec {b:B32} {p:Pt} (h:PtB b p):dG b=true∧Rep (decP b) p:=dec_of h.ok h.on h.val
theorem PtB.enc {P:P20} {p:Pt} (h:Rep P p) (ho:OnC p):PtB (kS P) p:=⟨(enc_val h).1,ho,(enc_val h).2⟩
theorem PtB.eq {a b:B32} {p:Pt} (ha:PtB a p) (hb:PtB b p):eqB a b=true:=eqB_val ha.ok hb.ok (by rw[ha.val,hb.val])
theorem PtB.inj {a:B32} {p q:Pt} (hp:PtB a p) (hq:PtB a q):p=q:=encV_inj hp.on hq.on (by rw[←hp.val,hq.val])
theorem base_pt {n:B32} (hn:BOk n):PtB (pbaseB n) (nC bC (NV n)):=PtB.enc (A9 zn oJ hn) (iN oJ _)
theorem clear_pt {a:B32} {p:Pt} (ha:PtB a p):PtB (tX a) (nC p 8):=by
 obtain⟨h1,r1⟩:=ha.dec
 unfold tX
 rw[h1]
 exact PtB.enc (r1.clr ha.on) (iN ha.on _)
theorem gen_eq:kS pW=iC:=by
 obtain⟨h1,h2⟩:=enc_val zn
 refine VB_inj _ _ h1 wE ?_
 rw[h2]
 decide+kernel
theorem gen_pt:PtB iC bC:=⟨wE,oJ,by rw[←gen_eq];exact(enc_val zn).2⟩
theorem NV_num (n:Int) (h:Byte n):NV (numB n)=n.toNat:=by unfold NV;rw[numB_val]
theorem Bj (b:B32):∀k,vL b k=lowV b k
 | 0=>rfl
 | k+1=>by rw[vL,lowV,Bj b k]
theorem bits_NV {b:B32} (hb:BOk b):gX (lI b) 256=NV b:=by
 rw[show 256=8*32 from rfl,bsum_bytes hb,Bj,lowV_eq hb]
theorem pt_of {b:B32} (hb:BOk b) (h:dG b=true):∃p,PtB b p:=by
 obtain⟨p,h1,h2,h3⟩:=dec_main hb h
 exact⟨p,hb,h1,h2⟩
theorem small_val {a:B32} {p:Pt} (ha:PtB a p):gK a=eqB (tX a) jQ:=by
 unfold gK tX
 rw[ha.dec.1]
theorem b8_ok:BOk (numB 8):=numB_ok 8 ⟨by decide,by decide⟩
theorem b8_val:NV (numB 8)=8:=by rw[NV_num 8 ⟨by decide,by decide⟩];rfl
def IsN (n:N4) (x:Fp):Prop:=aj n∧toF (N4V n)=x
theorem IsN.eq {n:N4} {x y:Fp} (h:IsN n x) (e:x=y):IsN n y:=e ▸ h
theorem IsN.plus {a b:N4} {x y:Fp} (ha:IsN a x) (hb:IsN b y):IsN (fH a b) (x+y):=by
 obtain⟨h1,rfl⟩:=ha
 obtain⟨h2,rfl⟩:=hb
 obtain⟨h3,h4⟩:=zX h1 h2
 exact⟨h3,by rw[iH.2 h4,toF_add]⟩
theorem IsN.minus {a b:N4} {x y:Fp} (ha:IsN a x) (hb:IsN b y):IsN (bT a b) (x-y):=by
 obtain⟨h1,rfl⟩:=ha
 obtain⟨h2,rfl⟩:=hb
 obtain⟨h3,h4⟩:=minusN_val h1 h2
 exact⟨h3,by rw[iH.2 h4,toF_sub]⟩
theorem IsN.times {a b:N4} {x y:Fp} (ha:IsN a x) (hb:IsN b y):IsN (aU a b) (x*y):=by
 obtain⟨h1,rfl⟩:=ha
 obtain⟨h2,rfl⟩:=hb
 obtain⟨h3,h4⟩:=je h1 h2
 exact⟨h3,by rw[iH.2 h4,kU]⟩
theorem IsN.inv {a:N4} {x:Fp} (ha:IsN a x):IsN (jc a) (finv x):=by
 obtain⟨h1,h2⟩:=ha
 obtain⟨h3,h4⟩:=invN_val h1
 refine⟨h3,?_⟩
 rw[iH.2 h4]
 unfold finv
 generalize pN-2=k
 exact Aw x _ h2 k
theorem IsN.least {a:N4} {x:Fp} (ha:IsN a x):IsN (bX a) x∧N4V (bX a)=(x.val:Int):=by
 obtain⟨h1,rfl⟩:=ha
 obtain⟨h3,h4,h5⟩:=sW h1
 refine⟨⟨h3,?_⟩,?_⟩
 ·rw[iH,h5,Int.emod_emod]
 ·rw[h5,jS]
theorem xI:IsN bF 0:=⟨gy,by rw[pX];exact q9⟩
theorem one4_n:IsN d9 1:=⟨qK,by rw[one4_val];exact toF_one⟩
theorem d4_n:IsN d4 dF:=⟨pV,by decide+kernel⟩
def QRep (Q:P16) (p:Pt):Prop:=∃z:Fp,z≠0∧IsN Q.x (p.1*z)∧IsN Q.y (p.2*z)∧IsN Q.z z∧IsN Q.t (p.1*p.2*z)
theorem QRep.ok {Q:P16} {p:Pt} (h:QRep Q p):QOk Q:=by
 obtain⟨z,hz,hx,hy,hzz,ht⟩:=h
 exact⟨hx.1,hy.1,hzz.1,ht.1⟩
theorem QRep.neutral:QRep nI oC:=by
 refine⟨1,oO,?_,?_,one4_n,?_⟩
 ·exact xI.eq (by decide+kernel)
 ·exact one4_n.eq (by decide+kernel)
 ·exact xI.eq (by decide+kernel)
section
variable {R:Type} [Lean.Grind.CommRing R]
theorem qc (a b c d z w e:R):a*b*z*(c*d*w)*(e+e)=a*b*z*(e+e)*(c*d*w):=by grind
theorem qd (z w:R):(z+z)*w=z*w+z*w:=by grind
theorem qm1 (x z:R):0-x*z= -x*z:=by grind
theorem qm2 (x y z:R):0-x*y*z= -x*y*z:=by grind
theorem q1 (x:R):x*1=x:=by grind
theorem q2 (x y:R):x*y*1=x*y:=by grind
end
theorem QRep.sum {P Q:P16} {p q:Pt} (hp:QRep P p) (hq:QRep Q q) (op:OnC p) (oq:OnC q):QRep (jV P Q) (gG p q):=by
 obtain⟨z,hz,hx,hy,hzz,ht⟩:=hp
 obtain⟨w,hw,kx,ky,kz,kt⟩:=hq
 have dp:=den_pos op oq
 have dn:=nT op oq
 have ip:=eY dp
 have jp:=eY dn
 have hA:IsN (sumA P Q) ((p.2*z-p.1*z)*(q.2*w-q.1*w)):=(hy.minus hx).times (ky.minus kx)
 have hB:IsN (sumB P Q) ((p.2*z+p.1*z)*(q.2*w+q.1*w)):=(hy.plus hx).times (ky.plus kx)
 have hC:IsN (sumC P Q) (p.1*p.2*z*(dF+dF)*(q.1*q.2*w)):=((ht.times kt).times (d4_n.plus d4_n)).eq (qc _ _ _ _ _ _ _)
 have hD:IsN (jw P Q) (z*w+z*w):=((hzz.plus hzz).times kz).eq (qd _ _)
 obtain⟨e1,e2,e3⟩:=pa1 dF p.1 p.2 q.1 q.2 z w (finv (1+dF*p.1*q.1*p.2*q.2)) (finv (1-dF*p.1*q.1*p.2*q.2)) ip jp _ _ _ _ rfl rfl rfl rfl
 have hn:=pa2 dF p.1 p.2 q.1 q.2 z w _ _ rfl rfl
 refine⟨_,?_,((hB.minus hA).times (hD.minus hC)).eq e1,((hD.plus hC).times (hB.plus hA)).eq e2,(hD.minus hC).times (hD.plus hC),((hB.minus hA).times (hB.plus hA)).eq e3⟩
 rw[hn]
 exact dQ (dQ (dQ (dQ two_ne hz) hw) dn) (dQ (dQ (dQ two_ne hz) hw) dp)
theorem QRep.neg {P:P16} {p:Pt} (hp:QRep P p):QRep (negQ P) (negC p):=by
 obtain⟨z,hz,hx,hy,hzz,ht⟩:=hp
 exact⟨z,hz,(xI.minus hx).eq (qm1 _ _),hy,hzz,(xI.minus ht).eq (qm2 _ _ _)⟩
theorem oftQ_rep {n:B32} {P:P16} {p:Pt} (h:QRep P p) (hp:OnC p):∀(k m:Nat) (O:P16),QRep O (nC p m)→QRep (oftQ n P k O) (nC p (m*2^k+gX (lI n) k))
 | 0,m,O,ho=>by rw[oftQ,gX,Nat.pow_zero,Nat.mul_one,Nat.add_zero];exact ho
 | k+1,m,O,ho=>by
  rw[oftQ,gX]
  have h2:=ho.sum ho (iN hp m) (iN hp m)
  rw[←wm hp] at h2
  cases hb:lI n k with
  | true=>
   have h3:=h2.sum h (iN hp _) hp
   have h4:=oftQ_rep (n:=n) h hp k (m+m+1) _ h3
   have e:(m+m+1)*2^k+gX (lI n) k=m*2^(k+1)+(gX (lI n) k+2^k*true.toNat):=by
    rw[Nat.pow_succ,Bool.toNat_true]
    generalize 2^k=t
    grind
   rw[←e]
   exact h4
  | false=>
   have h4:=oftQ_rep (n:=n) h hp k (m+m) _ h2
   have e:(m+m)*2^k+gX (lI n) k=m*2^(k+1)+(gX (lI n) k+2^k*false.toNat):=by
    rw[Nat.pow_succ,Bool.toNat_false]
    generalize 2^k=t
    grind
   rw[←e]
   exact h4
theorem qL {n:B32} (hn:BOk n) {P:P16} {p:Pt} (h:QRep P p) (hp:OnC p):QRep (fK n P) (nC p (NV n)):=by
 have h1:=oftQ_rep (n:=n) h hp 256 0 nI (by rw[nC];exact QRep.neutral)
 rw[Nat.zero_mul,Nat.zero_add,bits_NV hn] at h1
 exact h1
theorem or0 (x:Int) (h0:0≤x) (h1:x<256):bits .or .u8 x 0=x:=by
 have h:bits .or .u8 0 x=0+x:=bits_join .u8 8 (by decide) wraps_u8 8 0 x (by decide) (by decide) (by decide) h0 h1 (by omega)
 have c:bits .or .u8 x 0=bits .or .u8 0 x:=by
  unfold bits
  simp only
  rw[BitVec.or_comm]
 rw[c,h,Int.zero_add]
theorem qpar_val {n:N4} {x:Fp} (h:IsN n x) (hv:N4V n=(x.val:Int)):IntKind.u8.wrap (n.l0.tmod 2)=((x.val%2:Nat):Int):=by
 have h0:=h.1.1.1
 have hp:=l0_par h.1
 rw[Int.tmod_eq_emod_of_nonneg h0,IntKind.wrap_u8,hp,hv]
 omega
theorem encQ_val {P:P16} {p:Pt} (h:QRep P p):BOk (encQ P)∧VB (encQ P)=encV p:=by
 obtain⟨z,hz,hx,hy,hzz,ht⟩:=h
 have hi:=eY hz
 have ex:p.1*z*finv z=p.1:=by generalize finv z=i at*;grind
 have ey:p.2*z*finv z=p.2:=by generalize finv z=i at*;grind
 obtain⟨kx,vx⟩:=((hx.times hzz.inv).eq ex).least
 have ky:=(hy.times hzz.inv).eq ey
 have vy:=ky.least.2
 have hpx:IntKind.u8.wrap ((qX P).l0.tmod 2)=((p.1.val%2:Nat):Int):=qpar_val kx vx
 have b0:BOk (qY P):=wZ _
 have b1:VB (qY P)=(p.2.val:Int):=by
  unfold qY
  rw[vF _ ky.least.1.1,vy]
 obtain⟨r,r1,r2,r3⟩:=VB_hi b0
 have hl:=Fp_lt p.2
 have hpl:=pP_lit
 have htb:=pY b0
 have hlt:(qY P).b31<128:=by omega
 unfold encQ encV
 rw[hpx]
 have h3:p.1.val%2<2:=Nat.mod_lt _ (by decide)
 rcases(by omega:p.1.val%2=0∨p.1.val%2=1) with h | h
 ·rw[h]
  have e:IntKind.u8.wrap (((0:Nat):Int)*2^7)=0:=by decide
  rw[e,or0 _ htb.1 htb.2]
  refine⟨yj b0 htb,?_⟩
  rw[wM,b1]
  omega
 ·rw[h]
  have e:IntKind.u8.wrap (((1:Nat):Int)*2^7)=128:=by decide
  rw[e,or7 _ htb.1 hlt]
  refine⟨yj b0 ⟨by omega,by omega⟩,?_⟩
  rw[wM,b1]
  omega
theorem eqZ {n:N4} {x:Fp} (h:IsN n x) (hv:N4V n=(x.val:Int)):eqI n.to bF.to=true↔x=0:=by
 rw[eqI_iff _ _ (by rw[zq,zq])]
 constructor
 ·intro e
  have e2:=N4to_inj e
  rw[e2,pX] at hv
  exact Fin.ext (by show x.val=0;omega)
 ·intro e
  have e2:n=bF:=N4V_inj h.1 gy (by rw[hv,e,pX];rfl)
  rw[e2]
theorem rootF {a:N4} {x:Fp} (ha:IsN a x):∃r:Fp,IsN (bX (rt1 a)) r∧N4V (bX (rt1 a))=(r.val:Int)∧(rtOk a=true↔r*r=x)∧((∃s,s*s=x)→r*r=x):=by
 obtain⟨h1,rfl⟩:=ha
 obtain⟨h2,h3⟩:=rt1_val h1
 have h4:=rtOk_iff h1
 have hr:IsN (rt1 a) (toF (N4V (rt1 a))):=⟨h2,rfl⟩
 obtain⟨k1,k2⟩:=hr.least
 refine⟨_,k1,k2,?_,?_⟩
 ·rw[h4,←kU,iH]
 ·rintro⟨s,hs⟩
  have:=h3 ⟨(s.val:Int),by rw[←iH,kU,jT,hs]⟩
  rw[←kU,iH]
  exact this
theorem qOk_iff (b:B32):qOk b=true↔bV (dM (bH b)) p4=true∧rtOk (qq b)=true∧(eqI (qr b).to bF.to=true→gY b=false):=by
 unfold qOk gY
 cases bV (dM (bH b)) p4<;>cases rtOk (qq b)<;>cases eqI (qr b).to bF.to<;>cases (b.b31.fdiv (2^7)==1)<;>simp
theorem qdecN {b:B32} (hb:BOk b):IsN (qy b) (toF (VB (bH b)))∧IsN (qq b) ((toF (VB (bH b))*toF (VB (bH b))-1)*finv (dF*(toF (VB (bH b))*toF (VB (bH b)))+1)):=by
 obtain⟨h1,h2⟩:=uO (mX hb).1
 have hy:IsN (qy b) (toF (VB (bH b))):=⟨h1,by unfold qy;rw[h2]⟩
 have hyy:=hy.times hy
 exact⟨hy,(hyy.minus one4_n).times ((d4_n.times hyy).plus one4_n).inv⟩
theorem qcan_iff {b:B32} (hb:BOk b):bV (dM (bH b)) p4=true↔VB (bH b)<pP:=by
 obtain⟨h1,h2⟩:=uO (mX hb).1
 rw[kK h1 sU,h2,l7]
theorem qv_ne (y:Fp):dF*(y*y)+1≠0:=fun k=>dd_ne y (by rw[←k];generalize dF=d;grind)
section
variable {R:Type} [Lean.Grind.CommRing R]
theorem on3 (d x y i:R) (hi:(d*(y*y)+1)*i=1) (h:x*x=(y*y-1)*i):y*y-x*x=1+d*(x*x)*(y*y):=by
 have e:(d*(y*y)+1)*(x*x)=y*y-1:=by rw[h];grind
 grind
theorem on4 (d x y i:R) (hi:(d*(y*y)+1)*i=1) (h:y*y-x*x=1+d*(x*x)*(y*y)):x*x=(y*y-1)*i:=by
 have e:(d*(y*y)+1)*(x*x)=y*y-1:=by grind
 rw[←e];grind
theorem on5 (d x y:R) (h:y*y-x*x=1+d*(x*x)*(y*y)):y*y-(0-x)*(0-x)=1+d*((0-x)*(0-x))*(y*y):=by grind
theorem addneg (x:R):x+(0-x)=0:=by grind
end
theorem sign_val {b:B32} (hb:BOk b):b.b31.fdiv (2^7)=(if gY b then 1 else 0):=by
 have h:=pY hb
 have hs:=yh hb
 rw[Int.fdiv_eq_ediv_of_nonneg _ (by decide),show(2:Int)^7=128 from by decide]
 cases hc:gY b with
 | true=>
  have:=hs.1 hc
  simp only[if_true]
  omega
 | false=>
  have:¬128≤b.b31:=fun k=>by rw[hs.2 k] at hc;cases hc
  simp only[Bool.false_eq_true,if_false]
  omega
theorem qdec_main {b:B32} (hb:BOk b) (h:qOk b=true):∃p,OnC p∧VB b=encV p∧QRep (qP b) p:=by
 obtain⟨hY,hQ⟩:=qdecN hb
 obtain⟨z,hz,hzv,hok,-⟩:=rootF hQ
 obtain⟨h1,h2,h3⟩:=(qOk_iff b).1 h
 have hc:=(qcan_iff hb).1 h1
 have hl:=(mX hb)
 have hyv:((toF (VB (bH b))).val:Int)=VB (bH b):=by rw[jS,Int.emod_eq_of_lt (Ar hl.1) hc]
 have hon:=on3 dF z (toF (VB (bH b))) _ (eY (qv_ne _)) (hok.1 h2)
 have hpv:IntKind.u8.wrap ((qr b).l0.tmod 2)=((z.val%2:Nat):Int):=qpar_val hz hzv
 have hsv:=sign_val hb
 have hz0:eqI (qr b).to bF.to=true↔z=0:=eqZ hz hzv
 have h2':z.val%2<2:=Nat.mod_lt _ (by decide)
 have hzz:IsN (qr b) z:=hz
 unfold qP
 rw[h]
 clear hQ hok
 generalize toF (VB (bH b))=y at*
 have hval:VB b=(y.val:Int)+57896044618658097711785492504343953926634992332820282019728792003956564819968*(if gY b then 1 else 0):=by
  have:=hl.2
  cases hs:gY b with
  | true=>rw[hs] at this;simp only[if_true] at this ⊢;omega
  | false=>rw[hs] at this;simp only[Bool.false_eq_true,if_false] at this ⊢;omega
 unfold qx
 cases hp:qpar b with
 | true=>
  unfold qpar at hp
  rw[hpv,hsv,bne_iff_ne] at hp
  have hne:z≠0:=fun k=>by
   have hs:=h3 (hz0.2 k)
   rw[hs,k] at hp
   exact hp (by simp)
  have:=wI (addneg z) hne
  have hodd:=pN_odd
  obtain⟨hm,hmv⟩:=(xI.minus hzz).least
  refine⟨(0-z,y),?_,?_,1,oO,hm.eq (q1 _).symm,hY.eq (q1 _).symm,one4_n,(hm.times hY).eq (q2 _ _).symm⟩
  ·exact on5 dF z y hon
  ·unfold encV
   simp only
   rw[hval]
   cases hs:gY b with
   | true=>
    rw[hs] at hp
    simp only[if_true] at hp ⊢
    omega
   | false=>
    rw[hs] at hp
    simp only[Bool.false_eq_true,if_false] at hp ⊢
    omega
 | false=>
  unfold qpar at hp
  rw[hpv,hsv,bne_eq_false_iff_eq] at hp
  refine⟨(z,y),hon,?_,1,oO,hzz.eq (q1 _).symm,hY.eq (q1 _).symm,one4_n,(hzz.times hY).eq (q2 _ _).symm⟩
  unfold encV
  simp only
  rw[hval,←hp]
theorem qdec_of {b:B32} {p:Pt} (hb:BOk b) (hp:OnC p) (hv:VB b=encV p):qOk b=true∧QRep (qP b) p:=by
 have hok:qOk b=true:=by
  obtain⟨hY,hQ⟩:=qdecN hb
  obtain⟨z,hz,hzv,hok,hex⟩:=rootF hQ
  have hl:=(mX hb)
  have hsg:=yh hb
  have hlt:=Fp_lt p.2
  have hpl:=pP_lit
  obtain⟨r,r1,r2,r3⟩:=VB_hi hb
  have htb:=pY hb
  have h3:p.1.val%2<2:=Nat.mod_lt _ (by decide)
  have hy:VB (bH b)=(p.2.val:Int)∧(gY b=true→p.1.val%2=1):=by
   unfold encV at hv
   cases hs:gY b with
   | true=>
    have:=hsg.1 hs
    rw[hs] at hl
    simp only[if_true] at hl
    exact⟨by omega,fun _=>by omega⟩
   | false=>
    have:¬128≤b.b31:=fun k=>by rw[hsg.2 k] at hs;cases hs
    rw[hs] at hl
    simp only[Bool.false_eq_true,if_false] at hl
    exact⟨by omega,fun k=>by cases k⟩
  have hyF:toF (VB (bH b))=p.2:=by rw[hy.1,jT]
  rw[hyF] at hok hex
  have hsq:=on4 dF p.1 p.2 _ (eY (qv_ne p.2)) hp
  have hrr:=hex ⟨p.1,hsq⟩
  have hz0:eqI (qr b).to bF.to=true↔z=0:=eqZ hz hzv
  refine(qOk_iff b).2 ⟨(qcan_iff hb).2 (by omega),hok.2 hrr,fun hi=> ?_⟩
  cases hs:gY b with
  | false=>rfl
  | true=>
   exfalso
   have hone:=hy.2 hs
   rw[hz0.1 hi,←hsq] at hrr
   have e2:p.1*p.1=0:=by rw[←hrr];decide+kernel
   have:p.1=0:=by
    rcases lJ e2 with k | k<;>exact k
   rw[this] at hone
   revert hone
   decide
 refine⟨hok,?_⟩
 obtain⟨q,q1,q2,q3⟩:=qdec_main hb hok
 have:q=p:=encV_inj q1 hp (by rw[←q2,hv])
 rw[←this]
 exact q3
theorem qOk_eq {b:B32} (hb:BOk b):qOk b=dG b:=by
 cases h:dG b with
 | true=>
  obtain⟨p,hP⟩:=pt_of hb h
  exact(qdec_of hb hP.on hP.val).1
 | false=>
  cases h':qOk b with
  | false=>rfl
  | true=>
   obtain⟨p,h1,h2,h3⟩:=qdec_main hb h'
   rw[(dec_of hb h1 h2).1] at h
   cases h
theorem QPt {P:P16} {p:Pt} (h:QRep P p) (ho:OnC p):PtB (encQ P) p:=⟨(encQ_val h).1,ho,(encQ_val h).2⟩
theorem PtB.qdec {b:B32} {p:Pt} (h:PtB b p):qOk b=true∧QRep (qP b) p:=qdec_of h.ok h.on h.val
theorem qmul_pt {n a:B32} {p:Pt} (hn:BOk n) (ha:PtB a p):PtB (qmulB n a) (nC p (NV n)):=by
 obtain⟨h1,r1⟩:=ha.qdec
 unfold qmulB
 rw[h1]
 exact QPt (qL hn r1 ha.on) (iN ha.on _)
theorem all_clear {a:B32} (ha:BOk a):eqB (tX a) (nP a)=true:=by
 cases h1:dG a with
 | false=>
  unfold tX nP qmulB
  rw[qOk_eq ha,h1]
  exact(rZ _ _).2 rfl
 | true=>
  obtain⟨p,hp⟩:=pt_of ha h1
  have h2:=qmul_pt b8_ok hp
  rw[b8_val] at h2
  exact(clear_pt hp).eq h2
theorem all_small {a:B32} (ha:BOk a):gK a=jq a:=by
 cases h1:dG a with
 | false=>
  unfold gK jq
  rw[qOk_eq ha,h1]
 | true=>
  obtain⟨p,hp⟩:=pt_of ha h1
  have h2:=(rZ _ _).1 (all_clear ha)
  rw[small_val hp]
  unfold jq
  rw[qOk_eq ha,h1,h2]
theorem all_base {n:B32} (hn:BOk n):eqB (pbaseB n) (qU n)=true:=
 (base_pt hn).eq (QPt (qL hn gen_pt.qdec.2 oJ) (iN oJ _))
theorem Ap {n:B32} (hn:BOk n):pbaseB n=qU n:=(rZ _ _).1 (all_base hn)
def scalB (d:B64):B32:=⟨bits .and .u8 d.b0 248,d.b1,d.b2,d.b3,d.b4,d.b5,d.b6,d.b7,d.b8,d.b9,d.b10,d.b11,d.b12,d.b13,d.b14,d.b15,d.b16,d.b17,d.b18,d.b19,d.b20,d.b21,d.b22,d.b23,d.b24,d.b25,d.b26,d.b27,d.b28,d.b29,d.b30,bits .or .u8 (bits .and .u8 d.b31 127) 64⟩
def preB (d:B64):B32:=⟨d.b32,d.b33,d.b34,d.b35,d.b36,d.b37,d.b38,d.b39,d.b40,d.b41,d.b42,d.b43,d.b44,d.b45,d.b46,d.b47,d.b48,d.b49,d.b50,d.b51,d.b52,d.b53,d.b54,d.b55,d.b56,d.b57,d.b58,d.b59,d.b60,d.b61,d.b62,d.b63⟩
end Go.Proofs.YthlmepolmemejaaGreatDoor

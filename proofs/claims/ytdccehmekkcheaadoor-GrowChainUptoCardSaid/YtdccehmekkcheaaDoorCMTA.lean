/- Packages tree, beaconref11, beaconref07: common bits, first bits, the order: contracts. -/
import Derived.Test.YtdccehmekkcheaaDoorCFo
import Derived.Test.YtdccehmekkcheaaDoorCTrF
import Derived.Test.YtdccehmekkcheaaDoorCJn
set_option linter.unusedSimpArgs false
set_option linter.unusedVariables false
namespace Go.Proofs.YtdccehmekkcheaaDoor
open Go Go.Eng Go.RowKit
set_option maxRecDepth 100000
theorem xor_tab:fV (fun x=>fV (fun y=>bits .xor .u8 (x:Int) (y:Int)) 256) 256=fU (fun x=>fU (fun y=>((Nat.xor x y:Nat):Int)) 256) 256:=by kernel_rfl
theorem xor_eq {x y:Int} (hx:Byte x) (hy:Byte y):bits .xor .u8 x y=((x.toNat ^^^ y.toNat:Nat):Int):=by
 obtain⟨x0,x1⟩:=hx
 obtain⟨y0,y1⟩:=hy
 have h:=S3.dK xor_tab x.toNat (by omega)
 have h2:bits .xor .u8 (x.toNat:Int) (y.toNat:Int)=((Nat.xor x.toNat y.toNat:Nat):Int):=S3.dK h y.toNat (by omega)
 rw[Int.toNat_of_nonneg x0,Int.toNat_of_nonneg y0] at h2
 exact h2
theorem bt_nat (x k:Nat):bt (x:Int) k=x.testBit k:=by
 unfold bt
 rw[Nat.testBit_eq_decide_div_mod_eq,Bool.eq_iff_iff,beq_iff_eq,decide_eq_true_eq]
 have:((x:Int)/2^k%2)=((x/2^k%2:Nat):Int):=by simp
 rw[this]
 omega
theorem bt_xor {x y:Int} (hx:Byte x) (hy:Byte y) (k:Nat):bt (bits .xor .u8 x y) k=(bt x k !=bt y k):=by
 rw[xor_eq hx hy,bt_nat,Nat.testBit_xor]
 have e1:bt x k=x.toNat.testBit k:=by rw[←bt_nat,Int.toNat_of_nonneg hx.1]
 have e2:bt y k=y.toNat.testBit k:=by rw[←bt_nat,Int.toNat_of_nonneg hy.1]
 rw[e1,e2]
theorem xor_byte {x y:Int} (hx:Byte x) (hy:Byte y):Byte (bits .xor .u8 x y):=by
 rw[xor_eq hx hy]
 have h:x.toNat ^^^ y.toNat<2^8:=Nat.xor_lt_two_pow (by obtain⟨_,_⟩:=hx;omega) (by obtain⟨_,_⟩:=hy;omega)
 exact⟨by omega,by omega⟩
theorem len_tab:(List.range 256).all (fun z=>Nat.beq z 0||((z.testBit (kE z-1))&&(List.range 8).all fun k=> !(Nat.ble (kE z) k&&z.testBit k)))=true:=by decide+kernel
theorem len_top {z:Nat} (h0:z≠0) (h:z<256):z.testBit (kE z-1)=true∧1≤kE z∧∀k,kE z≤k→k<8→z.testBit k=false:=by
 have:=List.all_eq_true.1 len_tab z (List.mem_range.2 h)
 rw[Bool.or_eq_true,Nat.beq_eq,Bool.and_eq_true] at this
 rcases this with q | ⟨q1,q2⟩
 ·exact absurd q h0
 ·refine⟨q1,?_,fun k hk h8=> ?_⟩
  ·unfold kE
   rw[if_neg h0]
   repeat' split
   all_goals omega
  ·have:=List.all_eq_true.1 q2 k (List.mem_range.2 h8)
   rw[Bool.not_eq_true',Bool.and_eq_false_iff] at this
   rcases this with r | r
   ·rw[show Nat.ble (kE z) k=true by rw[Nat.ble_eq];exact hk] at r;cases r
   ·exact r
theorem byte_diff {a b:B32} (ha:BOk a) (hb:BOk b) {j:Nat} (hj:j<32) (he:∀i,i<j→a.at i=b.at i) (hx:(!(bits .xor .u8 (a.at j) (b.at j)==0))=true):
  bN a b=8*j+(8-kE (bits .xor .u8 (a.at j) (b.at j)).toNat):=by
 have hz:=xor_byte (ha j) (hb j)
 have hx0:bits .xor .u8 (a.at j) (b.at j)≠0:=by simpa using hx
 have hbt:=bt_xor (ha j) (hb j)
 generalize bits .xor .u8 (a.at j) (b.at j)=z at*
 obtain⟨z0,z1⟩:=hz
 obtain⟨t1,t2,t3⟩:=len_top (z:=z.toNat) (by omega) (by omega)
 have tb:∀k,z.toNat.testBit k=(bt (a.at j) k !=bt (b.at j) k):=fun k=>by rw[←hbt,←bt_nat,Int.toNat_of_nonneg z0]
 have hl:=tq z.toNat
 refine com_is (by omega) (fun i hi=> ?_) ?_
 ·unfold bQ
  rcases Nat.lt_or_ge (i/8) j with h | h
  ·rw[he _ h]
  ·obtain h2:i/8=j:=by omega
   rw[h2]
   have:=t3 (7-i%8) (by omega) (by omega)
   rw[tb] at this
   simpa using this
 ·unfold bQ
  rw[show(8*j+(8-kE z.toNat))/8=j by omega,show 7-(8*j+(8-kE z.toNat))%8=kE z.toNat-1 by omega]
  rw[tb] at t1
  simpa using t1
theorem bytes_com {a b:B32} (h:∀i,i<32→a.at i=b.at i):bN a b=256:=by
 obtain rfl:=ou h
 exact nY _
namespace tcom
theorem run (a b:B32) (ha:BOk a) (hb:BOk b):Runs Tryd.prog GT body (aK fn [ay.enc a,ay.enc b]) [] (Eng.Ends tys fn ((aQ .i64).enc (bN a b:Nat))):=by
 refine Runs.dz aj mixed 1 (s0 a b) trivial (fO a b) rfl fun g=> ?_
 rw[dJ]
 refine Runs.seq (Runs.seq (Runs.au aj mixed (a1 a b g) trivial (dh a b _) rfl fun g=> ?_))
 refine Runs.block ?_
 refine Runs.dA (fun(j:Nat)=>M1 a (j:Int)) (fun _=>mem a b) (fun j=>j≤32∧∀i,i<j→a.at i=b.at i) (fun j=>32-j) ?_ 0 ⟨Nat.zero_le _,fun i hi=>absurd hi (by omega)⟩ g
 rintro j g ⟨hj,he⟩
 rcases Nat.lt_or_ge j 32 with h | h
 ·cases hx:(!(bits .xor .u8 (a.at j) (b.at j)==0)) with
  | false=>
   have h0:bits .xor .u8 (a.at j) (b.at j)=0:=by simpa using hx
   refine Runs.au aj mixed (S3.dK (stp a b g) j h) ⟨h0,trivial⟩ (dh a b _) rfl fun g=> ?_
   refine⟨j+1,g,rfl,rfl,⟨by omega,fun i hi=> ?_⟩,by omega⟩
   rcases Nat.lt_or_ge i j with h1 | h1
   ·exact he i h1
   ·obtain rfl:i=j:=by omega
    refine byte_ext (ha i) (hb i) fun k _=> ?_
    have:=bt_xor (ha i) (hb i) k
    rw[h0] at this
    have z:bt 0 k=false:=by
     unfold bt
     simp
    rw[z] at this
    simpa using this.symm
  | true=>
   have hd:=byte_diff ha hb h he hx
   have hl:=tq (bits .xor .u8 (a.at j) (b.at j)).toNat
   refine Runs.au aj mixed (S3.dK (hit a b _ _ (bN a b:Nat) g) j h) ⟨rfl,hx,xor_byte (ha j) (hb j),rfl,?_,trivial⟩ (iM a b _) rfl fun g=>Ends.ret (zr a b _ g) rfl
   rw[hd,IntKind.wrap_i64,IntKind.wrap_i64]
   omega
 ·obtain rfl:j=32:=by omega
  refine Runs.au aj mixed (out a b g) trivial (fO a b) rfl fun g=> ?_
  show aF _ _ _ _ _ _ _
  refine Runs.au aj mixed (fin a b g) trivial (iM a b _) rfl fun g=>Ends.ret (zr a b _ g) ?_
  rw[bytes_com he]
  rfl
noncomputable def con:Con Tryd.prog GT:=con2 64 fn Tryd.func64 (by kernel_rfl) (by kernel_rfl) ay ay (fun a b=>(aQ .i64).enc (bN a b:Nat)) (fun a b=>[BOk a,BOk b]) (fun _ _=>rfl) fun a b h=>
 dI.qQ aj Tryd.func64 (c:=body) (by kernel_rfl) (run a b h.1 h.2.1) rfl rfl
end tcom
namespace rcom
theorem run (a b:B32) (n:Int) (ha:BOk a) (hb:BOk b) (h0:0≤n) (h1:n≤256):Runs Tryd.prog GT body (aK fn [ay.enc a,ay.enc b,.o (.a (aG .i64 n))]) [] (Eng.Ends tys fn ((aQ .i64).enc ((min n.toNat (bN a b):Nat):Int))):=by
 refine Runs.dz aj mixed 2 (s0 a b n) trivial (dh a b n _) rfl fun g=> ?_
 rw[dJ]
 refine Runs.seq (Runs.block ?_)
 refine Runs.dA (fun(j:Nat)=>M1 a n (j:Int)) (fun _=>mem a b) (fun j=>(j:Int)≤n∧∀i,i<j→bQ a i=bQ b i) (fun j=>256-j) ?_ 0 ⟨h0,fun i hi=>absurd hi (by omega)⟩ g
 rintro j g ⟨hj,he⟩
 have done:j=min n.toNat (bN a b)→∀g,aF Tryd.prog GT 0 D (fill g 0 (M1 a n (j:Int))) (mem a b) (Eng.Ends tys fn ((aQ .i64).enc ((min n.toNat (bN a b):Nat):Int))):=fun hm g=>by
  refine Runs.au aj mixed (fin a b n _ g) trivial (iM a b _) rfl fun g=>Ends.ret (zr a b _ g) ?_
  rw[←hm]
  rfl
 rcases(by omega:(j:Int)<n∨n≤(j:Int)) with h | h
 ·have hA:(aQ .u8).enc (jS a ((j:Int)).toNat)=(aQ .u8).enc (jS a j):=rfl
  have hB:(aQ .u8).enc (jS b ((j:Int)).toNat)=(aQ .u8).enc (jS b j):=rfl
  have hbit:(jS a j==jS b j)=(bQ a j==bQ b j):=by
   unfold jS
   cases bQ a j<;>cases bQ b j<;>rfl
  cases hx:(bQ a j==bQ b j) with
  | true=>
   refine Runs.au aj mixed (S3.dK (stp a b n _ _ g) j (by omega)) ⟨decide_eq_true h,by omega,by omega,ha,hA,by omega,by omega,hb,hB,hbit.trans hx,trivial⟩ (dh a b n _) rfl fun g=> ?_
   refine⟨j+1,g,rfl,rfl,⟨by omega,fun i hi=> ?_⟩,by omega⟩
   rcases Nat.lt_or_ge i j with h2 | h2
   ·exact he i h2
   ·obtain rfl:i=j:=by omega
    simpa using hx
  | false=>
   refine Runs.au aj mixed (S3.dK (dif a b n _ _ g) j (by omega)) ⟨decide_eq_true h,by omega,by omega,ha,hA,by omega,by omega,hb,hB,hbit.trans hx,trivial⟩ (dh a b n _) rfl fun g=> ?_
   show aF _ _ _ _ _ _ _
   refine done ?_ g
   rw[com_is (show j<256 by omega) he (by simpa using hx)]
   omega
 ·refine Runs.au aj mixed (S3.dK (out a b n g) j (by omega)) ⟨decide_eq_false (by omega),trivial⟩ (dh a b n _) rfl fun g=> ?_
  show aF _ _ _ _ _ _ _
  refine done ?_ g
  have:=oJ (show j≤256 by omega) he
  omega
noncomputable def con:Con Tryd.prog GT:=con3 62 fn Tryd.func62 (by kernel_rfl) (by kernel_rfl) ay ay (aQ .i64) (fun a b n=>(aQ .i64).enc ((min n.toNat (bN a b):Nat):Int)) (fun a b n=>[BOk a,BOk b,0≤n,n≤256]) (fun _ _ _=>rfl) fun a b n h=>
 dI.qQ aj Tryd.func62 (c:=body) (by kernel_rfl) (run a b n h.1 h.2.1 h.2.2.1 h.2.2.2.1) rfl rfl
end rcom
theorem set_at (o:B32) (k:Nat) (v:Int) {i:Nat} (hi:i<32):(setB o k v).at i=if i=k then v else o.at i:=by
 unfold setB
 rw[jo _ hi]
 by_cases h:i=k
 ·subst h;rw[if_pos rfl];simp
 ·rw[if_neg h]
  have:Nat.beq i k=false:=by rw[←Bool.not_eq_true,Nat.beq_eq];exact h
  rw[this,cond_false]
theorem and_tab:fV (fun x=>fV (fun r=>bits .and .u8 (x:Int) (IntKind.u8.wrap (255*2^r))) 8) 256=fU (fun x=>fU (fun r=>(x:Int)/2^r*2^r) 8) 256:=by kernel_rfl
theorem and_top {x:Int} (hx:Byte x) {r:Nat} (hr:r<8):bits .and .u8 x (IntKind.u8.wrap (255*2^r))=x/2^r*2^r:=by
 obtain⟨x0,x1⟩:=hx
 have h2:bits .and .u8 (x.toNat:Int) (IntKind.u8.wrap (255*2^r))=(x.toNat:Int)/2^r*2^r:=S3.dK (S3.dK and_tab x.toNat (by omega)) r hr
 rw[Int.toNat_of_nonneg x0] at h2
 exact h2
theorem or_tab:fV (fun x=>fV (fun r=>bits .or .u8 ((x:Int)/2^(8-r)*2^(8-r)) (IntKind.u8.wrap ((x:Int)/2^(7-r)%2*2^(7-r)))) 8) 256=fU (fun x=>fU (fun r=>(x:Int)/2^(7-r)*2^(7-r)) 8) 256:=by kernel_rfl
theorem or_top {x:Int} (hx:Byte x) {r:Nat} (hr:r<8):bits .or .u8 (x/2^(8-r)*2^(8-r)) (IntKind.u8.wrap (x/2^(7-r)%2*2^(7-r)))=x/2^(7-r)*2^(7-r):=by
 obtain⟨x0,x1⟩:=hx
 have h2:bits .or .u8 ((x.toNat:Int)/2^(8-r)*2^(8-r)) (IntKind.u8.wrap ((x.toNat:Int)/2^(7-r)%2*2^(7-r)))=(x.toNat:Int)/2^(7-r)*2^(7-r):=S3.dK (S3.dK or_tab x.toNat (by omega)) r hr
 rw[Int.toNat_of_nonneg x0] at h2
 exact h2
theorem ble_t {a b:Nat} (h:a≤b):Nat.ble a b=true:=by rw[Nat.ble_eq];exact h
theorem ble_f {a b:Nat} (h:b<a):Nat.ble a b=false:=by rw[←Bool.not_eq_true,Nat.ble_eq];omega
theorem top_lt (x:Int) {r:Nat} (h:r<8):topB x r=x/2^(8-r)*2^(8-r):=by unfold topB;rw[ble_f h,cond_false]
theorem top_ge (x:Int) {r:Nat} (h:8≤r):topB x r=x:=by unfold topB;rw[ble_t h,cond_true]
theorem top_zero {x:Int} (hx:Byte x):topB x 0=0:=by
 rw[top_lt _ (by omega)]
 obtain⟨x0,x1⟩:=hx
 simp only[Nat.sub_zero,Int.reducePow]
 omega
theorem fst_at (b:B32) (n:Nat) {i:Nat} (hi:i<32):(eT b n).at i=topB (b.at i) (n-8*i):=by unfold eT;rw[jo _ hi]
namespace tfst
theorem run (b:B32) (n:Int) (hb:BOk b) (h0:0≤n) (h1:n≤256):Runs Tryd.prog GT body (aK fn [ay.enc b,.o (.a (aG .i64 n))]) [] (Eng.Ends tys fn (ay.enc (eT b n.toNat))):=by
 refine Runs.dz aj mixed 1 (s0 n b) trivial (fO n _ _) rfl fun g=> ?_
 rw[dJ]
 refine Runs.seq (Runs.seq (Runs.au aj mixed (a1 n b g) trivial (dh n _ _ _) rfl fun g=> ?_))
 refine Runs.block ?_
 refine Runs.dA (fun(x:Nat × B32)=>M1 n (x.1:Int)) (fun x=>mem x.2 zB) (fun x=>x.1≤32∧(∀i,i<x.1→x.2.at i=(eT b n.toNat).at i)∧∀i,x.1≤i→i<32→x.2.at i=b.at i) (fun x=>32-x.1) ?_ (0,b) ⟨Nat.zero_le _,fun i hi=>absurd hi (by omega),fun i _ _=>rfl⟩ g
 rintro⟨j,o⟩ g ⟨hj,he,hf⟩
 simp only at hj he hf
 rcases Nat.lt_or_ge j 32 with h | h
 ·have hl:IntKind.i64.wrap (n-IntKind.i64.wrap (8*((j:Nat):Int)))=n-8*j:=by
   rw[IntKind.wrap_i64,IntKind.wrap_i64];omega
  have next:∀v,(v=(eT b n.toNat).at j)→(∀i,i<j+1→(setB o j v).at i=(eT b n.toNat).at i)∧∀i,j+1≤i→i<32→(setB o j v).at i=b.at i:=fun v hv=>by
   refine⟨fun i hi=> ?_,fun i hi hi2=> ?_⟩
   ·rw[set_at _ _ _ (by omega)]
    by_cases e:i=j
    ·rw[if_pos e,e,hv]
    ·rw[if_neg e];exact he i (by omega)
   ·rw[set_at _ _ _ hi2,if_neg (by omega)];exact hf i (by omega) hi2
  have hv:=fst_at b n.toNat h
  have hoj:=hf j (Nat.le_refl _) h
  rcases(by omega:0<n-8*(j:Int)∨n-8*(j:Int)≤0) with g1 | g1
  ·rcases(by omega:n-8*(j:Int)<8∨8≤n-8*(j:Int)) with g2 | g2
   ·obtain⟨d,hd⟩:∃d:Nat,8-(n-8*j)=d:=⟨(8-(n-8*j)).toNat,by omega⟩
    have hd8:d<8:=by omega
    have e1:(8*j+d)/8=j:=by omega
    have e2:(8*j+d)%8=d:=by omega
    have q:=S3.dK (mid n o (n-8*j) ((eT b n.toNat).at j) g) (8*j+d) (by omega)
    simp only[e1,e2] at q
    refine Runs.au aj mixed q ⟨hl,decide_eq_false (by omega),decide_eq_true g2,by rw[IntKind.wrap_i64];omega,?_,trivial⟩ (dh n _ _ _) rfl fun g=> ?_
    ·rw[hoj,and_top (hb j) hd8,hv,top_lt _ (by omega),show 8-(n.toNat-8*j)=d by omega]
    ·obtain⟨p1,p2⟩:=next _ rfl
     exact⟨(j+1,setB o j _),g,rfl,rfl,⟨by omega,p1,p2⟩,by simp only;omega⟩
   ·refine Runs.au aj mixed (S3.dK (pos n o _ g) j h) ⟨hl,decide_eq_false (by omega),decide_eq_false (by omega),trivial⟩ (dh n _ _ _) rfl fun g=> ?_
    refine⟨(j+1,o),g,rfl,rfl,⟨by simp only;omega,fun i hi=> ?_,fun i hi hi2=>hf i (by simp only at hi;omega) hi2⟩,by simp only;omega⟩
    simp only at hi ⊢
    by_cases e:i=j
    ·rw[e,hv,top_ge _ (by omega)];exact hoj
    ·exact he i (by omega)
  ·refine Runs.au aj mixed (S3.dK (neg n o _ g) j h) ⟨hl,decide_eq_true g1,trivial⟩ (dh n _ _ _) rfl fun g=> ?_
   obtain⟨p1,p2⟩:=next 0 (by rw[hv,show n.toNat-8*j=0 by omega,top_zero (hb j)])
   exact⟨(j+1,setB o j 0),g,rfl,rfl,⟨by simp only;omega,p1,p2⟩,by simp only;omega⟩
 ·obtain rfl:j=32:=by omega
  refine Runs.au aj mixed (out n o g) trivial (fO n _ _) rfl fun g=> ?_
  show aF _ _ _ _ _ _ _
  refine Runs.au aj mixed (fin n o g) trivial (iM _ _) rfl fun g=>Ends.ret (zr _ g) ?_
  rw[←ou fun i hi=>he i hi]
  rfl
noncomputable def con:Con Tryd.prog GT:=con2 63 fn Tryd.func63 (by kernel_rfl) (by kernel_rfl) ay (aQ .i64) (fun b n=>ay.enc (eT b n.toNat)) (fun b n=>[BOk b,0≤n,n≤256]) (fun _ _=>rfl) fun b n h=>
 dI.qQ aj Tryd.func63 (c:=body) (by kernel_rfl) (run b n h.1 h.2.1 h.2.2.1) rfl rfl
end tfst
namespace rfst
theorem run (b:B32) (n:Int) (hb:BOk b) (h0:0≤n) (h1:n≤256):Runs Tryd.prog GT body (aK fn [ay.enc b,.o (.a (aG .i64 n))]) [] (Eng.Ends tys fn (ay.enc (eT b n.toNat))):=by
 have z0:zB=eT b 0:=ou fun i hi=>by
  rw[fst_at _ _ hi,Nat.zero_sub,top_zero (hb i)]
  have:∀i:Nat,zB.at i=0:=fun i=>by unfold B32.at;split<;>rfl
  exact this i
 refine Runs.dz aj mixed 2 (s0 b n) trivial (fO b n _ _) rfl fun g=> ?_
 rw[dJ]
 refine Runs.seq (Runs.seq (Runs.au aj mixed (a1 b n zB g) trivial (dh b n _ _ _) rfl fun g=> ?_))
 rw[show mem b zB zB=mem b zB (eT b 0) by rw[←z0]]
 refine Runs.block ?_
 refine Runs.dA (fun(j:Nat)=>M1 n (j:Int)) (fun j=>mem b zB (eT b j)) (fun j=>(j:Int)≤n) (fun j=>256-j) ?_ 0 h0 g
 rintro j g hj
 rcases(by omega:(j:Int)<n∨n≤(j:Int)) with h | h
 ·have hA:(aQ .u8).enc (jS b ((j:Int)).toNat)=(aQ .u8).enc (jS b j):=rfl
  have hv:bits .or .u8 ((eT b j).at (j/8)) (IntKind.u8.wrap (jS b j*2^(7-j%8)))=(eT b (j+1)).at (j/8):=by
   rw[fst_at _ _ (by omega),fst_at _ _ (by omega),top_lt _ (by omega),show j-8*(j/8)=j%8 by omega,show j+1-8*(j/8)=j%8+1 by omega]
   have hb1:jS b j=b.at (j/8)/2^(7-j%8)%2:=by
    unfold jS bQ bt
    have q2:=Int.emod_two_eq (b.at (j/8)/2^(7-j%8))
    rcases q2 with q2 | q2<;>rw[q2]<;>rfl
   rw[hb1,or_top (hb _) (by omega)]
   rcases Nat.lt_or_ge (j%8+1) 8 with g1 | g1
   ·rw[top_lt _ g1,show 8-(j%8+1)=7-j%8 by omega]
   ·rw[top_ge _ g1,show 7-j%8=0 by omega,Int.pow_zero,Int.ediv_one,Int.mul_one]
  have hs:setB (eT b j) (j/8) ((eT b (j+1)).at (j/8))=eT b (j+1):=ou fun i hi=>by
   rw[set_at _ _ _ hi]
   by_cases e:i=j/8
   ·rw[if_pos e,e]
   ·rw[if_neg e,fst_at _ _ hi,fst_at _ _ hi]
    rcases Nat.lt_or_ge i (j/8) with g1 | g1
    ·rw[top_ge _ (by omega),top_ge _ (by omega)]
    ·rw[show j-8*i=0 by omega,show j+1-8*i=0 by omega]
  have q:=S3.dK (stp b n (eT b j) (jS b j) ((eT b (j+1)).at (j/8)) g) j (by omega)
  simp only[hs] at q
  refine Runs.au aj mixed q ⟨decide_eq_true h,by omega,by omega,hb,hA,hv,trivial⟩ (dh b n _ _ _) rfl fun g=> ?_
  exact⟨j+1,g,rfl,rfl,by omega,by omega⟩
 ·refine Runs.au aj mixed (S3.dK (out b n (eT b j) g) j (by omega)) ⟨decide_eq_false (by omega),trivial⟩ (fO b n _ _) rfl fun g=> ?_
  show aF _ _ _ _ _ _ _
  refine Runs.au aj mixed (fin b n (eT b j) g) trivial (iM b _ _) rfl fun g=>Ends.ret (zr b _ g) ?_
  rw[show n.toNat=j by omega]
  rfl
noncomputable def con:Con Tryd.prog GT:=con2 27 fn Tryd.func27 (by kernel_rfl) (by kernel_rfl) ay (aQ .i64) (fun b n=>ay.enc (eT b n.toNat)) (fun b n=>[BOk b,0≤n,n≤256]) (fun _ _=>rfl) fun b n h=>
 dI.qQ aj Tryd.func27 (c:=body) (by kernel_rfl) (run b n h.1 h.2.1 h.2.2.1) rfl rfl
end rfst
theorem top_eq {x y:Int} (hx:Byte x) (hy:Byte y):∀k,k≤8→(∀i,i<k→bt x (7-i)=bt y (7-i))→x/2^(8-k)=y/2^(8-k)
 | 0,_,_=>by
  obtain⟨_,_⟩:=hx
  obtain⟨_,_⟩:=hy
  simp only[Nat.sub_zero,Int.reducePow]
  omega
 | k+1,hk,h=>by
  have ih:=top_eq hx hy k (by omega) fun i hi=>h i (by omega)
  have e:=oZ (h k (by omega))
  clear h
  obtain q | q | q | q | q | q | q | q:k=0∨k=1∨k=2∨k=3∨k=4∨k=5∨k=6∨k=7:=by omega
  all_goals
   subst q
   simp only[Nat.reduceSub,Nat.reduceAdd,Int.reducePow] at ih e ⊢
   omega
theorem byte_lt {x y:Int} (hx:Byte x) (hy:Byte y) {k:Nat} (hk:k<8) (h:∀i,i<k→bt x (7-i)=bt y (7-i)) (hd:bt x (7-k)≠bt y (7-k)):decide (x<y)=bt y (7-k):=by
 have ih:=top_eq hx hy k (by omega) h
 have hd':¬(x/2^(7-k)%2=y/2^(7-k)%2):=fun e=>hd (by unfold bt;rw[e])
 rw[Bool.eq_iff_iff,decide_eq_true_eq]
 unfold bt
 rw[beq_iff_eq]
 clear h hd
 obtain q | q | q | q | q | q | q | q:k=0∨k=1∨k=2∨k=3∨k=4∨k=5∨k=6∨k=7:=by omega
 all_goals
  subst q
  simp only[Nat.reduceSub,Int.reducePow] at ih hd' ⊢
  omega
theorem lt_byte {a b:B32} (ha:BOk a) (hb:BOk b) {j:Nat} (hj:j<32) (he:∀i,i<j→a.at i=b.at i) (hd:a.at j≠b.at j):decide (a.at j<b.at j)=ltV a b:=by
 have hx:(!(bits .xor .u8 (a.at j) (b.at j)==0))=true:=by
  rw[Bool.not_eq_true',←Bool.not_eq_true,beq_iff_eq]
  intro h0
  refine hd (byte_ext (ha j) (hb j) fun k _=> ?_)
  have:=bt_xor (ha j) (hb j) k
  rw[h0] at this
  have z:bt 0 k=false:=by
   unfold bt
   simp
  rw[z] at this
  simpa using this.symm
 have hc:=byte_diff ha hb hj he hx
 have hz:=xor_byte (ha j) (hb j)
 have hl:=tq (bits .xor .u8 (a.at j) (b.at j)).toNat
 have h1:1≤kE (bits .xor .u8 (a.at j) (b.at j)).toNat:=by
  have hx0:bits .xor .u8 (a.at j) (b.at j)≠0:=by simpa using hx
  obtain⟨z0,z1⟩:=hz
  exact(len_top (z:=(bits .xor .u8 (a.at j) (b.at j)).toNat) (by omega) (by omega)).2.1
 have hlt:bN a b<256:=by omega
 generalize hk:8-kE (bits .xor .u8 (a.at j) (b.at j)).toNat=k at hc
 have hk8:k<8:=by omega
 have e8:∀i,i<8→(8*j+i)/8=j∧7-(8*j+i)%8=7-i:=fun i hi=>⟨by omega,by omega⟩
 unfold ltV
 rw[blt_t hlt,cond_true,hc]
 unfold bQ
 rw[(e8 k hk8).1,(e8 k hk8).2]
 refine byte_lt (ha j) (hb j) hk8 (fun i hi=> ?_) ?_
 ·have:=fq (a:=a) (b:=b) (j:=8*j+i) (by omega)
  unfold bQ at this
  rwa [(e8 i (by omega)).1,(e8 i (by omega)).2] at this
 ·have:=com_ne hlt
  rw[hc] at this
  unfold bQ at this
  rwa [(e8 k hk8).1,(e8 k hk8).2] at this
namespace blw
theorem run (a b:B32) (ha:BOk a) (hb:BOk b):Runs Tryd.prog GT body (aK fn [ay.enc a,ay.enc b]) [] (Eng.Ends tys fn (aI.enc (ltV a b))):=by
 refine Runs.dz aj mixed 1 (s0 a b) trivial (fO a b) rfl fun g=> ?_
 rw[dJ]
 refine Runs.seq (Runs.seq (Runs.au aj mixed (a1 a b g) trivial (dh a b _) rfl fun g=> ?_))
 refine Runs.block ?_
 refine Runs.dA (fun(j:Nat)=>M1 a (j:Int)) (fun _=>mem a b) (fun j=>j≤32∧∀i,i<j→a.at i=b.at i) (fun j=>32-j) ?_ 0 ⟨Nat.zero_le _,fun i hi=>absurd hi (by omega)⟩ g
 rintro j g ⟨hj,he⟩
 rcases Nat.lt_or_ge j 32 with h | h
 ·cases hx:(a.at j !=b.at j) with
  | false=>
   have h0:a.at j=b.at j:=by simpa using hx
   refine Runs.au aj mixed (S3.dK (stp a b g) j h) ⟨hx,trivial⟩ (dh a b _) rfl fun g=> ?_
   refine⟨j+1,g,rfl,rfl,⟨by omega,fun i hi=> ?_⟩,by omega⟩
   rcases Nat.lt_or_ge i j with h1 | h1
   ·exact he i h1
   ·obtain rfl:i=j:=by omega
    exact h0
  | true=>
   refine Runs.au aj mixed (S3.dK (hit a b _ g) j h) ⟨hx,lt_byte ha hb h he (by simpa using hx),trivial⟩ (iM a b _) rfl fun g=>Ends.ret (zr a b _ g) rfl
 ·obtain rfl:j=32:=by omega
  refine Runs.au aj mixed (out a b g) trivial (fO a b) rfl fun g=> ?_
  show aF _ _ _ _ _ _ _
  refine Runs.au aj mixed (fin a b g) trivial (iM a b _) rfl fun g=>Ends.ret (zr a b _ g) ?_
  obtain rfl:=ou he
  rw[lt_irrefl]
  rfl
noncomputable def con:Con Tryd.prog GT:=con2 58 fn Tryd.func58 (by kernel_rfl) (by kernel_rfl) ay ay (fun a b=>aI.enc (ltV a b)) (fun a b=>[BOk a,BOk b]) (fun _ _=>rfl) fun a b h=>
 dI.qQ aj Tryd.func58 (c:=body) (by kernel_rfl) (run a b h.1 h.2.1) rfl rfl
end blw
namespace tgood
noncomputable abbrev fn:=Tryd.f30
noncomputable def Γ:Cons Tryd.prog GT:=[tfst.con]
theorem neg (n:Nd):gK Γ tys fn 100 [cNd.enc n] [(5,[.b false])]=some (aI.enc false,[decide (n.len≥0)=false]):=by kernel_rfl
theorem big (n:Nd):gK Γ tys fn 100 [cNd.enc n] [(5,[.b true]),(9,[.b false])]=some (aI.enc false,[decide (n.len≥0)=true,decide (n.len≤256)=false]):=by kernel_rfl
theorem std (n:Nd) (f:B32) (r:Bool):gK Γ tys fn 100 [cNd.enc n] [(5,[.b true]),(9,[.b true]),(16,[.s (ay.enc f)]),(19,[.b r])]=some (aI.enc r,[decide (n.len≥0)=true,decide (n.len≤256)=true,BOk n.pre,0≤n.len,n.len≤256,ay.enc (eT n.pre n.len.toNat)=ay.enc f,eqB f n.pre=r]):=by kernel_rfl
noncomputable def con:Con Tryd.prog GT:=con1 30 fn Tryd.func30 (by kernel_rfl) (by kernel_rfl) cNd (fun n=>aI.enc (gD n)) (fun n=>[BOk n.pre]) (fun _=>rfl) fun n h=>by
 obtain⟨hb,_⟩:=h
 unfold gD
 by_cases h0:0≤n.len
 ·by_cases h1:n.len≤256
  ·rw[decide_eq_true h0,decide_eq_true h1,Bool.true_and,Bool.true_and]
   exact dI.dO aj mixed Tryd.func30 (std n _ _) ⟨decide_eq_true h0,decide_eq_true h1,hb,h0,h1,rfl,rfl,trivial⟩ rfl rfl
  ·rw[decide_eq_true h0,decide_eq_false h1,Bool.true_and,Bool.false_and]
   exact dI.dO aj mixed Tryd.func30 (big n) ⟨decide_eq_true h0,decide_eq_false h1,trivial⟩ rfl rfl
 ·rw[decide_eq_false h0,Bool.false_and]
  exact dI.dO aj mixed Tryd.func30 (neg n) ⟨decide_eq_false h0,trivial⟩ rfl rfl
end tgood
namespace rgood
noncomputable abbrev fn:=Tryd.f31
noncomputable def Γ:Cons Tryd.prog GT:=[rfst.con]
theorem neg (n:Nd):gK Γ tys fn 100 [cNd.enc n] [(5,[.b false])]=some (aI.enc false,[decide (n.len≥0)=false]):=by kernel_rfl
theorem big (n:Nd):gK Γ tys fn 100 [cNd.enc n] [(5,[.b true]),(9,[.b false])]=some (aI.enc false,[decide (n.len≥0)=true,decide (n.len≤256)=false]):=by kernel_rfl
theorem std (n:Nd) (f:B32) (r:Bool):gK Γ tys fn 100 [cNd.enc n] [(5,[.b true]),(9,[.b true]),(16,[.s (ay.enc f)]),(19,[.b r])]=some (aI.enc r,[decide (n.len≥0)=true,decide (n.len≤256)=true,BOk n.pre,0≤n.len,n.len≤256,ay.enc (eT n.pre n.len.toNat)=ay.enc f,eqB f n.pre=r]):=by kernel_rfl
noncomputable def con:Con Tryd.prog GT:=con1 31 fn Tryd.func31 (by kernel_rfl) (by kernel_rfl) cNd (fun n=>aI.enc (gD n)) (fun n=>[BOk n.pre]) (fun _=>rfl) fun n h=>by
 obtain⟨hb,_⟩:=h
 unfold gD
 by_cases h0:0≤n.len
 ·by_cases h1:n.len≤256
  ·rw[decide_eq_true h0,decide_eq_true h1,Bool.true_and,Bool.true_and]
   exact dI.dO aj mixed Tryd.func31 (std n _ _) ⟨decide_eq_true h0,decide_eq_true h1,hb,h0,h1,rfl,rfl,trivial⟩ rfl rfl
  ·rw[decide_eq_true h0,decide_eq_false h1,Bool.true_and,Bool.false_and]
   exact dI.dO aj mixed Tryd.func31 (big n) ⟨decide_eq_true h0,decide_eq_false h1,trivial⟩ rfl rfl
 ·rw[decide_eq_false h0,Bool.false_and]
  exact dI.dO aj mixed Tryd.func31 (neg n) ⟨decide_eq_false h0,trivial⟩ rfl rfl
end rgood
namespace tholds
noncomputable abbrev fn:=Tryd.f32
noncomputable def Γ:Cons Tryd.prog GT:=[tgood.con,tcom.con]
theorem no (n:Nd) (x:B32):gK Γ tys fn 100 [cNd.enc n,ay.enc x] [(6,[.s (aI.enc false)])]=some (aI.enc false,[BOk n.pre,aI.enc (gD n)=aI.enc false]):=by kernel_rfl
theorem std (n:Nd) (x:B32) (c:Int) (r:Bool):gK Γ tys fn 100 [cNd.enc n,ay.enc x] [(6,[.s (aI.enc true)]),(11,[.s (.o (.a (aG .i64 c)))]),(14,[.b r])]=some (aI.enc r,[BOk n.pre,aI.enc (gD n)=aI.enc true,BOk n.pre,BOk x,(aQ .i64).enc (bN n.pre x:Nat)=(aQ .i64).enc c,decide (c≥n.len)=r]):=by kernel_rfl
noncomputable def con:Con Tryd.prog GT:=con2 32 fn Tryd.func32 (by kernel_rfl) (by kernel_rfl) cNd ay (fun n x=>aI.enc (holdsV n x)) (fun n x=>[BOk n.pre,BOk x]) (fun _ _=>rfl) fun n x h=>by
 obtain⟨hb,hx,_⟩:=h
 unfold holdsV
 cases hg:gD n with
 | false=>
  rw[Bool.false_and]
  exact dI.dO aj mixed Tryd.func32 (no n x) ⟨hb,by rw[hg],trivial⟩ rfl rfl
 | true=>
  rw[Bool.true_and]
  exact dI.dO aj mixed Tryd.func32 (std n x _ _) ⟨hb,by rw[hg],hb,hx,rfl,rfl,trivial⟩ rfl rfl
end tholds
namespace rholds
noncomputable abbrev fn:=Tryd.f28
noncomputable def Γ:Cons Tryd.prog GT:=[rgood.con,rcom.con]
theorem no (n:Nd) (x:B32):gK Γ tys fn 100 [cNd.enc n,ay.enc x] [(6,[.s (aI.enc false)])]=some (aI.enc false,[BOk n.pre,aI.enc (gD n)=aI.enc false]):=by kernel_rfl
theorem std (n:Nd) (x:B32) (c:Int) (r:Bool):gK Γ tys fn 100 [cNd.enc n,ay.enc x] [(6,[.s (aI.enc true)]),(13,[.s (.o (.a (aG .i64 c)))]),(16,[.b r])]=some (aI.enc r,[BOk n.pre,aI.enc (gD n)=aI.enc true,BOk n.pre,BOk x,0≤n.len,n.len≤256,(aQ .i64).enc ((min n.len.toNat (bN n.pre x):Nat):Int)=(aQ .i64).enc c,(c==n.len)=r]):=by kernel_rfl
noncomputable def con:Con Tryd.prog GT:=con2 28 fn Tryd.func28 (by kernel_rfl) (by kernel_rfl) cNd ay (fun n x=>aI.enc (holdsV n x)) (fun n x=>[BOk n.pre,BOk x]) (fun _ _=>rfl) fun n x h=>by
 obtain⟨hb,hx,_⟩:=h
 unfold holdsV
 cases hg:gD n with
 | false=>
  rw[Bool.false_and]
  exact dI.dO aj mixed Tryd.func28 (no n x) ⟨hb,by rw[hg],trivial⟩ rfl rfl
 | true=>
  have g:=(rE n).1 hg
  have h0:=g.lo
  have h1:=g.hi
  rw[Bool.true_and]
  refine dI.dO aj mixed Tryd.func28 (std n x _ _) ⟨hb,by rw[hg],hb,hx,h0,h1,rfl,?_,trivial⟩ rfl rfl
  rw[Bool.eq_iff_iff,beq_iff_eq,decide_eq_true_eq]
  omega
end rholds
noncomputable def uy:Con Tryd.prog GT:=Con.or jn.www.con jn.ww.con rfl jn.www.con_fr
def ndB (n:Nd):List Int:=[IntKind.u8.wrap (n.len.fdiv (2^8)),IntKind.u8.wrap n.len]++(n.pre.to++n.hash.to)
noncomputable def shaV (ys:List Int):B32:=S3.refB ys
namespace rleaf
noncomputable abbrev fn:=Tryd.f22
noncomputable def Γ:Cons Tryd.prog GT:=[uy,S3.r256_con]
theorem walk (l:Lf) (h:B32):gK Γ tys fn 100 [cLf.enc l] [(12,[.s (ay.enc h)])]=some (cNd.enc ⟨256,l.lab,h⟩,[1≤1,32≤64,32≤32,0<1,65≤140737488355328,0+65≤65,65≤65,65≤140737488354000,∀y∈((gH [[1],l.lab.to,l.val.to]).drop 0).take 65,S3.Byt y,ay.enc (S3.refB (((gH [[1],l.lab.to,l.val.to]).drop 0).take 65))=ay.enc h]):=by kernel_rfl
end rleaf
namespace rnb
noncomputable abbrev fn:=Tryd.f84
noncomputable def body:Code:=d9 fn
noncomputable def Γ:Cons Tryd.prog GT:=[uy]
def M (n:Nd):List (Option SV):=aD 17 0 [(2,.o (.a (.slg 3 66)))]
def mem (n:Nd):List Blk:=[⟨true,33,.lit n.row⟩,⟨true,5,.lit [aG .u8 (IntKind.u8.wrap (n.len.fdiv (2^8))),aG .u8 (IntKind.u8.wrap n.len)]⟩,⟨true,72,.lit [.slc 1 0 2 2,.slc 0 1 32 32,.slc 0 33 32 32]⟩,⟨true,5,.gro .u8 (gH [[IntKind.u8.wrap (n.len.fdiv (2^8)),IntKind.u8.wrap n.len],n.pre.to,n.hash.to]) 66 none⟩]
theorem ids (n:Nd):oI (M n) (mem n):=by delta oI;kernel_rfl
theorem s (n:Nd):oX Γ 300 body (aK fn [cNd.enc n]) [] [] .ret (M n) (mem n) [2≤2,32≤64,32≤32,0<2,66≤140737488355328]:=by delta oX;kernel_rfl
theorem zr (n:Nd) (g:Nat→SV):eRes tys (fill g 0 (M n)) (fun k=>(mem n)[k]?) fn.results.toList=some [.a (.slg 3 66)]:=by kernel_rfl
end rnb
namespace tnb
noncomputable abbrev fn:=Tryd.f78
noncomputable def body:Code:=d9 fn
noncomputable def R3:Code:=cs1 (bM 3 body)
noncomputable def Γ:Cons Tryd.prog GT:=[]
theorem dJ:bM 3 body= .seq R3 .ret:=by kernel_rfl
def M0:List (Option SV):=aD 22 0 [(1,.o (.a (.ptr 0 0))),(3,.o (.a (.sld 1 0 0 2 66)))]
def M1:List (Option SV):=aD 22 0 [(18,.o (.a (.sld 1 0 0 34 66))),(20,.o (.a (.slc 0 33 32 32)))]
def M2:List (Option SV):=aD 22 0 [(2,.o (.a (.sld 1 0 0 66 66)))]
def mem (n:Nd) (ys:List Int):List Blk:=[⟨true,33,.lit n.row⟩,⟨true,5,.run .u8 ys⟩]
theorem fO (n:Nd):oI (M0) (mem n ([IntKind.u8.wrap (n.len.fdiv (2^8)),IntKind.u8.wrap n.len]++List.replicate 64 0)):=by delta oI;kernel_rfl
theorem dh (n:Nd):oI (M1) (mem n ([IntKind.u8.wrap (n.len.fdiv (2^8)),IntKind.u8.wrap n.len]++(n.pre.to++List.replicate 32 0))):=by delta oI;kernel_rfl
theorem gG (n:Nd):oI (M2) (mem n (ndB n)):=by delta oI;kernel_rfl
theorem s0 (n:Nd):oX Γ 300 (eD 3 body) (aK fn [cNd.enc n]) [] [] .normal (M0) (mem n ([IntKind.u8.wrap (n.len.fdiv (2^8)),IntKind.u8.wrap n.len]++List.replicate 64 0)) [(0:Int)≤0,(0:Int)≤66,Room Tryd.prog 5 66,2≤2,2≤66,2≤66]:=by delta oX;kernel_rfl
theorem d (n:Nd) (g:Nat→SV):outXL (mem n ([IntKind.u8.wrap (n.len.fdiv (2^8)),IntKind.u8.wrap n.len]++(n.pre.to++List.replicate 32 0))).length (M1) (o8 Γ tys ((opsOf R3).toList.take 6) ⟨fill g 0 (M0),mem n ([IntKind.u8.wrap (n.len.fdiv (2^8)),IntKind.u8.wrap n.len]++List.replicate 64 0),[]⟩)=some (live (M1),(M1).length,mem n ([IntKind.u8.wrap (n.len.fdiv (2^8)),IntKind.u8.wrap n.len]++(n.pre.to++List.replicate 32 0)),[32≤64,34≤66,34≤66]):=by kernel_rfl
theorem t (n:Nd) (g:Nat→SV):oT Γ R3 6 2 (fill g 0 (M1)) (mem n ([IntKind.u8.wrap (n.len.fdiv (2^8)),IntKind.u8.wrap n.len]++(n.pre.to++List.replicate 32 0))) [] (M2) (mem n (ndB n)) [32≤32,66≤66,66≤66]:=by delta oT;kernel_rfl
theorem zr (n:Nd) (g:Nat→SV):eRes tys (fill g 0 (M2)) (fun k=>(mem n (ndB n))[k]?) fn.results.toList=some [.a (.sld 1 0 0 66 66)]:=by kernel_rfl
theorem cut:(l6 (opsOf R3).toList 6&&Nat.ble 6 (opsOf R3).size)=true:=by kernel_rfl
end tnb
theorem catL3 (a b c:List Int):gH [a,b,c]=a++(b++c):=by simp only[gH,List.append_nil]
namespace tnb
theorem run (n:Nd):aF Tryd.prog GT 0 body (aK fn [cNd.enc n]) [] (aH tys fn (bJ (.o (.a (.sld 0 0 0 66 66))) (.new 5 (.run .u8 (ndB n))))):=by
 refine Runs.dz aj mixed 3 (s0 n) ⟨by decide,by decide,oD 66 (by omega),by omega,by omega,by omega,trivial⟩ (fO n) rfl fun g=> ?_
 rw[dJ]
 refine Runs.seq (Runs.cutX (id:=3) (opsA:=opsOf R3) aj mixed 6 (d n g) ⟨by omega,by omega,by omega,trivial⟩ cut (dh n) rfl fun g=> ?_)
 refine aS.au aj 2 (t n g) ⟨by omega,by omega,by omega,trivial⟩ (gG n) rfl fun g=> ?_
 refine aS.nil ?_
 show aF _ _ _ _ _ _ _
 exact Runs.eB (Γ:=Γ) aj mixed (n:=1) (orc:=[]) (cs:=[]) (e:= .ret) rfl trivial (aH.ret (zr n g) ⟨1,rfl,rfl⟩)
def spec:List aU→Option (SV × dH × Cst)
 | [.val v]=>match cNd.dec v with
  | some n=>some (.o (.a (.sld 0 0 0 66 66)),.new 5 (.run .u8 (ndB n)),[])
  | none=>none
 | _=>none
noncomputable def con:Con Tryd.prog GT:=Con.parts aj 78 fn Tryd.func78 (by kernel_rfl) (c:=body) (by kernel_rfl) [.val] spec
 (fun ps r e p h hp=>by
  unfold spec at h
  split at h
  ·split at h<;>cases h
   exact⟨rfl,fun b hb=>by simp[bf,aU.blk] at hb⟩
  ·cases h)
 (fun ps r e p cap h hp hi=>by
  unfold spec at h
  split at h
  ·split at h<;>cases h
   rename_i k hk
   have:=cNd.ok _ _ hk
   subst this
   exact run k
  ·cases h)
end tnb
namespace rnb
theorem run (n:Nd):aF Tryd.prog GT 0 body (aK fn [cNd.enc n]) [] (aH tys fn (bJ (.o (.a (.slg 0 66))) (.new 5 (.gro .u8 (ndB n) 66 none)))):=by
 refine Runs.au aj mixed (s n) ⟨by omega,by omega,by omega,by omega,by omega,trivial⟩ (ids n) rfl fun g=> ?_
 refine aH.ret (zr n g) ⟨3,rfl,?_⟩
 show some _=some _
 rw[catL3]
 rfl
def spec:List aU→Option (SV × dH × Cst)
 | [.val v]=>match cNd.dec v with
  | some n=>some (.o (.a (.slg 0 66)),.new 5 (.gro .u8 (ndB n) 66 none),[])
  | none=>none
 | _=>none
noncomputable def con:Con Tryd.prog GT:=Con.parts aj 84 fn Tryd.func84 (by kernel_rfl) (c:=body) (by kernel_rfl) [.val] spec
 (fun ps r e p h hp=>by
  unfold spec at h
  split at h
  ·split at h<;>cases h
   exact⟨rfl,fun b hb=>by simp[bf,aU.blk] at hb⟩
  ·cases h)
 (fun ps r e p cap h hp hi=>by
  unfold spec at h
  split at h
  ·split at h<;>cases h
   rename_i k hk
   have:=cNd.ok _ _ hk
   subst this
   exact run k
  ·cases h)
end rnb
namespace tleaf
noncomputable abbrev fn:=Tryd.f21
noncomputable def body:Code:=d9 fn
noncomputable def R1:Code:=cs1 (bM 1 body)
noncomputable def D:Code:=bM 2 body
noncomputable def Γ:Cons Tryd.prog GT:=[S3.s256_con]
theorem dJ:bM 1 body= .seq R1 D:=by kernel_rfl
def M0:List (Option SV):=aD 16 0 [(1,.o (.a (.ptr 0 0))),(2,.o (.a (.ptr 1 0)))]
def M1:List (Option SV):=aD 16 0 [(1,.o (.a (.ptr 0 0))),(2,.o (.a (.ptr 1 0))),(7,.o (.a (.slg 3 33))),(9,.o (.a (.slc 0 32 32 32)))]
def M2:List (Option SV):=aD 16 0 [(1,.o (.a (.ptr 0 0))),(2,.o (.a (.ptr 1 0))),(3,.o (.a (.slg 2 65)))]
def MZ:List (Option SV):=aD 16 0 [(2,.o (.a (.ptr 1 0)))]
section
variable (l:Lf)
def aT (z:Nd):List Blk:=[⟨true,30,.lit l.row⟩,⟨true,33,.lit z.row⟩]
def mem1 (lo:Nat) (hi:Option Nat):List Blk:=[⟨true,30,.lit l.row⟩,⟨true,33,.lit zn.row⟩,⟨true,5,.lit [aG .u8 1]⟩,⟨true,5,.gro .u8 (1::l.lab.to) lo hi⟩]
def mem2:List Blk:=[⟨true,30,.lit l.row⟩,⟨true,33,.lit zn.row⟩,⟨true,5,.gro .u8 (1::(l.lab.to++l.val.to)) 65 none⟩]
theorem fO:oI (M0) (aT l zn):=by delta oI;kernel_rfl
theorem dh:oI (M1) (mem1 l 33 none):=by delta oI;kernel_rfl
theorem gG:oI (M2) (mem2 l):=by delta oI;kernel_rfl
theorem iM (z:Nd):oI (MZ) (aT l z):=by delta oI;kernel_rfl
theorem s0:oX Γ 300 (eD 1 body) (aK fn [cLf.enc l]) [] [] .normal (M0) (aT l zn) []:=by delta oX;kernel_rfl
theorem d (g:Nat→SV):outXL (mem1 l 33 none).length (M1) (o8 Γ tys ((opsOf R1).toList.take 6) ⟨fill g 0 (M0),aT l zn,[]⟩)=some (live (M1),(M1).length,mem1 l 33 none,[32≤64,0+1≤1,1<33,Room Tryd.prog 5 33]):=by kernel_rfl
theorem tA (g:Nat→SV):oU [0,1,3] Γ R1 6 2 (fill g 0 (M1)) (mem1 l 65 none) [] (M2) (mem2 l) [32≤32,33=33,65≤65]:=by delta oU;kernel_rfl
theorem tB (g:Nat→SV):oU [0,1,4] Γ R1 6 2 (fill g 0 (M1)) (mem1 l 33 (some 65)) [] (M2) (mem2 l) [32≤32,33=33,65≤65,Room Tryd.prog 5 65]:=by delta oU;kernel_rfl
theorem fin (h:B32) (g:Nat→SV):oX Γ 300 D (fill g 0 (M2)) (mem2 l) [(14,[.s (ay.enc h)])] .ret (MZ) (aT l ⟨256,l.lab,h⟩) [0+65≤65,65≤65,ay.enc (S3.finB (S3.dQ S3.S0 (((1::(l.lab.to++l.val.to)).drop 0).take 65)))=ay.enc h]:=by delta oX;kernel_rfl
theorem zr (z:Nd) (g:Nat→SV):eRes tys (fill g 0 (MZ)) (fun k=>(aT l z)[k]?) fn.results.toList=some [.g z.row]:=by kernel_rfl
end
theorem cut:(l6 (opsOf R1).toList 6&&Nat.ble 6 (opsOf R1).size)=true:=by kernel_rfl
end tleaf
namespace tinn
noncomputable abbrev fn:=Tryd.f80
noncomputable def body:Code:=d9 fn
noncomputable def R1:Code:=cs1 (bM 1 body)
noncomputable def Γ:Cons Tryd.prog GT:=[tnb.con]
theorem dJ:bM 1 body= .seq R1 .ret:=by kernel_rfl
def M0 (a:Nd):List (Option SV):=aD 12 0 [(2,.o (.a (.ptr 0 0))),(3,.o (.a (.ptr 1 0)))]
def M1 (a:Nd):List (Option SV):=aD 12 0 [(8,.o (.a (.slg 4 67))),(10,.o (.a (.sld 5 0 0 66 66)))]
def M2 (a:Nd):List (Option SV):=aD 12 0 [(4,.o (.a (.slg 0 133)))]
section
variable (a b:Nd)
def aT:List Blk:=[⟨true,33,.lit a.row⟩,⟨true,33,.lit b.row⟩]
def mem1 (lo:Nat) (hi:Option Nat):List Blk:=[⟨true,33,.lit a.row⟩,⟨true,33,.lit b.row⟩,⟨true,5,.lit [aG .u8 2]⟩,⟨true,5,.run .u8 (ndB a)⟩,⟨true,5,.gro .u8 (2::ndB a) lo hi⟩,⟨true,5,.run .u8 (ndB b)⟩]
def mem2:List Blk:=[⟨true,5,.gro .u8 (2::(ndB a++ndB b)) 133 none⟩]
theorem fO:oI (M0 a) (aT a b):=by delta oI;kernel_rfl
theorem dh:oI (M1 a) (mem1 a b 67 none):=by delta oI;kernel_rfl
theorem gG:oI (M2 a) (mem2 a b):=by delta oI;kernel_rfl
theorem s0:oX Γ 300 (eD 1 body) (aK fn [cNd.enc a,cNd.enc b]) [] [] .normal (M0 a) (aT a b) []:=by delta oX;kernel_rfl
theorem d (g:Nat→SV):outXL (mem1 a b 67 none).length (M1 a) (o8 Γ tys ((opsOf R1).toList.take 6) ⟨fill g 0 (M0 a),aT a b,[]⟩)=some (live (M1 a),(M1 a).length,mem1 a b 67 none,[0+66≤66,0+1≤1,1<67,Room Tryd.prog 5 67]):=by kernel_rfl
theorem tA (g:Nat→SV):oU [4] Γ R1 6 2 (fill g 0 (M1 a)) (mem1 a b 133 none) [] (M2 a) (mem2 a b) [0+66≤66,67=67,133≤133]:=by delta oU;kernel_rfl
theorem tB (g:Nat→SV):oU [6] Γ R1 6 2 (fill g 0 (M1 a)) (mem1 a b 67 (some 133)) [] (M2 a) (mem2 a b) [0+66≤66,67=67,133≤133,Room Tryd.prog 5 133]:=by delta oU;kernel_rfl
theorem zr (g:Nat→SV):eRes tys (fill g 0 (M2 a)) (fun k=>(mem2 a b)[k]?) fn.results.toList=some [.a (.slg 0 133)]:=by kernel_rfl
end
theorem cut:(l6 (opsOf R1).toList 6&&Nat.ble 6 (opsOf R1).size)=true:=by kernel_rfl
end tinn
namespace ttop
noncomputable abbrev fn:=Tryd.f59
noncomputable def body:Code:=d9 fn
noncomputable def Γ:Cons Tryd.prog GT:=[tnb.con]
def M (a:Nd):List (Option SV):=aD 7 0 [(2,.o (.a (.slg 0 67)))]
def mem (a:Nd):List Blk:=[⟨true,5,.gro .u8 (3::ndB a) 67 none⟩]
theorem ids (a:Nd):oI (M a) (mem a):=by delta oI;kernel_rfl
theorem s (a:Nd):oN [3] Γ 100 body (aK fn [cNd.enc a]) [] [] .ret (M a) (mem a) [0+66≤66,0+1≤1,1<67,Room Tryd.prog 5 67]:=by delta oN;kernel_rfl
theorem zr (a:Nd) (g:Nat→SV):eRes tys (fill g 0 (M a)) (fun k=>(mem a)[k]?) fn.results.toList=some [.a (.slg 0 67)]:=by kernel_rfl
end ttop
namespace rinn
noncomputable abbrev fn:=Tryd.f83
noncomputable def body:Code:=d9 fn
noncomputable def Γ:Cons Tryd.prog GT:=[rnb.con,uy]
def M (a b:Nd):List (Option SV):=aD 12 0 [(4,.o (.a (.slg 0 133)))]
def mem (a b:Nd):List Blk:=[⟨true,5,.gro .u8 (gH [[2],ndB a,ndB b]) 133 none⟩]
theorem ids (a b:Nd):oI (M a b) (mem a b):=by delta oI;kernel_rfl
theorem s (a b:Nd):oN [6] Γ 100 body (aK fn [cNd.enc a,cNd.enc b]) [] [] .ret (M a b) (mem a b) [1≤1,66≤66,66≤66,0<1,133≤140737488355328]:=by delta oN;kernel_rfl
theorem zr (a b:Nd) (g:Nat→SV):eRes tys (fill g 0 (M a b)) (fun k=>(mem a b)[k]?) fn.results.toList=some [.a (.slg 0 133)]:=by kernel_rfl
end rinn
namespace rtop
noncomputable abbrev fn:=Tryd.f66
noncomputable def body:Code:=d9 fn
noncomputable def Γ:Cons Tryd.prog GT:=[rnb.con,uy]
def M (a:Nd):List (Option SV):=aD 8 0 [(2,.o (.a (.slg 0 67)))]
def mem (a:Nd):List Blk:=[⟨true,5,.gro .u8 (gH [[3],ndB a]) 67 none⟩]
theorem ids (a:Nd):oI (M a) (mem a):=by delta oI;kernel_rfl
theorem s (a:Nd):oN [4] Γ 100 body (aK fn [cNd.enc a]) [] [] .ret (M a) (mem a) [1≤1,66≤66,0<1,67≤140737488355328]:=by delta oN;kernel_rfl
theorem zr (a:Nd) (g:Nat→SV):eRes tys (fill g 0 (M a)) (fun k=>(mem a)[k]?) fn.results.toList=some [.a (.slg 0 67)]:=by kernel_rfl
end rtop
noncomputable def bP (l:Lf):Nd:=⟨256,l.lab,shaV (1::(l.lab.to++l.val.to))⟩
def innB (a b:Nd):List Int:=2::(ndB a++ndB b)
def rtB (a:Nd):List Int:=3::ndB a
def LOk (l:Lf):Prop:=BOk l.lab∧BOk l.val
theorem to_byt {b:B32} (h:BOk b):∀y∈b.to,S3.Byt y:=fun y hy=>by
 obtain⟨i,hi,rfl⟩:=List.mem_iff_getElem.1 hy
 have hi':i<32:=hi
 have e:=pq b i hi'
 rw[List.getD_eq_getElem?_getD,List.getElem?_eq_getElem hi] at e
 have e:b.to[i]=b.at i:=e
 exact e ▸ h i
theorem dt {ys:List Int} {n:Nat} (h:ys.length=n):(ys.drop 0).take n=ys:=by rw[List.drop_zero,List.take_of_length_le (by omega)]
theorem sha_of {ys:List Int} (h:ys.length≤140737488354000):S3.finB (S3.dQ S3.S0 ys)=shaV ys:=S3.ref_eq ys h
theorem sha_ok (ys:List Int):BOk (shaV ys):=by
 have hb:∀w:Int,0≤IntKind.u8.wrap w∧IntKind.u8.wrap w<256:=fun w=>by
  rw[IntKind.wrap_u8]
  omega
 intro i
 unfold shaV S3.refB S3.outR B32.at
 split<;>exact hb _
theorem leaf_byt {l:Lf} (h:LOk l):∀y∈(1::(l.lab.to++l.val.to):List Int),S3.Byt y:=fun y hy=>by
 rcases List.mem_cons.1 hy with rfl | hy
 ·exact⟨by omega,by omega⟩
 ·rcases List.mem_append.1 hy with hy | hy
  ·exact to_byt h.1 y hy
  ·exact to_byt h.2 y hy
theorem ndB_byt {n:Nd} (h:NOk n):∀y∈ndB n,S3.Byt y:=fun y hy=>by
 have hb:∀w:Int,S3.Byt (IntKind.u8.wrap w):=fun w=>by
  rw[IntKind.wrap_u8]
  exact⟨by omega,by omega⟩
 unfold ndB at hy
 rcases List.mem_append.1 hy with hy | hy
 ·simp only[List.mem_cons,List.not_mem_nil,or_false] at hy
  rcases hy with rfl | rfl<;>exact hb _
 ·rcases List.mem_append.1 hy with hy | hy
  ·exact to_byt h.1 y hy
  ·exact to_byt h.2 y hy
theorem innB_byt {a b:Nd} (ha:NOk a) (hb:NOk b):∀y∈innB a b,S3.Byt y:=fun y hy=>by
 rcases List.mem_cons.1 hy with rfl | hy
 ·exact⟨by omega,by omega⟩
 ·rcases List.mem_append.1 hy with hy | hy
  ·exact ndB_byt ha y hy
  ·exact ndB_byt hb y hy
theorem rtB_byt {a:Nd} (ha:NOk a):∀y∈rtB a,S3.Byt y:=fun y hy=>by
 rcases List.mem_cons.1 hy with rfl | hy
 ·exact⟨by omega,by omega⟩
 ·exact ndB_byt ha y hy
namespace rleaf
theorem catE (l:Lf):((gH [[1],l.lab.to,l.val.to]).drop 0).take 65=1::(l.lab.to++l.val.to):=by
 rw[catL3];rfl
noncomputable def con:Con Tryd.prog GT:=con1 22 fn Tryd.func22 (by kernel_rfl) (by kernel_rfl) cLf (fun l=>cNd.enc (bP l)) (fun l=>[LOk l]) (fun _=>rfl) fun l h=>
 dI.dO aj mixed Tryd.func22 (walk l (shaV (1::(l.lab.to++l.val.to)))) ⟨by omega,by omega,by omega,by omega,by omega,by omega,by omega,by omega,by rw[catE];exact leaf_byt h.1,by rw[catE];rfl,trivial⟩ rfl rfl
end rleaf
namespace tleaf
theorem run (l:Lf):Runs Tryd.prog GT body (aK fn [cLf.enc l]) [] (Eng.Ends tys fn (cNd.enc (bP l))):=by
 have fin':∀g,aF Tryd.prog GT 0 D (fill g 0 (M2)) (mem2 l) (Eng.Ends tys fn (cNd.enc (bP l))):=fun g=>by
  refine Runs.au aj mixed (fin l (shaV (1::(l.lab.to++l.val.to))) g) ⟨by omega,by omega,?_,trivial⟩ (iM l _) rfl fun g=>Ends.ret (zr l _ g) rfl
  rw[dt (n:=65) rfl,sha_of (by show 65≤_;omega)]
 refine Runs.dz aj mixed 1 (s0 l) trivial (fO l) rfl fun g=> ?_
 rw[dJ]
 refine Runs.seq (Runs.cutX (id:=1) (opsA:=opsOf R1) aj mixed 6 (d l g) ⟨by omega,by omega,by omega,oD 33 (by omega),trivial⟩ cut (dh l) rfl fun g=> ?_)
 refine aS.room 3 65 (own:=true) (ty:=5) (kd:= .u8) (xs:=1::l.lab.to) (lo:=33) rfl ?_ ?_
 ·refine aS.aP aj 2 _ (tA l g) ⟨by omega,rfl,by omega,trivial⟩ (gG l) rfl fun g=>aS.nil ?_
  show aF _ _ _ _ _ _ _
  exact fin' g
 ·refine aS.aP aj 2 _ (tB l g) ⟨by omega,rfl,by omega,oD 65 (by omega),trivial⟩ (gG l) rfl fun g=>aS.nil ?_
  show aF _ _ _ _ _ _ _
  exact fin' g
noncomputable def con:Con Tryd.prog GT:=con1 21 fn Tryd.func21 (by kernel_rfl) (by kernel_rfl) cLf (fun l=>cNd.enc (bP l)) (fun l=>[LOk l]) (fun _=>rfl) fun l h=>
 dI.qQ aj Tryd.func21 (c:=body) (by kernel_rfl) (run l) rfl rfl
end tleaf
namespace tinn
theorem run (a b:Nd):aF Tryd.prog GT 0 body (aK fn [cNd.enc a,cNd.enc b]) [] (aH tys fn (bJ (.o (.a (.slg 0 133))) (.new 5 (.gro .u8 (innB a b) 133 none)))):=by
 refine Runs.dz aj mixed 1 (s0 a b) trivial (fO a b) rfl fun g=> ?_
 rw[dJ]
 have fin':∀g,aF Tryd.prog GT 0 .ret (fill g 0 (M2 a)) (mem2 a b) (aH tys fn (bJ (.o (.a (.slg 0 133))) (.new 5 (.gro .u8 (innB a b) 133 none)))):=fun g=>
  Runs.eB (Γ:=Γ) aj mixed (n:=1) (orc:=[]) (cs:=[]) (e:= .ret) rfl trivial (aH.ret (zr a b g) ⟨0,rfl,rfl⟩)
 refine Runs.seq (Runs.cutX (id:=1) (opsA:=opsOf R1) aj mixed 6 (d a b g) ⟨by omega,by omega,by omega,oD 67 (by omega),trivial⟩ cut (dh a b) rfl fun g=> ?_)
 refine aS.room 4 133 (own:=true) (ty:=5) (kd:= .u8) (xs:=2::ndB a) (lo:=67) rfl ?_ ?_
 ·refine aS.aP aj 2 _ (tA a b g) ⟨by omega,rfl,by omega,trivial⟩ (gG a b) rfl fun g=>aS.nil ?_
  show aF _ _ _ _ _ _ _
  exact fin' g
 ·refine aS.aP aj 2 _ (tB a b g) ⟨by omega,rfl,by omega,oD 133 (by omega),trivial⟩ (gG a b) rfl fun g=>aS.nil ?_
  show aF _ _ _ _ _ _ _
  exact fin' g
def spec:List aU→Option (SV × dH × Cst)
 | [.val v,.val u]=>match cNd.dec v,cNd.dec u with
  | some a,some b=>some (.o (.a (.slg 0 133)),.new 5 (.gro .u8 (innB a b) 133 none),[])
  | _,_=>none
 | _=>none
noncomputable def con:Con Tryd.prog GT:=Con.parts aj 80 fn Tryd.func80 (by kernel_rfl) (c:=body) (by kernel_rfl) [.val,.val] spec
 (fun ps r e p h hp=>by
  unfold spec at h
  split at h
  ·split at h<;>cases h
   exact⟨rfl,fun b hb=>by simp[bf,aU.blk] at hb⟩
  ·cases h)
 (fun ps r e p cap h hp hi=>by
  unfold spec at h
  split at h
  ·split at h<;>cases h
   rename_i a b h1 h2
   have:=cNd.ok _ _ h1
   subst this
   have:=cNd.ok _ _ h2
   subst this
   exact run a b
  ·cases h)
end tinn
namespace rinn
theorem run (a b:Nd):aF Tryd.prog GT 0 body (aK fn [cNd.enc a,cNd.enc b]) [] (aH tys fn (bJ (.o (.a (.slg 0 133))) (.new 5 (.gro .u8 (innB a b) 133 none)))):=by
 refine Runs.aP aj mixed _ (s a b) ⟨by omega,by omega,by omega,by omega,by omega,trivial⟩ (ids a b) rfl fun g=>aH.ret (zr a b g) ⟨0,rfl,?_⟩
 show some _=some _
 rw[catL3]
 rfl
def spec:List aU→Option (SV × dH × Cst)
 | [.val v,.val u]=>match cNd.dec v,cNd.dec u with
  | some a,some b=>some (.o (.a (.slg 0 133)),.new 5 (.gro .u8 (innB a b) 133 none),[])
  | _,_=>none
 | _=>none
noncomputable def con:Con Tryd.prog GT:=Con.parts aj 83 fn Tryd.func83 (by kernel_rfl) (c:=body) (by kernel_rfl) [.val,.val] spec
 (fun ps r e p h hp=>by
  unfold spec at h
  split at h
  ·split at h<;>cases h
   exact⟨rfl,fun b hb=>by simp[bf,aU.blk] at hb⟩
  ·cases h)
 (fun ps r e p cap h hp hi=>by
  unfold spec at h
  split at h
  ·split at h<;>cases h
   rename_i a b h1 h2
   have:=cNd.ok _ _ h1
   subst this
   have:=cNd.ok _ _ h2
   subst this
   exact run a b
  ·cases h)
end rinn
namespace ttop
theorem run (a:Nd):aF Tryd.prog GT 0 body (aK fn [cNd.enc a]) [] (aH tys fn (bJ (.o (.a (.slg 0 67))) (.new 5 (.gro .u8 (rtB a) 67 none)))):=by
 exact Runs.aP aj mixed _ (s a) ⟨by omega,by omega,by omega,oD 67 (by omega),trivial⟩ (ids a) rfl fun g=>aH.ret (zr a g) ⟨0,rfl,rfl⟩
def spec:List aU→Option (SV × dH × Cst)
 | [.val v]=>match cNd.dec v with
  | some a=>some (.o (.a (.slg 0 67)),.new 5 (.gro .u8 (rtB a) 67 none),[])
  | none=>none
 | _=>none
noncomputable def con:Con Tryd.prog GT:=Con.parts aj 59 fn Tryd.func59 (by kernel_rfl) (c:=body) (by kernel_rfl) [.val] spec
 (fun ps r e p h hp=>by
  unfold spec at h
  split at h
  ·split at h<;>cases h
   exact⟨rfl,fun b hb=>by simp[bf,aU.blk] at hb⟩
  ·cases h)
 (fun ps r e p cap h hp hi=>by
  unfold spec at h
  split at h
  ·split at h<;>cases h
   rename_i a h1
   have:=cNd.ok _ _ h1
   subst this
   exact run a
  ·cases h)
end ttop
namespace rtop
theorem run (a:Nd):aF Tryd.prog GT 0 body (aK fn [cNd.enc a]) [] (aH tys fn (bJ (.o (.a (.slg 0 67))) (.new 5 (.gro .u8 (rtB a) 67 none)))):=by
 refine Runs.aP aj mixed _ (s a) ⟨by omega,by omega,by omega,by omega,trivial⟩ (ids a) rfl fun g=>aH.ret (zr a g) ⟨0,rfl,?_⟩
 show some _=some _
 rw[show gH [[3],ndB a]=rtB a by simp only[gH,List.append_nil];rfl]
def spec:List aU→Option (SV × dH × Cst)
 | [.val v]=>match cNd.dec v with
  | some a=>some (.o (.a (.slg 0 67)),.new 5 (.gro .u8 (rtB a) 67 none),[])
  | none=>none
 | _=>none
noncomputable def con:Con Tryd.prog GT:=Con.parts aj 66 fn Tryd.func66 (by kernel_rfl) (c:=body) (by kernel_rfl) [.val] spec
 (fun ps r e p h hp=>by
  unfold spec at h
  split at h
  ·split at h<;>cases h
   exact⟨rfl,fun b hb=>by simp[bf,aU.blk] at hb⟩
  ·cases h)
 (fun ps r e p cap h hp hi=>by
  unfold spec at h
  split at h
  ·split at h<;>cases h
   rename_i a h1
   have:=cNd.ok _ _ h1
   subst this
   exact run a
  ·cases h)
end rtop
end Go.Proofs.YtdccehmekkcheaaDoor

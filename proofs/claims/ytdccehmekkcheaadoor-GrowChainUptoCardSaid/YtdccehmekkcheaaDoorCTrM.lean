/- Trees over rows of bits, in plain terms: common bits, the order, nodes that are apart, the node over nodes, what stays around labels. -/
import Derived.Test.YtdccehmekkcheaaDoorCCod2
set_option linter.unusedSimpArgs false
set_option linter.unusedVariables false
namespace Go.Proofs.YtdccehmekkcheaaDoor
open Go Go.Eng
def Byte (x:Int):Prop:=0≤x∧x<256
def BOk (b:B32):Prop:=∀i,Byte (b.at i)
def bt (x:Int) (k:Nat):Bool:=x/2^k%2==1
def bQ (b:B32) (i:Nat):Bool:=bt (b.at (i/8)) (7-i%8)
def lcpN (f g:Nat→Bool):Nat→Nat→Nat
 | 0,i=>i
 | k+1,i=>bif f i==g i then lcpN f g k (i+1) else i
def bN (a b:B32):Nat:=lcpN (bQ a) (bQ b) 256 0
theorem lcpN_le (f g:Nat→Bool):∀k i,i≤lcpN f g k i∧lcpN f g k i≤i+k
 | 0,i=>⟨Nat.le_refl _,Nat.le_refl _⟩
 | k+1,i=>by
  have h:=lcpN_le f g k (i+1)
  rw[lcpN]
  cases f i==g i
  ·exact⟨Nat.le_refl _,by simp⟩
  ·simp only[cond_true];omega
theorem lcpN_eq (f g:Nat→Bool):∀k i j,i≤j→j<lcpN f g k i→f j=g j
 | 0,i,j,h1,h2=>by rw[lcpN] at h2;omega
 | k+1,i,j,h1,h2=>by
  rw[lcpN] at h2
  cases hb:f i==g i with
  | false=>rw[hb] at h2;simp at h2;omega
  | true=>
   rw[hb] at h2
   simp only[cond_true] at h2
   rcases Nat.lt_or_ge i j with h | h
   ·exact lcpN_eq f g k (i+1) j h h2
   ·obtain rfl:i=j:=by omega
    simpa using hb
theorem lcpN_ne (f g:Nat→Bool):∀k i,lcpN f g k i<i+k→f (lcpN f g k i)≠g (lcpN f g k i)
 | 0,i,h=>by rw[lcpN] at h;omega
 | k+1,i,h=>by
  rw[lcpN] at h ⊢
  cases hb:f i==g i with
  | false=>simpa using hb
  | true=>
   rw[hb] at h
   simp only[cond_true] at h ⊢
   exact lcpN_ne f g k (i+1) (by omega)
theorem oQ (a b:B32):bN a b≤256:=by have:=(lcpN_le (bQ a) (bQ b) 256 0).2;unfold bN;omega
theorem fq {a b:B32} {j:Nat} (h:j<bN a b):bQ a j=bQ b j:=lcpN_eq _ _ 256 0 j (Nat.zero_le _) h
theorem com_ne {a b:B32} (h:bN a b<256):bQ a (bN a b)≠bQ b (bN a b):=lcpN_ne _ _ 256 0 (by unfold bN at h;omega)
theorem oJ {a b:B32} {n:Nat} (hn:n≤256) (h:∀j,j<n→bQ a j=bQ b j):n≤bN a b:=by
 rcases Nat.lt_or_ge (bN a b) n with h1 | h1
 ·exact absurd (h _ h1) (com_ne (by omega))
 ·exact h1
theorem com_is {a b:B32} {n:Nat} (hn:n<256) (h:∀j,j<n→bQ a j=bQ b j) (hd:bQ a n≠bQ b n):bN a b=n:=by
 have h1:=oJ (by omega) h
 rcases Nat.lt_or_ge n (bN a b) with h2 | h2
 ·exact absurd (fq h2) hd
 ·omega
theorem uM (a b:B32):bN a b=bN b a:=by
 apply Nat.le_antisymm
 ·exact oJ (oQ _ _) fun j h=>(fq h).symm
 ·exact oJ (oQ _ _) fun j h=>(fq h).symm
theorem nY (a:B32):bN a a=256:=Nat.le_antisymm (oQ _ _) (oJ (Nat.le_refl _) fun _ _=>rfl)
theorem byte_sum {x:Int} (hx:Byte x):x=128*(x/128%2)+64*(x/64%2)+32*(x/32%2)+16*(x/16%2)+8*(x/8%2)+4*(x/4%2)+2*(x/2%2)+x%2:=by
 obtain⟨x0,x1⟩:=hx
 have a1:x=2*(x/2)+x%2:=by omega
 have a2:x/2=2*(x/4)+x/2%2:=by omega
 have a3:x/4=2*(x/8)+x/4%2:=by omega
 have a4:x/8=2*(x/16)+x/8%2:=by omega
 have a5:x/16=2*(x/32)+x/16%2:=by omega
 have a6:x/32=2*(x/64)+x/32%2:=by omega
 have a7:x/64=2*(x/128)+x/64%2:=by omega
 have a8:x/128=x/128%2:=by omega
 generalize x/2=q1 at*;generalize x/4=q2 at*;generalize x/8=q3 at*;generalize x/16=q4 at*;generalize x/32=q5 at*;generalize x/64=q6 at*;generalize x/128=q7 at*
 generalize x%2=r0 at*;generalize q1%2=r1 at*;generalize q2%2=r2 at*;generalize q3%2=r3 at*;generalize q4%2=r4 at*;generalize q5%2=r5 at*;generalize q6%2=r6 at*;generalize q7%2=r7 at*
 omega
theorem oZ {x y:Int} {k:Nat} (h:bt x k=bt y k):x/2^k%2=y/2^k%2:=by
 unfold bt at h
 rw[Bool.eq_iff_iff] at h
 simp only[beq_iff_eq] at h
 have h1:=Int.emod_two_eq (x/2^k)
 have h2:=Int.emod_two_eq (y/2^k)
 omega
theorem byte_ext {x y:Int} (hx:Byte x) (hy:Byte y) (h:∀k,k<8→bt x k=bt y k):x=y:=by
 have g0:=oZ (h 0 (by omega));have g1:=oZ (h 1 (by omega));have g2:=oZ (h 2 (by omega));have g3:=oZ (h 3 (by omega))
 have g4:=oZ (h 4 (by omega));have g5:=oZ (h 5 (by omega));have g6:=oZ (h 6 (by omega));have g7:=oZ (h 7 (by omega))
 simp only[Int.reducePow,Int.ediv_one] at g0 g1 g2 g3 g4 g5 g6 g7
 rw[byte_sum hx,byte_sum hy,g0,g1,g2,g3,g4,g5,g6,g7]
theorem pq (b:B32):∀(i:Nat),i<32→b.to.getD i 0=b.at i
 | 0,_ | 1,_ | 2,_ | 3,_ | 4,_ | 5,_ | 6,_ | 7,_ | 8,_ | 9,_ | 10,_ | 11,_ | 12,_ | 13,_ | 14,_ | 15,_
 | 16,_ | 17,_ | 18,_ | 19,_ | 20,_ | 21,_ | 22,_ | 23,_ | 24,_ | 25,_ | 26,_ | 27,_ | 28,_ | 29,_ | 30,_ | 31,_=>rfl
 | n+32,h=>absurd h (by omega)
theorem ou {a b:B32} (h:∀i,i<32→a.at i=b.at i):a=b:=by
 have h0:=h 0 (by omega);have h1:=h 1 (by omega);have h2:=h 2 (by omega);have h3:=h 3 (by omega);have h4:=h 4 (by omega);have h5:=h 5 (by omega);have h6:=h 6 (by omega);have h7:=h 7 (by omega)
 have h8:=h 8 (by omega);have h9:=h 9 (by omega);have h10:=h 10 (by omega);have h11:=h 11 (by omega);have h12:=h 12 (by omega);have h13:=h 13 (by omega);have h14:=h 14 (by omega);have h15:=h 15 (by omega)
 have h16:=h 16 (by omega);have h17:=h 17 (by omega);have h18:=h 18 (by omega);have h19:=h 19 (by omega);have h20:=h 20 (by omega);have h21:=h 21 (by omega);have h22:=h 22 (by omega);have h23:=h 23 (by omega)
 have h24:=h 24 (by omega);have h25:=h 25 (by omega);have h26:=h 26 (by omega);have h27:=h 27 (by omega);have h28:=h 28 (by omega);have h29:=h 29 (by omega);have h30:=h 30 (by omega);have h31:=h 31 (by omega)
 cases a;cases b
 simp only[B32.at] at*
 simp only[*]
theorem jo (f:Nat→Int):∀{i:Nat},i<32→(B32.mk' f).at i=f i
 | 0,_ | 1,_ | 2,_ | 3,_ | 4,_ | 5,_ | 6,_ | 7,_ | 8,_ | 9,_ | 10,_ | 11,_ | 12,_ | 13,_ | 14,_ | 15,_
 | 16,_ | 17,_ | 18,_ | 19,_ | 20,_ | 21,_ | 22,_ | 23,_ | 24,_ | 25,_ | 26,_ | 27,_ | 28,_ | 29,_ | 30,_ | 31,_=>rfl
 | n+32,h=>absurd h (by omega)
theorem at_big (b:B32):∀{i:Nat},31≤i→b.at i=b.at 31
 | 31,_=>rfl
 | n+32,_=>rfl
theorem mk_ok {f:Nat→Int} (h:∀i,i<32→Byte (f i)):BOk (B32.mk' f):=fun i=>by
 rcases Nat.lt_or_ge i 32 with hi | hi
 ·rw[jo f hi];exact h i hi
 ·rw[at_big _ (by omega),jo f (by omega)];exact h 31 (by omega)
theorem uN {a b:B32} (ha:BOk a) (hb:BOk b) (h:∀i,i<256→bQ a i=bQ b i):a=b:=by
 refine ou fun i hi=>byte_ext (ha i) (hb i) fun k hk=> ?_
 have:=h (8*i+(7-k)) (by omega)
 unfold bQ at this
 rw[show(8*i+(7-k))/8=i by omega,show 7-(8*i+(7-k))%8=k by omega] at this
 exact this
theorem vG {a b:B32} (ha:BOk a) (hb:BOk b) (h:bN a b=256):a=b:=uN ha hb fun i hi=>fq (by omega)
theorem com_lt {a b:B32} (ha:BOk a) (hb:BOk b) (h:a≠b):bN a b<256:=by
 have:=oQ a b
 rcases Nat.lt_or_ge (bN a b) 256 with h1 | h1
 ·exact h1
 ·exact absurd (vG ha hb (by omega)) h
def topB (x:Int) (r:Nat):Int:=bif Nat.ble 8 r then x else x/2^(8-r)*2^(8-r)
def eT (b:B32) (n:Nat):B32:=B32.mk' fun j=>topB (b.at j) (n-8*j)
theorem topB_byte {x:Int} (hx:Byte x) (r:Nat):Byte (topB x r):=by
 unfold topB
 rcases Nat.lt_or_ge r 8 with h | h
 ·have:Nat.ble 8 r=false:=by rw[←Bool.not_eq_true,Nat.ble_eq];omega
  rw[this,cond_false]
  obtain⟨x0,x1⟩:=hx
  obtain h | h | h | h | h | h | h | h:r=0∨r=1∨r=2∨r=3∨r=4∨r=5∨r=6∨r=7:=by omega
  all_goals subst h;simp only[Nat.reduceSub,Int.reducePow,Byte];omega
 ·have:Nat.ble 8 r=true:=by rw[Nat.ble_eq];exact h
  rw[this,cond_true];exact hx
theorem bt_top {x:Int} (hx:Byte x) (r:Nat) {k:Nat} (hk:k<8):bt (topB x r) (7-k)=(decide (k<r)&&bt x (7-k)):=by
 unfold topB
 rcases Nat.lt_or_ge r 8 with h | h
 ·have:Nat.ble 8 r=false:=by rw[←Bool.not_eq_true,Nat.ble_eq];omega
  rw[this,cond_false]
  obtain⟨x0,x1⟩:=hx
  rw[Bool.eq_iff_iff]
  unfold bt
  obtain h | h | h | h | h | h | h | h:r=0∨r=1∨r=2∨r=3∨r=4∨r=5∨r=6∨r=7:=by omega
  all_goals
   subst h
   obtain h | h | h | h | h | h | h | h:k=0∨k=1∨k=2∨k=3∨k=4∨k=5∨k=6∨k=7:=by omega
   all_goals subst h;simp only[Nat.reduceSub,Int.reducePow,Bool.and_eq_true,decide_eq_true_eq,beq_iff_eq,Nat.reduceLT,true_and,false_and,iff_false];omega
 ·have:Nat.ble 8 r=true:=by rw[Nat.ble_eq];exact h
  rw[this,cond_true,decide_eq_true (by omega),Bool.true_and]
theorem qA {b:B32} (h:BOk b) (n:Nat):BOk (eT b n):=mk_ok fun i _=>topB_byte (h i) _
theorem lV {b:B32} (h:BOk b) (n:Nat) {i:Nat} (hi:i<256):bQ (eT b n) i=(decide (i<n)&&bQ b i):=by
 unfold bQ eT
 rw[jo _ (by omega),bt_top (h _) _ (by omega)]
 congr 1
 rw[Bool.eq_iff_iff]
 simp only[decide_eq_true_eq]
 omega
theorem fst_all {b:B32} (h:BOk b) {n:Nat} (hn:256≤n):eT b n=b:=uN (qA h n) h fun i hi=>by rw[lV h n hi,decide_eq_true (by omega),Bool.true_and]
theorem fst_eq {a b:B32} (ha:BOk a) (hb:BOk b) {n:Nat} (h:n≤bN a b):eT a n=eT b n:=uN (qA ha n) (qA hb n) fun i hi=>by
 rw[lV ha n hi,lV hb n hi]
 rcases Nat.lt_or_ge i n with h1 | h1
 ·rw[fq (show i<bN a b by omega)]
 ·rw[decide_eq_false (by omega),Bool.false_and,Bool.false_and]
theorem fst_fst {b:B32} (hb:BOk b) (n m:Nat):eT (eT b n) m=eT b (min n m):=uN (qA (qA hb n) m) (qA hb _) fun i hi=>by
 rw[lV (qA hb n) m hi,lV hb n hi,lV hb _ hi,←Bool.and_assoc]
 congr 1
 rw[Bool.eq_iff_iff]
 simp only[Bool.and_eq_true,decide_eq_true_eq]
 omega
theorem com_fst {b:B32} (hb:BOk b) (n:Nat) (x:B32):n≤256→(n≤bN (eT b n) x↔n≤bN b x):=fun hn=>by
 constructor<;>intro h<;>refine oJ hn fun j hj=> ?_
 ·rw[←fq (a:=eT b n) (show j<bN (eT b n) x by omega),lV hb n (by omega),decide_eq_true hj,Bool.true_and]
 ·rw[lV hb n (by omega),decide_eq_true hj,Bool.true_and,fq (show j<bN b x by omega)]
def ltV (a b:B32):Bool:=bif Nat.blt (bN a b) 256 then bQ b (bN a b) else false
theorem blt_t {a b:Nat} (h:a<b):Nat.blt a b=true:=by unfold Nat.blt;rw[Nat.ble_eq];exact h
theorem blt_f {a b:Nat} (h:b≤a):Nat.blt a b=false:=by rw[←Bool.not_eq_true];unfold Nat.blt;rw[Nat.ble_eq];omega
theorem lt_com {a b:B32} (h:ltV a b=true):bN a b<256∧bQ a (bN a b)=false∧bQ b (bN a b)=true:=by
 unfold ltV at h
 rcases Nat.lt_or_ge (bN a b) 256 with h1 | h1
 ·rw[blt_t h1,cond_true] at h
  refine⟨h1,?_,h⟩
  have:=com_ne h1
  rw[h] at this
  simpa using this
 ·rw[blt_f h1] at h;cases h
theorem lt_of {a b:B32} {n:Nat} (hn:n<256) (h:∀j,j<n→bQ a j=bQ b j) (ha:bQ a n=false) (hb:bQ b n=true):ltV a b=true∧bN a b=n:=by
 have hc:=com_is hn h (by rw[ha,hb];decide)
 refine⟨?_,hc⟩
 unfold ltV
 rw[hc,blt_t hn,cond_true,hb]
theorem lt_irrefl (a:B32):ltV a a=false:=by unfold ltV;rw[nY];rfl
theorem lt_asymm {a b:B32} (h:ltV a b=true):ltV b a=false:=by
 obtain⟨h1,h2,h3⟩:=lt_com h
 unfold ltV
 rw[uM b a,blt_t h1,cond_true,h2]
theorem lt_tri {a b:B32} (ha:BOk a) (hb:BOk b) (h:a≠b):ltV a b=true∨ltV b a=true:=by
 have h1:=com_lt ha hb h
 have h2:=com_ne h1
 unfold ltV
 rw[uM b a,blt_t h1,cond_true,cond_true]
 cases h3:bQ b (bN a b) with
 | true=>exact .inl rfl
 | false=>
  rw[h3] at h2
  exact .inr (by simpa using h2)
theorem qj {a b c:B32} (h:ltV a b=true) (k:ltV b c=true):ltV a c=true∧bN a c=min (bN a b) (bN b c):=by
 obtain⟨h1,h2,h3⟩:=lt_com h
 obtain⟨k1,k2,k3⟩:=lt_com k
 rcases Nat.lt_trichotomy (bN a b) (bN b c) with h4 | h4 | h4
 ·rw[Nat.min_eq_left (by omega)]
  exact lt_of h1 (fun j hj=>(fq hj).trans (fq (by omega))) h2 ((fq h4).symm.trans h3)
 ·rw[h4] at h3;rw[h3] at k2;cases k2
 ·rw[Nat.min_eq_right (by omega)]
  exact lt_of k1 (fun j hj=>(fq (show j<bN a b by omega)).trans (fq hj)) ((fq h4).trans k2) k3
theorem lt_trans {a b c:B32} (h:ltV a b=true) (k:ltV b c=true):ltV a c=true:=(qj h k).1
structure Nd where
 len:Int
 pre:B32
 hash:B32
def zB:B32:=⟨0,0,0,0,0,0,0,0,0,0,0,0,0,0,0,0,0,0,0,0,0,0,0,0,0,0,0,0,0,0,0,0⟩
def zn:Nd:=⟨0,zB,zB⟩
def eqL:List Int→List Int→Bool
 | [],[]=>true
 | x::xs,y::ys=>(x==y)&&eqL xs ys
 | _,_=>false
theorem pW:∀(a b:List Int),eqL a b=true↔a=b
 | [],[]=>by simp[eqL]
 | [],_::_=>by simp[eqL]
 | _::_,[]=>by simp[eqL]
 | x::xs,y::ys=>by simp[eqL,pW xs ys]
def eqB (a b:B32):Bool:=eqL a.to b.to
theorem to_inj {a b:B32} (h:a.to=b.to):a=b:=ou fun i hi=>by rw[←pq a i hi,←pq b i hi,h]
theorem eqB_iff (a b:B32):eqB a b=true↔a=b:=by
 unfold eqB
 rw[pW]
 exact⟨to_inj,fun h=>by rw[h]⟩
def gD (n:Nd):Bool:=decide (0≤n.len)&&(decide (n.len≤256)&&eqB (eT n.pre n.len.toNat) n.pre)
def holdsV (n:Nd) (x:B32):Bool:=gD n&&decide (n.len≤(bN n.pre x:Int))
def oG (m n:Nd):Bool:=ltV m.pre n.pre&&decide ((bN m.pre n.pre:Int)<if n.len<m.len then n.len else m.len)
def apN (l:List Nd):Nat→Bool
 | 0=>true
 | 1=>gD (l.getD 0 zn)
 | i+2=>apN l (i+1)&&(gD (l.getD (i+1) zn)&&oG (l.getD i zn) (l.getD (i+1) zn))
def bC (l:List Nd):Bool:=apN l l.length
def NOk (n:Nd):Prop:=BOk n.pre∧BOk n.hash
structure nU (n:Nd):Prop where
 lo:0≤n.len
 hi:n.len≤256
 eq:eT n.pre n.len.toNat=n.pre
theorem rE (n:Nd):gD n=true↔nU n:=by
 unfold gD
 simp only[Bool.and_eq_true,decide_eq_true_eq,eqB_iff]
 exact⟨fun⟨a,b,c⟩=>⟨a,b,c⟩,fun h=>⟨h.lo,h.hi,h.eq⟩⟩
def Next (m n:Nd):Prop:=ltV m.pre n.pre=true∧(bN m.pre n.pre:Int)<m.len∧(bN m.pre n.pre:Int)<n.len
theorem next_iff (m n:Nd):oG m n=true↔Next m n:=by
 unfold oG Next
 simp only[Bool.and_eq_true,decide_eq_true_eq]
 split<;>constructor<;>rintro⟨a,b⟩
 ·exact⟨a,by omega,b⟩
 ·exact⟨a,b.2⟩
 ·exact⟨a,b,by omega⟩
 ·exact⟨a,b.1⟩
theorem Next.trans {a b c:Nd} (h:Next a b) (k:Next b c):Next a c:=by
 obtain⟨h1,h2,h3⟩:=h
 obtain⟨k1,k2,k3⟩:=k
 obtain⟨e1,e2⟩:=qj h1 k1
 refine⟨e1,?_,?_⟩<;>rw[e2]<;>omega
structure Ap (l:List Nd):Prop where
 good:∀n∈l,nU n
 pair:l.Pairwise Next
 ok:∀n∈l,NOk n
theorem dV {α:Type} {l:List α} {i:Nat} (h:i<l.length) (d:α):l.getD i d∈l:=by
 rw[List.getD_eq_getElem?_getD,List.getElem?_eq_getElem h]
 exact List.getElem_mem h
theorem getD_lt {α:Type} {l:List α} {i:Nat} (h:i<l.length) (d:α):l.getD i d=l[i]:=by
 rw[List.getD_eq_getElem?_getD,List.getElem?_eq_getElem h]
 rfl
theorem apN_iff (l:List Nd):∀n,n≤l.length→(apN l n=true↔(∀i,i<n→nU (l.getD i zn))∧∀i,i+1<n→Next (l.getD i zn) (l.getD (i+1) zn))
 | 0,_=>by simp[apN]
 | 1,h=>by
  rw[apN,rE]
  refine⟨fun g=>⟨fun i hi=> ?_,fun i hi=>absurd hi (by omega)⟩,fun g=>g.1 0 (by omega)⟩
  obtain rfl:i=0:=by omega
  exact g
 | n+2,h=>by
  rw[apN,Bool.and_eq_true,Bool.and_eq_true,rE,next_iff,apN_iff l (n+1) (by omega)]
  constructor
  ·rintro⟨⟨a,b⟩,c,d⟩
   refine⟨fun i hi=> ?_,fun i hi=> ?_⟩
   ·rcases Nat.lt_or_ge i (n+1) with h1 | h1
    ·exact a i h1
    ·obtain rfl:i=n+1:=by omega
     exact c
   ·rcases Nat.lt_or_ge (i+1) (n+1) with h1 | h1
    ·exact b i h1
    ·obtain rfl:i=n:=by omega
     exact d
  ·rintro⟨a,b⟩
   exact⟨⟨fun i hi=>a i (by omega),fun i hi=>b i (by omega)⟩,a _ (by omega),b _ (by omega)⟩
theorem pair_of_next {l:List Nd} (h:∀i,i+1<l.length→Next (l.getD i zn) (l.getD (i+1) zn)):l.Pairwise Next:=by
 have h2:∀k i,i+k+1<l.length→Next (l.getD i zn) (l.getD (i+k+1) zn):=fun k=>by
  induction k with
  | zero=>exact fun i hi=>h i hi
  | succ k ih=>exact fun i hi=>(ih i (by omega)).trans (h (i+k+1) hi)
 rw[List.pairwise_iff_getElem]
 intro i j hi hj hij
 have:=h2 (j-i-1) i (by omega)
 rw[show i+(j-i-1)+1=j by omega,getD_lt hi,getD_lt hj] at this
 exact this
theorem gF {l:List Nd} (hok:∀n∈l,NOk n):bC l=true↔Ap l:=by
 unfold bC
 rw[apN_iff l _ (Nat.le_refl _)]
 constructor
 ·rintro⟨a,b⟩
  refine⟨fun n hn=> ?_,pair_of_next b,hok⟩
  obtain⟨i,hi,rfl⟩:=List.mem_iff_getElem.1 hn
  have:=a i hi
  rwa [getD_lt hi] at this
 ·rintro⟨a,b,_⟩
  refine⟨fun i hi=>a _ (dV hi _),fun i hi=> ?_⟩
  rw[List.pairwise_iff_getElem] at b
  rw[getD_lt (show i<l.length by omega),getD_lt hi]
  exact b i (i+1) (by omega) hi (by omega)
theorem Ap.sub {l k:List Nd} (h:Ap l) (s:k.Sublist l):Ap k:=⟨fun n hn=>h.good n (s.subset hn),h.pair.sublist s,fun n hn=>h.ok n (s.subset hn)⟩
def aR (l:List Nd) (c:Nat):Nat:=(l.takeWhile fun n=> !(bQ n.pre c)).length
def aM (l:List Nd):Nat:=bN (l.getD 0 zn).pre (l.getD (l.length-1) zn).pre
structure Halves (l:List Nd) (c k:Nat):Prop where
 c256:c<256
 k0:0<k
 kl:k<l.length
 same:∀n∈l,c≤bN (l.getD 0 zn).pre n.pre
 left:∀i,i<k→bQ (l.getD i zn).pre c=false
 right:∀i,k≤i→i<l.length→bQ (l.getD i zn).pre c=true
theorem tw_spec {α:Type} (p:α→Bool) (d:α):∀(l:List α) ,(∀i,i<(l.takeWhile p).length→p (l.getD i d)=true)∧((l.takeWhile p).length<l.length→p (l.getD (l.takeWhile p).length d)=false)∧(l.takeWhile p).length≤l.length
 | []=>⟨fun i h=>absurd h (by simp),fun h=>absurd h (by simp),by simp⟩
 | x::l=>by
  obtain⟨a,b,c⟩:=tw_spec p d l
  rw[List.takeWhile_cons]
  cases hx:p x with
  | false=>
   simp only[Bool.false_eq_true, ↓reduceIte,List.length_nil]
   exact⟨fun i h=>absurd h (by omega),fun _=>by simpa using hx,by omega⟩
  | true=>
   simp only[↓reduceIte,List.length_cons]
   refine⟨fun i h=> ?_,fun h=> ?_,by omega⟩
   ·cases i with
    | zero=>simpa using hx
    | succ i=>simpa using a i (by omega)
   ·simpa using b (by omega)
theorem jZ {l:List Nd} (h:Ap l) {i j:Nat} (hij:i<j) (hj:j<l.length):Next (l.getD i zn) (l.getD j zn):=by
 have:=h.pair
 rw[List.pairwise_iff_getElem] at this
 rw[getD_lt (show i<l.length by omega),getD_lt hj]
 exact this i j (by omega) hj hij
theorem ap_same {l:List Nd} (h:Ap l) {i:Nat} (hi:i<l.length):aM l≤bN (l.getD 0 zn).pre (l.getD i zn).pre:=by
 unfold aM
 rcases Nat.eq_zero_or_pos i with rfl | h0
 ·rw[nY];exact oQ _ _
 ·rcases Nat.lt_or_ge i (l.length-1) with h1 | h1
  ·rw[(qj (jZ h h0 hi).1 (jZ h h1 (by omega)).1).2]
   exact Nat.min_le_left _ _
  ·obtain rfl:i=l.length-1:=by omega
   exact Nat.le_refl _
theorem halves {l:List Nd} (h:Ap l) (h2:2≤l.length):Halves l (aM l) (aR l (aM l)):=by
 have hn:=jZ h (show 0<l.length-1 by omega) (by omega)
 obtain⟨c1,c2,c3⟩:=lt_com hn.1
 obtain⟨a,b,c⟩:=tw_spec (fun n:Nd=> !(bQ n.pre (aM l))) zn l
 have hk0:0<aR l (aM l):=by
  rcases Nat.eq_zero_or_pos (aR l (aM l)) with h0 | h0
  ·unfold aR at h0
   rw[h0] at b
   have:=b (by omega)
   rw[show bQ (l.getD 0 zn).pre (aM l)=false from c2] at this
   cases this
  ·exact h0
 have hkl:aR l (aM l)<l.length:=by
  rcases Nat.lt_or_ge (aR l (aM l)) l.length with h0 | h0
  ·exact h0
  ·have:=a (l.length-1) (by unfold aR at h0;omega)
   rw[show bQ (l.getD (l.length-1) zn).pre (aM l)=true from c3] at this
   cases this
 refine⟨c1,hk0,hkl,fun n hn=> ?_,fun i hi=> ?_,fun i hi hl=> ?_⟩
 ·obtain⟨i,hi,rfl⟩:=List.mem_iff_getElem.1 hn
  have:=ap_same h hi
  rwa [getD_lt hi] at this
 ·have:=a i hi
  simpa using this
 ·have hb:=b (by unfold aR at hkl;exact hkl)
  have hb:bQ (l.getD (aR l (aM l)) zn).pre (aM l)=true:=by simpa [aR] using hb
  rcases Nat.lt_or_ge (aR l (aM l)) i with h3 | h3
  ·cases hx:bQ (l.getD i zn).pre (aM l) with
   | true=>rfl
   | false=>
    have e:∀j,j<aM l→bQ (l.getD i zn).pre j=bQ (l.getD (aR l (aM l)) zn).pre j:=fun j hj=>by
     rw[←fq (Nat.lt_of_lt_of_le hj (ap_same h hl)),←fq (Nat.lt_of_lt_of_le hj (ap_same h hkl))]
    have:=(lt_of c1 e hx hb).1
    rw[lt_asymm (jZ h h3 hl).1] at this
    cases this
  ·obtain rfl:i=aR l (aM l):=by omega
   exact hb
theorem jh {l:List Nd} (h:Ap l) (k:Nat):Ap (l.take k):=h.sub (List.take_sublist _ _)
theorem ji {l:List Nd} (h:Ap l) (k:Nat):Ap (l.drop k):=h.sub (List.drop_sublist _ _)
section
variable (H:Nd→Nd→B32)
def joinF:Nat→List Nd→Nd
 | 0,l=>l.getD 0 zn
 | f+1,l=>bif Nat.blt l.length 2 then l.getD 0 zn else ⟨aM l,eT (l.getD 0 zn).pre (aM l),H (joinF f (l.take (aR l (aM l)))) (joinF f (l.drop (aR l (aM l))))⟩
def bD (l:List Nd):Nd:=joinF H l.length l
theorem sJ {l:List Nd} (h:Ap l):∀f,l.length≤f→joinF H f l=bD H l:=by
 suffices ∀n f (l:List Nd),Ap l→l.length≤n→l.length≤f→joinF H f l=joinF H n l from fun f hf=>this l.length f l h (Nat.le_refl _) hf
 intro n
 induction n with
 | zero=>
  intro f l h hn hf
  obtain rfl:=List.eq_nil_of_length_eq_zero (Nat.le_zero.1 hn)
  cases f<;>rfl
 | succ n ih=>
  intro f l h hn hf
  cases f with
  | zero=>
   obtain rfl:=List.eq_nil_of_length_eq_zero (Nat.le_zero.1 hf)
   rfl
  | succ f=>
   rw[joinF,joinF]
   rcases Nat.lt_or_ge l.length 2 with h1 | h1
   ·rw[blt_t h1,cond_true,cond_true]
   ·rw[blt_f h1,cond_false,cond_false]
    have hs:=halves h h1
    have a:=hs.k0
    have b:=hs.kl
    rw[ih f _ (jh h _) (by rw[List.length_take];omega) (by rw[List.length_take];omega),ih f _ (ji h _) (by rw[List.length_drop];omega) (by rw[List.length_drop];omega)]
theorem join_one {l:List Nd} (h:l.length=1):bD H l=l.getD 0 zn:=by
 unfold bD
 rw[h,joinF,h]
 rfl
theorem pU {l:List Nd} (h:Ap l) (h2:2≤l.length):bD H l=⟨aM l,eT (l.getD 0 zn).pre (aM l),H (bD H (l.take (aR l (aM l)))) (bD H (l.drop (aR l (aM l))))⟩:=by
 have hs:=halves h h2
 have a:=hs.k0
 have b:=hs.kl
 rw[←sJ H h (l.length+1) (by omega),joinF,blt_f h2,cond_false,sJ H (jh h _) _ (by rw[List.length_take];omega),sJ H (ji h _) _ (by rw[List.length_drop];omega)]
theorem uw {l:List Nd} (h:Ap l) (h1:2≤l.length):(bD H l).len=aM l∧(bD H l).pre=eT (l.getD 0 zn).pre (aM l):=by
 rw[pU H h h1];exact⟨rfl,rfl⟩
theorem gT (hH:∀a b,BOk (H a b)) {l:List Nd} (h:Ap l) (h0:l≠[]):nU (bD H l)∧NOk (bD H l)∧(bD H l).pre=eT (l.getD 0 zn).pre (bD H l).len.toNat∧∀n∈l,(bD H l).len≤(bN (l.getD 0 zn).pre n.pre:Int)∧(bD H l).len≤n.len:=by
 rcases Nat.lt_or_ge l.length 2 with h1 | h1
 ·have hl:l.length=1:=by
   cases l with
   | nil=>exact absurd rfl h0
   | cons x r=>simp only[List.length_cons] at h1 ⊢;omega
  obtain⟨x,rfl⟩:=List.length_eq_one_iff.1 hl
  rw[join_one H hl]
  have g:=h.good x (by simp)
  refine⟨g,h.ok x (by simp),g.eq.symm,fun n hn=> ?_⟩
  obtain rfl:=List.mem_singleton.1 hn
  exact⟨by show _≤((bN n.pre n.pre:Nat):Int);rw[nY];exact g.hi,Int.le_refl _⟩
 ·have hs:=halves h h1
  have b:=hs.c256
  have hf:=h.ok _ (dV (show 0<l.length by omega) zn)
  rw[pU H h h1]
  refine⟨⟨by simp,?_,?_⟩,⟨qA hf.1 _,hH _ _⟩,by simp,fun n hn=>⟨?_,?_⟩⟩
  ·simp only;omega
  ·simp only[Int.toNat_natCast]
   rw[fst_fst hf.1,Nat.min_self]
  ·simp only
   have:=hs.same n hn
   omega
  ·simp only
   have hl:=(jZ h (show 0<l.length-1 by omega) (by omega))
   obtain⟨i,hi,rfl⟩:=List.mem_iff_getElem.1 hn
   rw[←getD_lt hi (d:=zn)]
   have e:aM l=bN (l.getD 0 zn).pre (l.getD (l.length-1) zn).pre:=rfl
   rcases Nat.lt_or_ge i (l.length-1) with h3 | h3
   ·rcases Nat.eq_zero_or_pos i with rfl | h4
    ·rw[e];exact Int.le_of_lt hl.2.1
    ·have g:=qj (jZ h h4 (by omega)).1 (jZ h h3 (by omega)).1
     have g2:=(jZ h h3 (by omega)).2.1
     rw[e,g.2]
     omega
   ·obtain rfl:i=l.length-1:=by omega
    rw[e];exact Int.le_of_lt hl.2.2
end
section
variable (H:Nd→Nd→B32)
def aroF (own:Bool):Nat→List Nd→List B32→List Nd
 | 0,_,_=>[]
 | f+1,l,ls=>bif Nat.beq l.length 0 then [] else
  bif Nat.beq (ls.filter (holdsV (bD H l))).length 0||(Nat.beq l.length 1&&own) then [bD H l] else
  bif Nat.beq l.length 1 then [] else
  aroF own f (l.take (aR l (aM l))) (ls.filter (holdsV (bD H l)))++aroF own f (l.drop (aR l (aM l))) (ls.filter (holdsV (bD H l)))
def witF (own:Bool):Nat→List Nd→List B32→List Nd
 | 0,_,_=>[]
 | f+1,l,ls=>bif Nat.beq l.length 0 then [] else
  bif !(ls.any (holdsV (bD H l)))||(Nat.beq l.length 1&&own) then [bD H l] else
  bif Nat.beq l.length 1 then [] else
  witF own f (l.take (aR l (aM l))) ls++witF own f (l.drop (aR l (aM l))) ls
theorem com_tri {a b c:B32} {n:Nat} (h:n≤bN a b) (k:n≤bN b c):n≤bN a c:=
 oJ (Nat.le_trans h (oQ _ _)) fun j hj=>(fq (show j<bN a b by omega)).trans (fq (show j<bN b c by omega))
variable (hH:∀a b,BOk (H a b))
theorem kS {n:Nd} (h:nU n) (x:B32):holdsV n x=true↔n.len.toNat≤bN n.pre x:=by
 unfold holdsV
 rw[(rE n).2 h,Bool.true_and,decide_eq_true_eq]
 have:=h.lo
 omega
include hH
theorem qM {l:List Nd} (h:Ap l) (h0:l≠[]) (x:B32):holdsV (bD H l) x=true↔(bD H l).len.toNat≤bN (l.getD 0 zn).pre x:=by
 obtain⟨g1,g2,g3,g4⟩:=gT H hH h h0
 have hf:=h.ok _ (dV (List.length_pos_iff.2 h0) zn)
 rw[kS g1,g3]
 have:=g1.hi
 exact com_fst hf.1 _ x (by omega)
theorem nG {l:List Nd} (h:Ap l) {n:Nd} (hn:n∈l):holdsV (bD H l) n.pre=true:=by
 have h0:l≠[]:=by rintro rfl;cases hn
 rw[qM H hH h h0]
 obtain⟨g1,g2,g3,g4⟩:=gT H hH h h0
 have:=(g4 n hn).1
 have:=g1.lo
 omega
theorem sub_len {l k:List Nd} (h:Ap l) (s:k.Sublist l) (h0:k≠[]):(bD H l).len≤(bD H k).len:=by
 have hl:l≠[]:=by rintro rfl;exact h0 (List.sublist_nil.1 s)
 obtain⟨g1,g2,g3,g4⟩:=gT H hH h hl
 rcases Nat.lt_or_ge k.length 2 with h1 | h1
 ·have hk:k.length=1:=by
   have:=List.length_pos_iff.2 h0
   omega
  rw[join_one H hk]
  exact(g4 _ (s.subset (dV (by omega) zn))).2
 ·rw[(uw H (h.sub s) h1).1]
  have a:=(g4 _ (s.subset (dV (show 0<k.length by omega) zn))).1
  have b:=(g4 _ (s.subset (dV (show k.length-1<k.length by omega) zn))).1
  have e:(bD H l).len.toNat≤aM k:=com_tri (b:=(l.getD 0 zn).pre) (by rw[uM];omega) (by omega)
  have:=g1.lo
  omega
theorem sub_holds {l k:List Nd} (h:Ap l) (s:k.Sublist l) (h0:k≠[]) {x:B32} (hx:holdsV (bD H k) x=true):holdsV (bD H l) x=true:=by
 have hl:l≠[]:=by rintro rfl;exact h0 (List.sublist_nil.1 s)
 rw[qM H hH (h.sub s) h0] at hx
 rw[qM H hH h hl]
 obtain⟨g1,g2,g3,g4⟩:=gT H hH h hl
 have a:=(g4 _ (s.subset (dV (List.length_pos_iff.2 h0) zn))).1
 have b:=sub_len H hH h s h0
 exact com_tri (b:=(k.getD 0 zn).pre) (by omega) (by omega)
theorem aro_wit (own:Bool):∀(f:Nat) (l:List Nd) (ls ks:List B32),Ap l→(∀x,(l≠[]→holdsV (bD H l) x=true)→(x∈ks↔x∈ls))→aroF H own f l ks=witF H own f l ls
 | 0,_,_,_,_,_=>rfl
 | f+1,l,ls,ks,h,hm=>by
  rw[aroF,witF]
  rcases Nat.eq_zero_or_pos l.length with h0 | h0
  ·rw[h0];rfl
  ·have hl:l≠[]:=List.length_pos_iff.1 h0
   have e:Nat.beq (ks.filter (holdsV (bD H l))).length 0= !(ls.any (holdsV (bD H l))):=by
    rw[Bool.eq_iff_iff,Nat.beq_eq,List.length_eq_zero_iff,List.filter_eq_nil_iff]
    simp only[Bool.not_eq_true',List.any_eq_false]
    constructor
    ·intro q x hx hh
     exact q x ((hm x fun _=>hh).2 hx) hh
    ·intro q x hx hh
     exact q x ((hm x fun _=>hh).1 hx) hh
   have b0:Nat.beq l.length 0=false:=by rw[←Bool.not_eq_true,Nat.beq_eq];omega
   rw[b0,cond_false,cond_false,e]
   cases ht:(!(ls.any (holdsV (bD H l)))||(Nat.beq l.length 1&&own)) with
   | true=>rfl
   | false=>
    rw[cond_false,cond_false]
    cases h1:Nat.beq l.length 1 with
    | true=>rfl
    | false=>
     rw[cond_false,cond_false]
     have hf:∀(k:List Nd),k.Sublist l→∀x,(k≠[]→holdsV (bD H k) x=true)→k≠[]→(x∈ks.filter (holdsV (bD H l))↔x∈ls):=fun k s x q hk=>by
      have hx:=sub_holds H hH h s hk (q hk)
      rw[List.mem_filter]
      simp only[hx,and_true]
      exact hm x fun _=>hx
     have h2:2≤l.length:=by
      have:¬l.length=1:=fun q=>by rw[q] at h1;cases h1
      omega
     have hs:=halves h h2
     have k0:=hs.k0
     have kl:=hs.kl
     rw[aro_wit own f _ ls _ (jh h _) fun x q=>hf _ (List.take_sublist _ _) x q (by rw[←List.length_pos_iff,List.length_take];omega),
      aro_wit own f _ ls _ (ji h _) fun x q=>hf _ (List.drop_sublist _ _) x q (by rw[←List.length_pos_iff,List.length_drop];omega)]
omit hH in
theorem held_lt {p q:Nd} (hp:nU p) (hq:nU q) (h:Next p q) {x y:B32} (hx:holdsV p x=true) (hy:holdsV q y=true):ltV x y=true∧bN x y=bN p.pre q.pre:=by
 rw[kS hp] at hx
 rw[kS hq] at hy
 obtain⟨h1,h2,h3⟩:=h
 obtain⟨c1,c2,c3⟩:=lt_com h1
 have:=hp.lo
 have:=hq.lo
 refine lt_of c1 (fun j hj=> ?_) ?_ ?_
 ·rw[←fq (show j<bN p.pre x by omega),fq hj,fq (show j<bN q.pre y by omega)]
 ·rw[←fq (show bN p.pre q.pre<bN p.pre x by omega)];exact c2
 ·rw[←fq (show bN p.pre q.pre<bN q.pre y by omega)];exact c3
omit hH in
theorem held_one {l:List Nd} (h:Ap l) {p q:Nd} (hp:p∈l) (hq:q∈l) {x:B32} (hx:holdsV p x=true) (hy:holdsV q x=true):p=q:=by
 obtain⟨i,hi,rfl⟩:=List.mem_iff_getElem.1 hp
 obtain⟨j,hj,rfl⟩:=List.mem_iff_getElem.1 hq
 have key:∀i j (hi:i<l.length) (hj:j<l.length),i<j→holdsV l[i] x=true→holdsV l[j] x=true→False:=fun i j hi hj hij a b=>by
  have n:=jZ h hij hj
  rw[getD_lt hi,getD_lt hj] at n
  have:=(held_lt (h.good _ (List.getElem_mem hi)) (h.good _ (List.getElem_mem hj)) n a b).1
  rw[lt_irrefl] at this
  cases this
 rcases Nat.lt_trichotomy i j with hij | rfl | hij
 ·exact(key i j hi hj hij hx hy).elim
 ·rfl
 ·exact(key j i hj hi hij hy hx).elim
structure Cov (P L:List Nd):Prop where
 is:∀p∈P,p=bD H (L.filter fun n=>holdsV p n.pre)
 some:∀p∈P,∃n∈L,holdsV p n.pre=true
 all:∀n∈L,∃p∈P,holdsV p n.pre=true
omit hH in
theorem nR {l:List Nd} {c k:Nat} (s:Halves l c k):l.take k=l.filter (fun n=> !(bQ n.pre c))∧l.drop k=l.filter (fun n=>bQ n.pre c):=by
 have a:∀n∈l.take k,bQ n.pre c=false:=fun n hn=>by
  obtain⟨i,hi,rfl⟩:=List.mem_iff_getElem.1 hn
  rw[List.length_take] at hi
  have:=s.left i (by omega)
  rw[getD_lt (by omega)] at this
  rw[List.getElem_take];exact this
 have b:∀n∈l.drop k,bQ n.pre c=true:=fun n hn=>by
  obtain⟨i,hi,rfl⟩:=List.mem_iff_getElem.1 hn
  rw[List.length_drop] at hi
  have:=s.right (k+i) (by omega) (by omega)
  rw[getD_lt (by omega)] at this
  rw[List.getElem_drop];exact this
 constructor
 ·conv=>rhs;rw[←List.take_append_drop k l,List.filter_append]
  rw[List.filter_eq_self.2 (fun n hn=>by rw[a n hn];rfl),List.filter_eq_nil_iff.2 (fun n hn=>by rw[b n hn];decide),List.append_nil]
 ·conv=>rhs;rw[←List.take_append_drop k l,List.filter_append]
  rw[List.filter_eq_nil_iff.2 (fun n hn=>by rw[a n hn];decide),List.filter_eq_self.2 (fun n hn=>b n hn),List.nil_append]
omit hH in
theorem uL:∀(n:Nat) (P L:List Nd),P.length≤n→Ap P→Ap L→P≠[]→Cov H P L→bD H P=bD H L
 | 0,P,L,hn,_,_,h0,_=>absurd (List.eq_nil_of_length_eq_zero (Nat.le_zero.1 hn)) h0
 | n+1,P,L,hn,hP,hL,h0,hc=>by
  rcases Nat.lt_or_ge P.length 2 with h1 | h1
  ·have hp1:P.length=1:=by have:=List.length_pos_iff.2 h0;omega
   obtain⟨p,rfl⟩:=List.length_eq_one_iff.1 hp1
   rw[join_one H hp1]
   show p=_
   have e:L.filter (fun n=>holdsV p n.pre)=L:=List.filter_eq_self.2 fun n hn=>by
    obtain⟨q,hq,hh⟩:=hc.all n hn
    obtain rfl:=List.mem_singleton.1 hq
    exact hh
   have:=hc.is p (by simp)
   rwa [e] at this
  ·have m0:=dV (show 0<P.length by omega) zn
   have m1:=dV (show P.length-1<P.length by omega) zn
   have nx:=jZ hP (show 0<P.length-1 by omega) (by omega)
   obtain⟨a,ha,ha'⟩:=hc.some _ m0
   obtain⟨b,hb,hb'⟩:=hc.some _ m1
   have hL0:0<L.length:=List.length_pos_iff.2 fun q=>by rw[q] at ha;cases ha
   have f0:holdsV (P.getD 0 zn) (L.getD 0 zn).pre=true:=by
    obtain⟨q,hq,hh⟩:=hc.all _ (dV hL0 zn)
    obtain⟨i,hi,rfl⟩:=List.mem_iff_getElem.1 hq
    rcases Nat.eq_zero_or_pos i with rfl | hi0
    ·rwa [getD_lt (show 0<P.length by omega)]
    ·exfalso
     have nq:=jZ hP hi0 hi
     rw[getD_lt hi] at nq
     have lt:=(held_lt (hP.good _ m0) (hP.good _ hq) nq ha' hh).1
     obtain⟨j,hj,rfl⟩:=List.mem_iff_getElem.1 ha
     rcases Nat.eq_zero_or_pos j with rfl | hj0
     ·rw[getD_lt hL0,lt_irrefl] at lt;cases lt
     ·have:=(jZ hL hj0 hj).1
      rw[getD_lt hj] at this
      rw[lt_asymm lt] at this;cases this
   have f1:holdsV (P.getD (P.length-1) zn) (L.getD (L.length-1) zn).pre=true:=by
    obtain⟨q,hq,hh⟩:=hc.all _ (dV (show L.length-1<L.length by omega) zn)
    obtain⟨i,hi,rfl⟩:=List.mem_iff_getElem.1 hq
    rcases Nat.lt_or_ge i (P.length-1) with hi0 | hi0
    ·exfalso
     have nq:=jZ hP hi0 (by omega)
     rw[getD_lt hi] at nq
     have lt:=(held_lt (hP.good _ hq) (hP.good _ m1) nq hh hb').1
     obtain⟨j,hj,rfl⟩:=List.mem_iff_getElem.1 hb
     rcases Nat.lt_or_ge j (L.length-1) with hj0 | hj0
     ·have:=(jZ hL hj0 (by omega)).1
      rw[getD_lt hj] at this
      rw[lt_asymm lt] at this;cases this
     ·obtain rfl:j=L.length-1:=by omega
      rw[getD_lt hj,lt_irrefl] at lt;cases lt
    ·obtain rfl:i=P.length-1:=by omega
     rwa [getD_lt hi]
   have hh:=held_lt (hP.good _ m0) (hP.good _ m1) nx f0 f1
   have ct:aM L=aM P:=hh.2
   have hL2:2≤L.length:=by
    rcases Nat.lt_or_ge L.length 2 with q | q
    ·have e:L.length-1=0:=by omega
     have:=hh.1
     rw[e,lt_irrefl] at this;cases this
    ·exact q
   have sP:=halves hP h1
   have sL:=halves hL hL2
   have hk:=sP.k0
   have hk':=sP.kl
   rw[pU H hP h1,pU H hL hL2,ct]
   obtain⟨tP,dP⟩:=nR sP
   obtain⟨tL,dL⟩:=nR sL
   rw[ct] at tL dL
   have hbit:∀p∈P,∀x,holdsV p x=true→bQ x (aM P)=bQ p.pre (aM P):=fun p hp x hx=>by
    rw[kS (hP.good p hp)] at hx
    have:(aM P:Int)<p.len:=by
     obtain⟨i,hi,rfl⟩:=List.mem_iff_getElem.1 hp
     have e:aM P=bN (P.getD 0 zn).pre (P.getD (P.length-1) zn).pre:=rfl
     rcases Nat.lt_or_ge i (P.length-1) with h3 | h3
     ·rcases Nat.eq_zero_or_pos i with rfl | h4
      ·rw[e,←getD_lt (d:=zn) hi];exact nx.2.1
      ·have g:=qj (jZ hP h4 (by omega)).1 (jZ hP h3 (by omega)).1
       have g2:=(jZ hP h3 (by omega)).2.1
       rw[getD_lt hi] at g g2
       rw[e,g.2]
       omega
     ·obtain rfl:i=P.length-1:=by omega
      rw[e,←getD_lt (d:=zn) hi];exact nx.2.2
    exact(fq (show aM P<bN p.pre x by omega)).symm
   have part:∀(t:Bool) (Q:List Nd),Q=P.filter (fun n=>bQ n.pre (aM P)==t)→Cov H Q (L.filter fun n=>bQ n.pre (aM P)==t):=fun t Q hQ=>by
    subst hQ
    refine⟨fun p hp=> ?_,fun p hp=> ?_,fun m hm=> ?_⟩
    ·obtain⟨p1,p2⟩:=List.mem_filter.1 hp
     have:=hc.is p p1
     rw[List.filter_filter]
     refine this.trans (congrArg _ (List.filter_congr fun m hm=> ?_))
     cases hx:holdsV p m.pre with
     | false=>rfl
     | true=>rw[hbit p p1 _ hx,Bool.true_and];exact p2.symm
    ·obtain⟨p1,p2⟩:=List.mem_filter.1 hp
     obtain⟨m,m1,m2⟩:=hc.some p p1
     exact⟨m,List.mem_filter.2 ⟨m1,by rw[hbit p p1 _ m2];exact p2⟩,m2⟩
    ·obtain⟨m1,m2⟩:=List.mem_filter.1 hm
     obtain⟨p,p1,p2⟩:=hc.all m m1
     exact⟨p,List.mem_filter.2 ⟨p1,by rw[←hbit p p1 _ p2];exact m2⟩,p2⟩
   have e1:(fun n:Nd=> !(bQ n.pre (aM P)))=fun n=>bQ n.pre (aM P)==false:=by funext n;cases bQ n.pre (aM P)<;>rfl
   have e2:(fun n:Nd=>bQ n.pre (aM P))=fun n=>bQ n.pre (aM P)==true:=by funext n;cases bQ n.pre (aM P)<;>rfl
   rw[uL n (P.take _) (L.take _) (by rw[List.length_take];omega) (jh hP _) (jh hL _) (by rw[←List.length_pos_iff,List.length_take];omega) (by rw[tL,e1];exact part false _ (by rw[tP,e1])),
    uL n (P.drop _) (L.drop _) (by rw[List.length_drop];omega) (ji hP _) (ji hL _) (by rw[←List.length_pos_iff,List.length_drop];omega) (by rw[dL,e2];exact part true _ (by rw[dP,e2]))]
   congr 1
   refine fst_eq (hP.ok _ m0).1 (hL.ok _ (dV hL0 zn)).1 ?_
   rw[kS (hP.good _ m0)] at f0
   have:=nx.2.1
   have:aM P=bN (P.getD 0 zn).pre (P.getD (P.length-1) zn).pre:=rfl
   omega
end
section
variable (H:Nd→Nd→B32)
structure Full (L S:List Nd):Prop where
 sub:S.Sublist L
 ne:S≠[]
 eq:S=L.filter fun n=>holdsV (bD H S) n.pre
theorem half_take {l:List Nd} (h:Ap l) (h2:2≤l.length):(aM l:Int)<(bD H (l.take (aR l (aM l)))).len:=by
 have s:=halves h h2
 have k0:=s.k0
 have kl:=s.kl
 have g:∀i,(l.take (aR l (aM l))).length=aR l (aM l)∧(i<aR l (aM l)→(l.take (aR l (aM l))).getD i zn=l.getD i zn):=fun i=>by
  refine⟨by rw[List.length_take];omega,fun hi=> ?_⟩
  rw[getD_lt (by rw[List.length_take];omega),List.getElem_take,getD_lt (by omega)]
 rcases Nat.lt_or_ge (aR l (aM l)) 2 with h1 | h1
 ·rw[join_one H (by rw[(g 0).1];omega),(g 0).2 (by omega)]
  exact(jZ h (show 0<l.length-1 by omega) (by omega)).2.1
 ·rw[(uw H (jh h _) (by rw[(g 0).1];omega)).1]
  have q:aM (l.take (aR l (aM l)))=bN (l.getD 0 zn).pre (l.getD (aR l (aM l)-1) zn).pre:=by
   show bN ((l.take (aR l (aM l))).getD 0 zn).pre ((l.take (aR l (aM l))).getD ((l.take (aR l (aM l))).length-1) zn).pre=_
   rw[(g 0).1,(g 0).2 (by omega),(g (aR l (aM l)-1)).2 (by omega)]
  rw[q]
  have e:aM l+1≤bN (l.getD 0 zn).pre (l.getD (aR l (aM l)-1) zn).pre:=oJ (by have:=s.c256;omega) fun j hj=>by
   rcases Nat.lt_or_ge j (aM l) with h3 | h3
   ·exact fq (Nat.lt_of_lt_of_le h3 (s.same _ (dV (by omega) zn)))
   ·obtain rfl:j=aM l:=by omega
    rw[s.left 0 (by omega),s.left (aR l (aM l)-1) (by omega)]
  omega
theorem half_drop {l:List Nd} (h:Ap l) (h2:2≤l.length):(aM l:Int)<(bD H (l.drop (aR l (aM l)))).len:=by
 have s:=halves h h2
 have k0:=s.k0
 have kl:=s.kl
 have g:∀i,(l.drop (aR l (aM l))).length=l.length-aR l (aM l)∧(i<l.length-aR l (aM l)→(l.drop (aR l (aM l))).getD i zn=l.getD (aR l (aM l)+i) zn):=fun i=>by
  refine⟨by rw[List.length_drop],fun hi=> ?_⟩
  rw[getD_lt (by rw[List.length_drop];omega),List.getElem_drop,getD_lt (by omega)]
 rcases Nat.lt_or_ge (l.length-aR l (aM l)) 2 with h1 | h1
 ·rw[join_one H (by rw[(g 0).1];omega),(g 0).2 (by omega),show aR l (aM l)+0=l.length-1 by omega]
  exact(jZ h (show 0<l.length-1 by omega) (by omega)).2.2
 ·rw[(uw H (ji h _) (by rw[(g 0).1];omega)).1]
  have q:aM (l.drop (aR l (aM l)))=bN (l.getD (aR l (aM l)+0) zn).pre (l.getD (aR l (aM l)+(l.length-aR l (aM l)-1)) zn).pre:=by
   show bN ((l.drop (aR l (aM l))).getD 0 zn).pre ((l.drop (aR l (aM l))).getD ((l.drop (aR l (aM l))).length-1) zn).pre=_
   rw[(g 0).1,(g 0).2 (by omega),(g (l.length-aR l (aM l)-1)).2 (by omega)]
  rw[q]
  have e:aM l+1≤bN (l.getD (aR l (aM l)+0) zn).pre (l.getD (aR l (aM l)+(l.length-aR l (aM l)-1)) zn).pre:=oJ (by have:=s.c256;omega) fun j hj=>by
   rcases Nat.lt_or_ge j (aM l) with h3 | h3
   ·exact(fq (Nat.lt_of_lt_of_le h3 (s.same _ (dV (by omega) zn)))).symm.trans (fq (Nat.lt_of_lt_of_le h3 (s.same _ (dV (by omega) zn))))
   ·obtain rfl:j=aM l:=by omega
    rw[s.right _ (by omega) (by omega),s.right (aR l (aM l)+(l.length-aR l (aM l)-1)) (by omega) (by omega)]
  omega
variable (hH:∀a b,BOk (H a b))
include hH
theorem full_half {L S:List Nd} (hL:Ap L) (h:Full H L S) (h2:2≤S.length):Full H L (S.take (aR S (aM S)))∧Full H L (S.drop (aR S (aM S))):=by
 have hS:=hL.sub h.sub
 have s:=halves hS h2
 have k0:=s.k0
 have kl:=s.kl
 obtain⟨tS,dS⟩:=nR s
 have ht:S.take (aR S (aM S))≠[]:=by rw[←List.length_pos_iff,List.length_take];omega
 have hd:S.drop (aR S (aM S))≠[]:=by rw[←List.length_pos_iff,List.length_drop];omega
 have key:∀(t:Bool) (A:List Nd),A=S.filter (fun n=>bQ n.pre (aM S)==t)→A≠[]→(aM S:Int)<(bD H A).len→A=L.filter fun n=>holdsV (bD H A) n.pre:=fun t A hA h0 hl=>by
  have sA:A.Sublist S:=by rw[hA];exact List.filter_sublist
  have hAp:=hS.sub sA
  refine hA.trans (Eq.trans (congrArg (List.filter _) h.eq) ?_)
  rw[List.filter_filter]
  refine List.filter_congr fun n hn=> ?_
  have hm:bQ (A.getD 0 zn).pre (aM S)=t:=by
   have m:=dV (List.length_pos_iff.2 h0) zn
   rw[hA] at m
   have:=(List.mem_filter.1 m).2
   rw[←hA] at this
   simpa using this
  rw[Bool.eq_iff_iff,Bool.and_eq_true,beq_iff_eq]
  constructor
  ·rintro⟨b1,b2⟩
   refine nG H hH hAp ?_
   rw[hA]
   refine List.mem_filter.2 ⟨?_,by simpa using b1⟩
   rw[h.eq]
   exact List.mem_filter.2 ⟨hn,b2⟩
  ·intro b
   refine⟨?_,sub_holds H hH hS sA h0 b⟩
   rw[qM H hH hAp h0] at b
   rw[←hm]
   exact(fq (show aM S<bN (A.getD 0 zn).pre n.pre by omega)).symm
 have e1:(fun n:Nd=> !(bQ n.pre (aM S)))=fun n=>bQ n.pre (aM S)==false:=by funext n;cases bQ n.pre (aM S)<;>rfl
 have e2:(fun n:Nd=>bQ n.pre (aM S))=fun n=>bQ n.pre (aM S)==true:=by funext n;cases bQ n.pre (aM S)<;>rfl
 exact⟨⟨(List.take_sublist _ _).trans h.sub,ht,key false _ (by rw[tS,e1]) ht (half_take H hS h2)⟩,⟨(List.drop_sublist _ _).trans h.sub,hd,key true _ (by rw[dS,e2]) hd (half_drop H hS h2)⟩⟩
theorem full_self {L:List Nd} (h:Ap L) (h0:L≠[]):Full H L L:=⟨List.Sublist.refl _,h0,(List.filter_eq_self.2 fun n hn=>nG H hH h hn).symm⟩
theorem join_next {S A B:List Nd} (h:Ap S) (h2:2≤S.length) (sA:A.Sublist (S.take (aR S (aM S)))) (sB:B.Sublist (S.drop (aR S (aM S)))) (hA:A≠[]) (hB:B≠[]):Next (bD H A) (bD H B):=by
 have s:=halves h h2
 have lA:=half_take H h h2
 have lB:=half_drop H h h2
 have lA':=sub_len H hH (jh h _) sA hA
 have lB':=sub_len H hH (ji h _) sB hB
 obtain⟨a1,a2,a3,a4⟩:=gT H hH ((jh h _).sub sA) hA
 obtain⟨b1,b2,b3,b4⟩:=gT H hH ((ji h _).sub sB) hB
 obtain⟨tS,dS⟩:=nR s
 have mA:=sA.subset (dV (List.length_pos_iff.2 hA) zn)
 have mB:=sB.subset (dV (List.length_pos_iff.2 hB) zn)
 rw[tS] at mA
 rw[dS] at mB
 obtain⟨mA1,mA2⟩:=List.mem_filter.1 mA
 obtain⟨mB1,mB2⟩:=List.mem_filter.1 mB
 have oA:=h.ok _ mA1
 have oB:=h.ok _ mB1
 have c256:=s.c256
 have bA:∀j,j≤aM S→bQ (bD H A).pre j=bQ (A.getD 0 zn).pre j:=fun j hj=>by
  rw[a3,lV oA.1 _ (by omega),decide_eq_true (by omega),Bool.true_and]
 have bB:∀j,j≤aM S→bQ (bD H B).pre j=bQ (B.getD 0 zn).pre j:=fun j hj=>by
  rw[b3,lV oB.1 _ (by omega),decide_eq_true (by omega),Bool.true_and]
 obtain⟨l1,l2⟩:=lt_of c256 (a:=(bD H A).pre) (b:=(bD H B).pre) (fun j hj=>by
  rw[bA j (by omega),bB j (by omega)]
  exact(fq (Nat.lt_of_lt_of_le hj (s.same _ mA1))).symm.trans (fq (Nat.lt_of_lt_of_le hj (s.same _ mB1)))) (by rw[bA _ (Nat.le_refl _)];simpa using mA2) (by rw[bB _ (Nat.le_refl _)];exact mB2)
 exact⟨l1,by rw[l2];omega,by rw[l2];omega⟩
structure Wit (own:Bool) (L S:List Nd) (ls:List B32) (P:List Nd):Prop where
 is:∀p∈P,∃A,Full H L A∧A.Sublist S∧p=bD H A∧((∀x∈ls,holdsV p x=false)∨(own=true∧A.length=1))
 all:∀n∈S,(∃p∈P,holdsV p n.pre=true)∨(own=false∧∃x∈ls,holdsV n x=true)
 pair:P.Pairwise Next
 len:P.length≤S.length
omit hH in
theorem sO (own:Bool) (f:Nat) (ls:List B32):witF H own f [] ls=[]:=by cases f<;>rfl
theorem wit_spec (own:Bool) {L:List Nd} (hL:Ap L) (ls:List B32):∀(f:Nat) (S:List Nd),Full H L S→S.length≤f→Wit H own L S ls (witF H own f S ls)
 | 0,S,h,hf=>absurd (List.eq_nil_of_length_eq_zero (Nat.le_zero.1 hf)) h.ne
 | f+1,S,h,hf=>by
  have h0:=List.length_pos_iff.2 h.ne
  have hS:=hL.sub h.sub
  have b0:Nat.beq S.length 0=false:=by rw[←Bool.not_eq_true,Nat.beq_eq];omega
  rw[witF,b0,cond_false]
  cases ht:(!(ls.any (holdsV (bD H S)))||(Nat.beq S.length 1&&own)) with
  | true=>
   rw[cond_true]
   refine⟨fun p hp=> ?_,fun n hn=> .inl ⟨_,List.mem_singleton.2 rfl,nG H hH hS hn⟩,List.pairwise_singleton _ _,h0⟩
   obtain rfl:=List.mem_singleton.1 hp
   refine⟨S,h,List.Sublist.refl _,rfl,?_⟩
   simp only[Bool.or_eq_true,Bool.not_eq_true',List.any_eq_false,Bool.and_eq_true,Nat.beq_eq] at ht
   rcases ht with q | ⟨q1,q2⟩
   ·exact .inl fun x hx=>by simpa using q x hx
   ·exact .inr ⟨q2,q1⟩
  | false=>
   rw[cond_false]
   cases h1:Nat.beq S.length 1 with
   | true=>
    rw[cond_true]
    have h1:=Nat.eq_of_beq_eq_true h1
    simp only[Bool.or_eq_false_iff,Bool.not_eq_false',List.any_eq_true,h1] at ht
    obtain⟨⟨x,hx,hxh⟩,q⟩:=ht
    have q:own=false:=q
    rw[join_one H h1] at hxh
    refine⟨fun p hp=>absurd hp (by simp),fun n hn=> .inr ⟨q,x,hx,?_⟩,List.Pairwise.nil,by simp⟩
    obtain⟨m,rfl⟩:=List.length_eq_one_iff.1 h1
    obtain rfl:=List.mem_singleton.1 hn
    exact hxh
   | false=>
    rw[cond_false]
    have h2:2≤S.length:=by
     have:¬S.length=1:=fun q=>by rw[q] at h1;cases h1
     omega
    have s:=halves hS h2
    have k0:=s.k0
    have kl:=s.kl
    obtain⟨fa,fb⟩:=full_half H hH hL h h2
    have wa:=wit_spec own hL ls f _ fa (by rw[List.length_take];omega)
    have wb:=wit_spec own hL ls f _ fb (by rw[List.length_drop];omega)
    refine⟨fun p hp=> ?_,fun n hn=> ?_,?_,?_⟩
    ·rcases List.mem_append.1 hp with hp | hp
     ·obtain⟨A,a1,a2,a3⟩:=wa.is p hp
      exact⟨A,a1,a2.trans (List.take_sublist _ _),a3⟩
     ·obtain⟨A,a1,a2,a3⟩:=wb.is p hp
      exact⟨A,a1,a2.trans (List.drop_sublist _ _),a3⟩
    ·rw[←List.take_append_drop (aR S (aM S)) S] at hn
     rcases List.mem_append.1 hn with hn | hn
     ·rcases wa.all n hn with⟨p,p1,p2⟩ | q
      ·exact .inl ⟨p,List.mem_append.2 (.inl p1),p2⟩
      ·exact .inr q
     ·rcases wb.all n hn with⟨p,p1,p2⟩ | q
      ·exact .inl ⟨p,List.mem_append.2 (.inr p1),p2⟩
      ·exact .inr q
    ·refine List.pairwise_append.2 ⟨wa.pair,wb.pair,fun p hp q hq=> ?_⟩
     obtain⟨A,a1,a2,rfl,_⟩:=wa.is p hp
     obtain⟨B,b1,b2,rfl,_⟩:=wb.is q hq
     exact join_next H hH hS h2 a2 b2 a1.ne b1.ne
    ·have a:=wa.len
     have b:=wb.len
     rw[List.length_take] at a
     rw[List.length_drop] at b
     rw[List.length_append]
     omega
theorem Wit.ap {own:Bool} {L S P:List Nd} {ls:List B32} (hL:Ap L) (h:Wit H own L S ls P):Ap P:=by
 refine⟨fun p hp=> ?_,h.pair,fun p hp=> ?_⟩
 ·obtain⟨A,a1,a2,rfl,_⟩:=h.is p hp
  exact(gT H hH (hL.sub a1.sub) a1.ne).1
 ·obtain⟨A,a1,a2,rfl,_⟩:=h.is p hp
  exact(gT H hH (hL.sub a1.sub) a1.ne).2.1
end
end Go.Proofs.YtdccehmekkcheaaDoor

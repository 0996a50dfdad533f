/- Package beaconref02: numbers of four words: what is below, less, least, bytes. -/
import Derived.Test.YthlmepolmemejaaGreatDoorLMF
set_option linter.unusedVariables false
namespace Go.Proofs.YthlmepolmemejaaGreatDoor
open Go Go.Eng
set_option maxRecDepth 100000
def p4:N4:=⟨18446744073709551597,18446744073709551615,18446744073709551615,9223372036854775807⟩
def i4:N4:=⟨14190309331451158704,3405592160176694392,3120150775007532967,3135389899092516619⟩
theorem rp_fn:ay Tryz.prog GX 131 [] (cN4.enc p4):=
 ay.aD (Γ:=([]:Cons Tryz.prog GX)) ah mixed Tryz.func131 (n:=100) (orc:=[]) (cs:=[]) (by kernel_rfl) trivial rfl rfl
def rp_con:Con Tryz.prog GX:=con0 131 Tryz.f131 Tryz.func131 (by kernel_rfl) (by kernel_rfl) (cN4.enc p4) [] rfl (fun _=>rp_fn)
theorem rI_fn:ay Tryz.prog GX 136 [] (cN4.enc i4):=
 ay.aD (Γ:=([]:Cons Tryz.prog GX)) ah mixed Tryz.func136 (n:=100) (orc:=[]) (cs:=[]) (by kernel_rfl) trivial rfl rfl
def rI_con:Con Tryz.prog GX:=con0 136 Tryz.f136 Tryz.func136 (by kernel_rfl) (by kernel_rfl) (cN4.enc i4) [] rfl (fun _=>rI_fn)
theorem rsmall_fn (n:Int):ay Tryz.prog GX 104 [(av .u64).enc n] (cN4.enc ⟨n,0,0,0⟩):=
 ay.aD (Γ:=([]:Cons Tryz.prog GX)) ah mixed Tryz.func104 (n:=100) (orc:=[]) (cs:=[]) (by kernel_rfl) trivial rfl rfl
def kF:Con Tryz.prog GX:=fQ 104 Tryz.f104 Tryz.func104 (by kernel_rfl) (by kernel_rfl) (av .u64) (fun n=>cN4.enc ⟨n,0,0,0⟩) (fun _=>[]) (fun _=>rfl) (fun n _=>rsmall_fn n)
def below0 (a b:N4):Bool:=match (a.l0 !=b.l0) with
 | true=>decide (a.l0<b.l0)
 | false=>false
def below1 (a b:N4):Bool:=match (a.l1 !=b.l1) with
 | true=>decide (a.l1<b.l1)
 | false=>below0 a b
def below2 (a b:N4):Bool:=match (a.l2 !=b.l2) with
 | true=>decide (a.l2<b.l2)
 | false=>below1 a b
def bV (a b:N4):Bool:=match (a.l3 !=b.l3) with
 | true=>decide (a.l3<b.l3)
 | false=>below2 a b
theorem rbelow_fn (a b:N4):ay Tryz.prog GX 130 [cN4.enc a,cN4.enc b] (aY.enc (bV a b)):=by
 unfold bV
 cases h3:(a.l3 !=b.l3) with
 | true=>exact ay.aD (Γ:=([]:Cons Tryz.prog GX)) ah mixed Tryz.func130 (n:=100) (orc:=[(16,[true])]) (cs:=[(a.l3 !=b.l3)=true]) (by kernel_rfl) ⟨h3,trivial⟩ rfl rfl
 | false=>
  simp only
  unfold below2
  cases h2:(a.l2 !=b.l2) with
  | true=>exact ay.aD (Γ:=([]:Cons Tryz.prog GX)) ah mixed Tryz.func130 (n:=100) (orc:=[(16,[false,true])]) (cs:=[(a.l3 !=b.l3)=false,(a.l2 !=b.l2)=true]) (by kernel_rfl) ⟨h3,h2,trivial⟩ rfl rfl
  | false=>
   simp only
   unfold below1
   cases h1:(a.l1 !=b.l1) with
   | true=>exact ay.aD (Γ:=([]:Cons Tryz.prog GX)) ah mixed Tryz.func130 (n:=100) (orc:=[(16,[false,false,true])]) (cs:=[(a.l3 !=b.l3)=false,(a.l2 !=b.l2)=false,(a.l1 !=b.l1)=true]) (by kernel_rfl) ⟨h3,h2,h1,trivial⟩ rfl rfl
   | false=>
    simp only
    unfold below0
    cases h0:(a.l0 !=b.l0) with
    | true=>exact ay.aD (Γ:=([]:Cons Tryz.prog GX)) ah mixed Tryz.func130 (n:=100) (orc:=[(16,[false,false,false,true])]) (cs:=[(a.l3 !=b.l3)=false,(a.l2 !=b.l2)=false,(a.l1 !=b.l1)=false,(a.l0 !=b.l0)=true]) (by kernel_rfl) ⟨h3,h2,h1,h0,trivial⟩ rfl rfl
    | false=>exact ay.aD (Γ:=([]:Cons Tryz.prog GX)) ah mixed Tryz.func130 (n:=100) (orc:=[(16,[false,false,false,false])]) (cs:=[(a.l3 !=b.l3)=false,(a.l2 !=b.l2)=false,(a.l1 !=b.l1)=false,(a.l0 !=b.l0)=false]) (by kernel_rfl) ⟨h3,h2,h1,h0,trivial⟩ rfl rfl
def vo:Con Tryz.prog GX:=jA 130 Tryz.f130 Tryz.func130 (by kernel_rfl) (by kernel_rfl) (cN4) (cN4) (fun a b=>aY.enc (bV a b)) (fun _ _=>[]) (fun _ _=>rfl) (fun a b _=>rbelow_fn a b)
def qZ (a b:N4):Int:=oL a.l0 b.l0 0
def qW (a b:N4):Int:=oL a.l1 b.l1 (qZ a b)
def qV (a b:N4):Int:=oL a.l2 b.l2 (qW a b)
def fD (a b:N4):N4:=⟨l6 a.l0 b.l0 0,l6 a.l1 b.l1 (qZ a b),l6 a.l2 b.l2 (qW a b),l6 a.l3 b.l3 (qV a b)⟩
theorem mK (x y c:Int):(oL x y c).toNat≤1:=by unfold oL;split<;>decide
theorem rless_fn (a b:N4):ay Tryz.prog GX 137 [cN4.enc a,cN4.enc b] (cN4.enc (fD a b)):=
 ay.aD (Γ:=[zL]) ah mixed Tryz.func137 (n:=100) (orc:=[]) (cs:=[(0:Int).toNat≤1,(qZ a b).toNat≤1,(qW a b).toNat≤1,(qV a b).toNat≤1]) (by kernel_rfl)
  ⟨by decide,mK _ _ _,mK _ _ _,mK _ _ _,trivial⟩ rfl rfl
def wO:Con Tryz.prog GX:=jA 137 Tryz.f137 Tryz.func137 (by kernel_rfl) (by kernel_rfl) (cN4) (cN4) (fun a b=>cN4.enc (fD a b)) (fun _ _=>[]) (fun _ _=>rfl) (fun a b _=>rless_fn a b)
theorem kK {a b:N4} (ha:aj a) (hb:aj b):bV a b=true↔N4V a<N4V b:=by
 obtain⟨⟨a0,a1⟩,⟨a2,a3⟩,⟨a4,a5⟩,⟨a6,a7⟩⟩:=ha
 obtain⟨⟨b0,b1⟩,⟨b2,b3⟩,⟨b4,b5⟩,⟨b6,b7⟩⟩:=hb
 unfold bV N4V
 cases h3:(a.l3 !=b.l3) with
 | true=>
  simp only[bne_iff_ne,ne_eq,decide_eq_true_eq] at*
  omega
 | false=>
  simp only at*
  unfold below2
  cases h2:(a.l2 !=b.l2) with
  | true=>
   simp only[bne_iff_ne,bne_eq_false_iff_eq,ne_eq,decide_eq_true_eq] at*
   omega
  | false=>
   simp only at*
   unfold below1
   cases h1:(a.l1 !=b.l1) with
   | true=>
    simp only[bne_iff_ne,bne_eq_false_iff_eq,ne_eq,decide_eq_true_eq] at*
    omega
   | false=>
    simp only at*
    unfold below0
    cases h0:(a.l0 !=b.l0) with
    | true=>
     simp only[bne_iff_ne,bne_eq_false_iff_eq,ne_eq,decide_eq_true_eq] at*
     omega
    | false=>
     simp only[bne_eq_false_iff_eq,Bool.false_eq_true,false_iff] at*
     omega
theorem nY {x y c:Int} (hx:Word x) (hy:Word y) (hc:c=0∨c=1):(oL x y c=0∨oL x y c=1)∧Word (l6 x y c)∧l6 x y c=x-y-c+18446744073709551616*oL x y c:=by
 obtain⟨x0,x1⟩:=hx
 obtain⟨y0,y1⟩:=hy
 rw[←sub64D_eq]
 unfold sub64D' oL Word
 simp only[Int.ofNat_eq_natCast]
 split<;>omega
theorem qp {a b:N4} (ha:aj a) (hb:aj b) (h:N4V b≤N4V a):aj (fD a b)∧N4V (fD a b)=N4V a-N4V b:=by
 obtain⟨a0,a1,a2,a3⟩:=ha
 obtain⟨b0,b1,b2,b3⟩:=hb
 obtain⟨c0,w0,e0⟩:=nY a0 b0 (.inl rfl)
 obtain⟨c1,w1,e1⟩:=nY a1 b1 c0
 obtain⟨c2,w2,e2⟩:=nY a2 b2 c1
 obtain⟨c3,w3,e3⟩:=nY a3 b3 c2
 refine⟨⟨w0,w1,w2,w3⟩,?_⟩
 unfold N4V at*
 unfold fD qV qW qZ
 simp only
 unfold Word at*
 omega
theorem sU:aj p4:=by unfold aj Word;decide
theorem l7:N4V p4=pP:=by decide
theorem jH {a:N4} (ha:aj a):0≤N4V a∧N4V a<115792089237316195423570985008687907853269984665640564039457584007913129639936:=by
 obtain⟨⟨a0,a1⟩,⟨a2,a3⟩,⟨a4,a5⟩,⟨a6,a7⟩⟩:=ha
 unfold N4V
 omega
def vK (a:N4):N4:=match bV a p4 with
 | true=>a
 | false=>fD a p4
def bX (a:N4):N4:=match bV a p4 with
 | true=>a
 | false=>vK (fD a p4)
theorem leastN2_val {a:N4} (ha:aj a) (h:N4V a<2*pP):aj (vK a)∧N4V (vK a)<pP∧N4V (vK a)=N4V a%pP:=by
 have hb:=kK ha sU
 rw[l7] at hb
 have h0:=jH ha
 unfold vK
 cases hc:bV a p4 with
 | true=>
  have:=hb.1 hc
  exact⟨ha,this,(Int.emod_eq_of_lt h0.1 this).symm⟩
 | false=>
  have hle:pP≤N4V a:=by
   have:¬N4V a<pP:=fun h=>by rw[hb.2 h] at hc;cases hc
   omega
  obtain⟨h1,h2⟩:=qp ha sU (by rw[l7];exact hle)
  rw[l7] at h2
  refine⟨h1,by rw[h2];omega,mod_unique (q:=1) (by rw[h2];omega) (by rw[h2];omega) (by rw[h2];omega)⟩
theorem sW {a:N4} (ha:aj a):aj (bX a)∧N4V (bX a)<pP∧N4V (bX a)=N4V a%pP:=by
 have hb:=kK ha sU
 rw[l7] at hb
 have h0:=jH ha
 unfold bX
 cases hc:bV a p4 with
 | true=>
  have:=hb.1 hc
  exact⟨ha,this,(Int.emod_eq_of_lt h0.1 this).symm⟩
 | false=>
  have hle:pP≤N4V a:=by
   have:¬N4V a<pP:=fun h=>by rw[hb.2 h] at hc;cases hc
   omega
  obtain⟨h1,h2⟩:=qp ha sU (by rw[l7];exact hle)
  rw[l7] at h2
  by_cases hlt:N4V (fD a p4)<2*pP
  ·obtain⟨k1,k2,k3⟩:=leastN2_val h1 hlt
   refine⟨k1,k2,?_⟩
   rw[k3,h2,Int.sub_emod_right]
  ·exfalso
   unfold pP at*
   omega
theorem rleast_fn (a:N4) (hp:Holds [aj a]):ay Tryz.prog GX 108 [cN4.enc a] (cN4.enc (bX a)):=by
 have ha:aj a:=hp.1
 have hb:=kK ha sU
 rw[l7] at hb
 have h0:=jH ha
 unfold bX
 cases hc:bV a p4 with
 | true=>exact ay.aD (Γ:=[rp_con,vo,wO]) ah mixed Tryz.func108 (n:=100) (orc:=[(5,[true])]) (cs:=[bV a p4=true]) (by kernel_rfl) ⟨hc,trivial⟩ rfl rfl
 | false=>
  have hle:pP≤N4V a:=by
   have:¬N4V a<pP:=fun h=>by rw[hb.2 h] at hc;cases hc
   omega
  obtain⟨h1,h2⟩:=qp ha sU (by rw[l7];exact hle)
  rw[l7] at h2
  simp only
  unfold vK
  cases hd:bV (fD a p4) p4 with
  | true=>exact ay.aD (Γ:=[rp_con,vo,wO]) ah mixed Tryz.func108 (n:=100) (orc:=[(5,[false,true])]) (cs:=[bV a p4=false,bV (fD a p4) p4=true]) (by kernel_rfl) ⟨hc,hd,trivial⟩ rfl rfl
  | false=>
   have hb1:=kK h1 sU
   rw[l7] at hb1
   have hle1:pP≤N4V (fD a p4):=by
    have:¬N4V (fD a p4)<pP:=fun h=>by rw[hb1.2 h] at hd;cases hd
    omega
   obtain⟨h3,h4⟩:=qp h1 sU (by rw[l7];exact hle1)
   rw[l7] at h4
   have hb2:=kK h3 sU
   rw[l7] at hb2
   have he:bV (fD (fD a p4) p4) p4=true:=hb2.2 (by unfold pP at*;omega)
   exact ay.aD (Γ:=[rp_con,vo,wO]) ah mixed Tryz.func108 (n:=100) (orc:=[(5,[false,false,true])])
    (cs:=[bV a p4=false,bV (fD a p4) p4=false,bV (fD (fD a p4) p4) p4=true]) (by kernel_rfl) ⟨hc,hd,he,trivial⟩ rfl rfl
def iL:Con Tryz.prog GX:=fQ 108 Tryz.f108 Tryz.func108 (by kernel_rfl) (by kernel_rfl) (cN4) (fun a=>cN4.enc (bX a)) (fun a=>[aj a]) (fun _=>rfl) (fun a h=>rleast_fn a h)
theorem rbytes_fn (a:N4) (hp:Holds [aj a]):ay Tryz.prog GX 109 [cN4.enc a] (ak.enc (fO (bX a))):=
 ay.aD (Γ:=[iL]) ah mixed Tryz.func109 (n:=100) (orc:=[]) (cs:=[aj a]) (by kernel_rfl) hp rfl rfl
def rbytes_con:Con Tryz.prog GX:=fQ 109 Tryz.f109 Tryz.func109 (by kernel_rfl) (by kernel_rfl) (cN4) (fun a=>ak.enc (fO (bX a))) (fun a=>[aj a]) (fun _=>rfl) (fun a h=>rbytes_fn a h)
def word8R (b:B32) (k:Nat):Int:=
 let s (acc:Int) (i:Nat):Int:=orU acc (shlU (IntKind.u64.wrap (b.at (k+i))) (8*i))
 s (s (s (s (s (s (s (s 0 0) 1) 2) 3) 4) 5) 6) 7
def dM (b:B32):N4:=⟨word8R b 0,word8R b 8,word8R b 16,word8R b 24⟩
theorem rfrom_fn (b:B32):ay Tryz.prog GX 100 [(ak).enc b] (cN4.enc (dM b)):=
 ay.aD (Γ:=([]:Cons Tryz.prog GX)) ah mixed Tryz.func100 (n:=100) (orc:=[]) (cs:=[]) (by kernel_rfl) trivial rfl rfl
def nZ:Con Tryz.prog GX:=fQ 100 Tryz.f100 Tryz.func100 (by kernel_rfl) (by kernel_rfl) (ak) (fun b=>cN4.enc (dM b)) (fun _=>[]) (fun _=>rfl) (fun b _=>rfrom_fn b)
def fold0 (n:N4) (h:Int):Int:=aL n.l0 (aG h 38) 0
def fold1 (n:N4) (h:Int):Int:=aL n.l1 (bn h 38) (fold0 n h)
def fold2 (n:N4) (h:Int):Int:=aL n.l2 0 (fold1 n h)
def jv (n:N4) (h:Int):Int:=aL n.l3 0 (fold2 n h)
def rD (n:N4) (h:Int):N4:=⟨aC n.l0 (aG h 38) 0,aC n.l1 (bn h 38) (fold0 n h),aC n.l2 0 (fold1 n h),aC n.l3 0 (fold2 n h)⟩
theorem iJ {x y c:Int} (hx:Word x) (hy:Word y) (hc:c=0∨c=1):(aL x y c=0∨aL x y c=1)∧Word (aC x y c)∧aC x y c+18446744073709551616*aL x y c=x+y+c:=by
 obtain⟨x0,x1⟩:=hx
 obtain⟨y0,y1⟩:=hy
 unfold aC aL Word
 simp only[Int.ofNat_eq_natCast]
 omega
theorem su:Word 0:=⟨by decide,by decide⟩
theorem rY {n:N4} {h:Int} (hn:aj n) (hh:Word h):(fold0 n h=0∨fold0 n h=1)∧(fold1 n h=0∨fold1 n h=1)∧(fold2 n h=0∨fold2 n h=1)∧(jv n h=0∨jv n h=1)∧
  aj (rD n h)∧N4V (rD n h)+115792089237316195423570985008687907853269984665640564039457584007913129639936*jv n h=N4V n+38*h:=by
 obtain⟨n0,n1,n2,n3⟩:=hn
 have hm:=p9 h 38 hh ⟨by decide,by decide⟩
 have hl:=nQ h 38
 have wl:Word (aG h 38):=by rw[hl];exact⟨Int.emod_nonneg _ (by decide),Int.emod_lt_of_pos _ (by decide)⟩
 have wh:Word (bn h 38):=by rw[hm];unfold Word at*;omega
 obtain⟨c0,w0,e0⟩:=iJ n0 wl (.inl rfl)
 obtain⟨c1,w1,e1⟩:=iJ n1 wh c0
 obtain⟨c2,w2,e2⟩:=iJ n2 su c1
 obtain⟨c3,w3,e3⟩:=iJ n3 su c2
 refine⟨c0,c1,c2,c3,⟨w0,w1,w2,w3⟩,?_⟩
 unfold N4V
 unfold rD jv fold2 fold1 fold0 at*
 simp only
 unfold Word at*
 omega
theorem dK {c:Int} (h:c=0∨c=1):Word c∧c.toNat≤1:=by unfold Word;omega
def foldN (n:N4) (h:Int):N4:=match (h !=0) with
 | false=>n
 | true=>match (jv n h !=0) with
  | false=>rD n h
  | true=>rD (rD n h) (jv n h)
theorem foldH2 {n:N4} {h:Int} (hn:aj n) (hh:Word h) (h1:jv n h≠0):jv (rD n h) (jv n h)=0:=by
 obtain⟨_,_,_,c3,ok,e⟩:=rY hn hh
 obtain⟨_,_,_,d3,ok2,e2⟩:=rY ok (dK c3).1
 have k1:=jH hn
 have k2:=jH ok
 have k3:=jH ok2
 unfold Word at hh
 omega
theorem foldN_val {n:N4} {h:Int} (hn:aj n) (hh:Word h):aj (foldN n h)∧N4V (foldN n h)%pP=(N4V n+38*h)%pP:=by
 unfold foldN
 cases h0:(h !=0) with
 | false=>
  have:h=0:=by simpa using h0
  subst this
  exact⟨hn,by rw[Int.mul_zero,Int.add_zero]⟩
 | true=>
  obtain⟨_,_,_,c3,ok,e⟩:=rY hn hh
  simp only
  cases h1:(jv n h !=0) with
  | false=>
   have hz:jv n h=0:=by simpa using h1
   rw[hz,Int.mul_zero,Int.add_zero] at e
   exact⟨ok,by rw[e]⟩
  | true=>
   have hne:jv n h≠0:=by simpa using h1
   obtain⟨_,_,_,d3,ok2,e2⟩:=rY ok (dK c3).1
   rw[foldH2 hn hh hne,Int.mul_zero,Int.add_zero] at e2
   refine⟨ok2,?_⟩
   simp only
   rw[e2,eqm]
   exact⟨-2*jv n h,by unfold pP;omega⟩
theorem rfold_fn (n:N4) (x:Int) (hp:Holds [aj n,Word x]):ay Tryz.prog GX 133 [cN4.enc n,(av .u64).enc x] (cN4.enc (foldN n x)):=by
 have hn:aj n:=hp.1
 have hh:Word x:=hp.2.1
 obtain⟨b0,b1,b2,b3,ok,e⟩:=rY hn hh
 have z:(0:Int).toNat≤1:=by decide
 unfold foldN
 cases h0:(x !=0) with
 | false=>exact ay.aD (Γ:=[rX,ny]) ah mixed Tryz.func133 (n:=100) (orc:=[(9,[false])]) (cs:=[(x !=0)=false]) (by kernel_rfl) ⟨h0,trivial⟩ rfl rfl
 | true=>
  simp only
  cases h1:(jv n x !=0) with
  | false=>
   exact ay.aD (Γ:=[rX,ny]) ah mixed Tryz.func133 (n:=100) (orc:=[(9,[true,false])])
    (cs:=[(x !=0)=true,(0:Int).toNat≤1,(fold0 n x).toNat≤1,(fold1 n x).toNat≤1,(fold2 n x).toNat≤1,(jv n x !=0)=false]) (by kernel_rfl)
    ⟨h0,z,(dK b0).2,(dK b1).2,(dK b2).2,h1,trivial⟩ rfl rfl
  | true=>
   have hne:jv n x≠0:=by simpa using h1
   obtain⟨d0,d1,d2,d3,ok2,e2⟩:=rY ok (dK b3).1
   have h2:(jv (rD n x) (jv n x) !=0)=false:=by rw[foldH2 hn hh hne];rfl
   exact ay.aD (Γ:=[rX,ny]) ah mixed Tryz.func133 (n:=100) (orc:=[(9,[true,true,false])])
    (cs:=[(x !=0)=true,(0:Int).toNat≤1,(fold0 n x).toNat≤1,(fold1 n x).toNat≤1,(fold2 n x).toNat≤1,(jv n x !=0)=true,
     (0:Int).toNat≤1,(fold0 (rD n x) (jv n x)).toNat≤1,(fold1 (rD n x) (jv n x)).toNat≤1,(fold2 (rD n x) (jv n x)).toNat≤1,(jv (rD n x) (jv n x) !=0)=false]) (by kernel_rfl)
    ⟨h0,z,(dK b0).2,(dK b1).2,(dK b2).2,h1,z,(dK d0).2,(dK d1).2,(dK d2).2,h2,trivial⟩ rfl rfl
def rfold_con:Con Tryz.prog GX:=jA 133 Tryz.f133 Tryz.func133 (by kernel_rfl) (by kernel_rfl) (cN4) (av .u64) (fun n x=>cN4.enc (foldN n x)) (fun n x=>[aj n,Word x]) (fun _ _=>rfl) (fun n x h=>rfold_fn n x h)
def sum0 (a b:N4):Int:=aL a.l0 b.l0 0
def sum1 (a b:N4):Int:=aL a.l1 b.l1 (sum0 a b)
def sum2 (a b:N4):Int:=aL a.l2 b.l2 (sum1 a b)
def jM (a b:N4):Int:=aL a.l3 b.l3 (sum2 a b)
def eU (a b:N4):N4:=⟨aC a.l0 b.l0 0,aC a.l1 b.l1 (sum0 a b),aC a.l2 b.l2 (sum1 a b),aC a.l3 b.l3 (sum2 a b)⟩
theorem qb {a b:N4} (ha:aj a) (hb:aj b):(sum0 a b=0∨sum0 a b=1)∧(sum1 a b=0∨sum1 a b=1)∧(sum2 a b=0∨sum2 a b=1)∧(jM a b=0∨jM a b=1)∧
  aj (eU a b)∧N4V (eU a b)+115792089237316195423570985008687907853269984665640564039457584007913129639936*jM a b=N4V a+N4V b:=by
 obtain⟨n0,n1,n2,n3⟩:=ha
 obtain⟨m0,m1,m2,m3⟩:=hb
 obtain⟨c0,w0,e0⟩:=iJ n0 m0 (.inl rfl)
 obtain⟨c1,w1,e1⟩:=iJ n1 m1 c0
 obtain⟨c2,w2,e2⟩:=iJ n2 m2 c1
 obtain⟨c3,w3,e3⟩:=iJ n3 m3 c2
 refine⟨c0,c1,c2,c3,⟨w0,w1,w2,w3⟩,?_⟩
 unfold N4V
 unfold eU jM sum2 sum1 sum0 at*
 simp only
 unfold Word at*
 omega
def fH (a b:N4):N4:=foldN (eU a b) (jM a b)
theorem zX {a b:N4} (ha:aj a) (hb:aj b):aj (fH a b)∧N4V (fH a b)%pP=(N4V a+N4V b)%pP:=by
 obtain⟨_,_,_,c,ok,e⟩:=qb ha hb
 obtain⟨h1,h2⟩:=foldN_val ok (dK c).1
 refine⟨h1,?_⟩
 unfold fH
 rw[h2,eqm]
 exact⟨-2*jM a b,by unfold pP;omega⟩
theorem rplus_fn (a b:N4) (hp:Holds [aj a,aj b]):ay Tryz.prog GX 106 [cN4.enc a,cN4.enc b] (cN4.enc (fH a b)):=by
 obtain⟨b0,b1,b2,b3,ok,e⟩:=qb hp.1 hp.2.1
 exact ay.aD (Γ:=[ny,rfold_con]) ah mixed Tryz.func106 (n:=100) (orc:=[])
  (cs:=[(0:Int).toNat≤1,(sum0 a b).toNat≤1,(sum1 a b).toNat≤1,(sum2 a b).toNat≤1,aj (eU a b),Word (jM a b)]) (by kernel_rfl)
  ⟨by decide,(dK b0).2,(dK b1).2,(dK b2).2,ok,(dK b3).1,trivial⟩ rfl rfl
def mQ:Con Tryz.prog GX:=jA 106 Tryz.f106 Tryz.func106 (by kernel_rfl) (by kernel_rfl) (cN4) (cN4) (fun a b=>cN4.enc (fH a b)) (fun a b=>[aj a,aj b]) (fun _ _=>rfl) (fun a b h=>rplus_fn a b h)
def bT (a b:N4):N4:=fH a (fD p4 (bX b))
theorem negN_val {b:N4} (hb:aj b):aj (fD p4 (bX b))∧N4V (fD p4 (bX b))=pP-N4V b%pP:=by
 obtain⟨h1,h2,h3⟩:=sW hb
 obtain⟨h4,h5⟩:=qp sU h1 (by rw[l7];omega)
 rw[l7,h3] at h5
 exact⟨h4,h5⟩
theorem minusN_val {a b:N4} (ha:aj a) (hb:aj b):aj (bT a b)∧N4V (bT a b)%pP=(N4V a-N4V b)%pP:=by
 obtain⟨h1,h2⟩:=negN_val hb
 obtain⟨h3,h4⟩:=zX ha h1
 refine⟨h3,?_⟩
 unfold bT
 rw[h4,h2,eqm]
 have:=Int.mul_ediv_add_emod (N4V b) pP
 refine⟨N4V b/pP+1,?_⟩
 rw[Int.add_mul,Int.one_mul,Int.mul_comm (N4V b/pP)]
 omega
theorem rminus_fn (a b:N4) (hp:Holds [aj a,aj b]):ay Tryz.prog GX 103 [cN4.enc a,cN4.enc b] (cN4.enc (bT a b)):=by
 obtain⟨h1,h2⟩:=negN_val hp.2.1
 exact ay.aD (Γ:=[rp_con,iL,wO,mQ]) ah mixed Tryz.func103 (n:=100) (orc:=[])
  (cs:=[aj b,aj a,aj (fD p4 (bX b))]) (by kernel_rfl) ⟨hp.2.1,hp.1,h1,trivial⟩ rfl rfl
def lD:Con Tryz.prog GX:=jA 103 Tryz.f103 Tryz.func103 (by kernel_rfl) (by kernel_rfl) (cN4) (cN4) (fun a b=>cN4.enc (bT a b)) (fun a b=>[aj a,aj b]) (fun _ _=>rfl) (fun a b h=>rminus_fn a b h)
theorem rcanonical_fn (a:B32):ay Tryz.prog GX 99 [(ak).enc a] (aY.enc (bV (dM a) p4)):=
 ay.aD (Γ:=[nZ,rp_con,vo]) ah mixed Tryz.func99 (n:=100) (orc:=[]) (cs:=[]) (by kernel_rfl) trivial rfl rfl
def jX:Con Tryz.prog GX:=fQ 99 Tryz.f99 Tryz.func99 (by kernel_rfl) (by kernel_rfl) (ak) (fun a=>aY.enc (bV (dM a) p4)) (fun _=>[]) (fun _=>rfl) (fun a _=>rcanonical_fn a)
theorem rtimes_walk (a b:N4) (x00 y00 x01 y01 x02 y02 x03 y03 x10 y10 x11 y11 x12 y12 x13 y13 x20 y20 x21 y21 x22 y22 x23 y23 x30 y30 x31 y31 x32 y32 x33 y33 l0 g0 o0 c0 l1 g1 o1 c1 l2 g2 o2 c2 l3 g3 o3 c3:Int) (hx00:aC (aC (aG a.l0 b.l0) 0 0) 0 0=x00) (hy00:aT (aT (bn a.l0 b.l0) (aL (aG a.l0 b.l0) 0 0)) (aL (aC (aG a.l0 b.l0) 0 0) 0 0)=y00) (hx01:aC (aC (aG a.l0 b.l1) 0 0) y00 0=x01) (hy01:aT (aT (bn a.l0 b.l1) (aL (aG a.l0 b.l1) 0 0)) (aL (aC (aG a.l0 b.l1) 0 0) y00 0)=y01) (hx02:aC (aC (aG a.l0 b.l2) 0 0) y01 0=x02) (hy02:aT (aT (bn a.l0 b.l2) (aL (aG a.l0 b.l2) 0 0)) (aL (aC (aG a.l0 b.l2) 0 0) y01 0)=y02) (hx03:aC (aC (aG a.l0 b.l3) 0 0) y02 0=x03) (hy03:aT (aT (bn a.l0 b.l3) (aL (aG a.l0 b.l3) 0 0)) (aL (aC (aG a.l0 b.l3) 0 0) y02 0)=y03) (hx10:aC (aC (aG a.l1 b.l0) x01 0) 0 0=x10) (hy10:aT (aT (bn a.l1 b.l0) (aL (aG a.l1 b.l0) x01 0)) (aL (aC (aG a.l1 b.l0) x01 0) 0 0)=y10) (hx11:aC (aC (aG a.l1 b.l1) x02 0) y10 0=x11) (hy11:aT (aT (bn a.l1 b.l1) (aL (aG a.l1 b.l1) x02 0)) (aL (aC (aG a.l1 b.l1) x02 0) y10 0)=y11) (hx12:aC (aC (aG a.l1 b.l2) x03 0) y11 0=x12) (hy12:aT (aT (bn a.l1 b.l2) (aL (aG a.l1 b.l2) x03 0)) (aL (aC (aG a.l1 b.l2) x03 0) y11 0)=y12) (hx13:aC (aC (aG a.l1 b.l3) y03 0) y12 0=x13) (hy13:aT (aT (bn a.l1 b.l3) (aL (aG a.l1 b.l3) y03 0)) (aL (aC (aG a.l1 b.l3) y03 0) y12 0)=y13) (hx20:aC (aC (aG a.l2 b.l0) x11 0) 0 0=x20) (hy20:aT (aT (bn a.l2 b.l0) (aL (aG a.l2 b.l0) x11 0)) (aL (aC (aG a.l2 b.l0) x11 0) 0 0)=y20) (hx21:aC (aC (aG a.l2 b.l1) x12 0) y20 0=x21) (hy21:aT (aT (bn a.l2 b.l1) (aL (aG a.l2 b.l1) x12 0)) (aL (aC (aG a.l2 b.l1) x12 0) y20 0)=y21) (hx22:aC (aC (aG a.l2 b.l2) x13 0) y21 0=x22) (hy22:aT (aT (bn a.l2 b.l2) (aL (aG a.l2 b.l2) x13 0)) (aL (aC (aG a.l2 b.l2) x13 0) y21 0)=y22) (hx23:aC (aC (aG a.l2 b.l3) y13 0) y22 0=x23) (hy23:aT (aT (bn a.l2 b.l3) (aL (aG a.l2 b.l3) y13 0)) (aL (aC (aG a.l2 b.l3) y13 0) y22 0)=y23) (hx30:aC (aC (aG a.l3 b.l0) x21 0) 0 0=x30) (hy30:aT (aT (bn a.l3 b.l0) (aL (aG a.l3 b.l0) x21 0)) (aL (aC (aG a.l3 b.l0) x21 0) 0 0)=y30) (hx31:aC (aC (aG a.l3 b.l1) x22 0) y30 0=x31) (hy31:aT (aT (bn a.l3 b.l1) (aL (aG a.l3 b.l1) x22 0)) (aL (aC (aG a.l3 b.l1) x22 0) y30 0)=y31) (hx32:aC (aC (aG a.l3 b.l2) x23 0) y31 0=x32) (hy32:aT (aT (bn a.l3 b.l2) (aL (aG a.l3 b.l2) x23 0)) (aL (aC (aG a.l3 b.l2) x23 0) y31 0)=y32) (hx33:aC (aC (aG a.l3 b.l3) y23 0) y32 0=x33) (hy33:aT (aT (bn a.l3 b.l3) (aL (aG a.l3 b.l3) y23 0)) (aL (aC (aG a.l3 b.l3) y23 0) y32 0)=y33) (hl0:aC (aG x31 38) 0 0=l0) (hg0:aT (bn x31 38) (aL (aG x31 38) 0 0)=g0) (ho0:aC x00 l0 0=o0) (hc0:aL x00 l0 0=c0) (hl1:aC (aG x32 38) g0 0=l1) (hg1:aT (bn x32 38) (aL (aG x32 38) g0 0)=g1) (ho1:aC x10 l1 c0=o1) (hc1:aL x10 l1 c0=c1) (hl2:aC (aG x33 38) g1 0=l2) (hg2:aT (bn x33 38) (aL (aG x33 38) g1 0)=g2) (ho2:aC x20 l2 c1=o2) (hc2:aL x20 l2 c1=c2) (hl3:aC (aG y33 38) g2 0=l3) (hg3:aT (bn y33 38) (aL (aG y33 38) g2 0)=g3) (ho3:aC x30 l3 c2=o3) (hc3:aL x30 l3 c2=c3) (kc0:c0.toNat≤1) (kc1:c1.toNat≤1) (kc2:c2.toNat≤1) (hok:aj ⟨o0,o1,o2,o3⟩) (hw:Word (aT g3 c3)):
  ay Tryz.prog GX 101 [cN4.enc a,cN4.enc b] (cN4.enc (foldN ⟨o0,o1,o2,o3⟩ (aT g3 c3))):=
 have z:(0:Int).toNat≤1:=by decide
 ay.aD (Γ:=[rX,ny,rfold_con]) ah mixed Tryz.func101 (n:=100)
  (orc:=[(52,[.n x00,.n x01,.n x02,.n x03,.n x10,.n x11,.n x12,.n x13,.n x20,.n x21,.n x22,.n x23,.n x30,.n x31,.n x32,.n x33]),(56,[.n y00,.n y01,.n y02,.n y03,.n y10,.n y11,.n y12,.n y13,.n y20,.n y21,.n y22,.n y23,.n y30,.n y31,.n y32,.n y33]),(93,[.n l0,.n l1,.n l2,.n l3]),(97,[.n g0,.n g1,.n g2,.n g3]),(106,[.n o0,.n o1,.n o2,.n o3]),(107,[.n c0,.n c1,.n c2,.n c3])])
  (cs:=[(0:Int).toNat≤1,(0:Int).toNat≤1,aC (aC (aG a.l0 b.l0) 0 0) 0 0=x00,aT (aT (bn a.l0 b.l0) (aL (aG a.l0 b.l0) 0 0)) (aL (aC (aG a.l0 b.l0) 0 0) 0 0)=y00,(0:Int).toNat≤1,(0:Int).toNat≤1,aC (aC (aG a.l0 b.l1) 0 0) y00 0=x01,aT (aT (bn a.l0 b.l1) (aL (aG a.l0 b.l1) 0 0)) (aL (aC (aG a.l0 b.l1) 0 0) y00 0)=y01,(0:Int).toNat≤1,(0:Int).toNat≤1,aC (aC (aG a.l0 b.l2) 0 0) y01 0=x02,aT (aT (bn a.l0 b.l2) (aL (aG a.l0 b.l2) 0 0)) (aL (aC (aG a.l0 b.l2) 0 0) y01 0)=y02,(0:Int).toNat≤1,(0:Int).toNat≤1,aC (aC (aG a.l0 b.l3) 0 0) y02 0=x03,aT (aT (bn a.l0 b.l3) (aL (aG a.l0 b.l3) 0 0)) (aL (aC (aG a.l0 b.l3) 0 0) y02 0)=y03,(0:Int).toNat≤1,(0:Int).toNat≤1,aC (aC (aG a.l1 b.l0) x01 0) 0 0=x10,aT (aT (bn a.l1 b.l0) (aL (aG a.l1 b.l0) x01 0)) (aL (aC (aG a.l1 b.l0) x01 0) 0 0)=y10,(0:Int).toNat≤1,(0:Int).toNat≤1,aC (aC (aG a.l1 b.l1) x02 0) y10 0=x11,aT (aT (bn a.l1 b.l1) (aL (aG a.l1 b.l1) x02 0)) (aL (aC (aG a.l1 b.l1) x02 0) y10 0)=y11,(0:Int).toNat≤1,(0:Int).toNat≤1,aC (aC (aG a.l1 b.l2) x03 0) y11 0=x12,aT (aT (bn a.l1 b.l2) (aL (aG a.l1 b.l2) x03 0)) (aL (aC (aG a.l1 b.l2) x03 0) y11 0)=y12,(0:Int).toNat≤1,(0:Int).toNat≤1,aC (aC (aG a.l1 b.l3) y03 0) y12 0=x13,aT (aT (bn a.l1 b.l3) (aL (aG a.l1 b.l3) y03 0)) (aL (aC (aG a.l1 b.l3) y03 0) y12 0)=y13,(0:Int).toNat≤1,(0:Int).toNat≤1,aC (aC (aG a.l2 b.l0) x11 0) 0 0=x20,aT (aT (bn a.l2 b.l0) (aL (aG a.l2 b.l0) x11 0)) (aL (aC (aG a.l2 b.l0) x11 0) 0 0)=y20,(0:Int).toNat≤1,(0:Int).toNat≤1,aC (aC (aG a.l2 b.l1) x12 0) y20 0=x21,aT (aT (bn a.l2 b.l1) (aL (aG a.l2 b.l1) x12 0)) (aL (aC (aG a.l2 b.l1) x12 0) y20 0)=y21,(0:Int).toNat≤1,(0:Int).toNat≤1,aC (aC (aG a.l2 b.l2) x13 0) y21 0=x22,aT (aT (bn a.l2 b.l2) (aL (aG a.l2 b.l2) x13 0)) (aL (aC (aG a.l2 b.l2) x13 0) y21 0)=y22,(0:Int).toNat≤1,(0:Int).toNat≤1,aC (aC (aG a.l2 b.l3) y13 0) y22 0=x23,aT (aT (bn a.l2 b.l3) (aL (aG a.l2 b.l3) y13 0)) (aL (aC (aG a.l2 b.l3) y13 0) y22 0)=y23,(0:Int).toNat≤1,(0:Int).toNat≤1,aC (aC (aG a.l3 b.l0) x21 0) 0 0=x30,aT (aT (bn a.l3 b.l0) (aL (aG a.l3 b.l0) x21 0)) (aL (aC (aG a.l3 b.l0) x21 0) 0 0)=y30,(0:Int).toNat≤1,(0:Int).toNat≤1,aC (aC (aG a.l3 b.l1) x22 0) y30 0=x31,aT (aT (bn a.l3 b.l1) (aL (aG a.l3 b.l1) x22 0)) (aL (aC (aG a.l3 b.l1) x22 0) y30 0)=y31,(0:Int).toNat≤1,(0:Int).toNat≤1,aC (aC (aG a.l3 b.l2) x23 0) y31 0=x32,aT (aT (bn a.l3 b.l2) (aL (aG a.l3 b.l2) x23 0)) (aL (aC (aG a.l3 b.l2) x23 0) y31 0)=y32,(0:Int).toNat≤1,(0:Int).toNat≤1,aC (aC (aG a.l3 b.l3) y23 0) y32 0=x33,aT (aT (bn a.l3 b.l3) (aL (aG a.l3 b.l3) y23 0)) (aL (aC (aG a.l3 b.l3) y23 0) y32 0)=y33,(0:Int).toNat≤1,aC (aG x31 38) 0 0=l0,aT (bn x31 38) (aL (aG x31 38) 0 0)=g0,(0:Int).toNat≤1,aC x00 l0 0=o0,aL x00 l0 0=c0,(0:Int).toNat≤1,aC (aG x32 38) g0 0=l1,aT (bn x32 38) (aL (aG x32 38) g0 0)=g1,c0.toNat≤1,aC x10 l1 c0=o1,aL x10 l1 c0=c1,(0:Int).toNat≤1,aC (aG x33 38) g1 0=l2,aT (bn x33 38) (aL (aG x33 38) g1 0)=g2,c1.toNat≤1,aC x20 l2 c1=o2,aL x20 l2 c1=c2,(0:Int).toNat≤1,aC (aG y33 38) g2 0=l3,aT (bn y33 38) (aL (aG y33 38) g2 0)=g3,c2.toNat≤1,aC x30 l3 c2=o3,aL x30 l3 c2=c3,aj ⟨o0,o1,o2,o3⟩,Word (aT g3 c3)]) (by kernel_rfl) ⟨z,z,hx00,hy00,z,z,hx01,hy01,z,z,hx02,hy02,z,z,hx03,hy03,z,z,hx10,hy10,z,z,hx11,hy11,z,z,hx12,hy12,z,z,hx13,hy13,z,z,hx20,hy20,z,z,hx21,hy21,z,z,hx22,hy22,z,z,hx23,hy23,z,z,hx30,hy30,z,z,hx31,hy31,z,z,hx32,hy32,z,z,hx33,hy33,z,hl0,hg0,z,ho0,hc0,z,hl1,hg1,kc0,ho1,hc1,z,hl2,hg2,kc1,ho2,hc2,z,hl3,hg3,kc2,ho3,hc3,hok,hw,trivial⟩ rfl rfl
theorem jJ {x y w c:Int} (hx:Word x) (hy:Word y) (hw:Word w) (hc:Word c):Word (aC (aC (aG x y) w 0) c 0)∧Word (aT (aT (bn x y) (aL (aG x y) w 0)) (aL (aC (aG x y) w 0) c 0))∧
  aC (aC (aG x y) w 0) c 0+18446744073709551616*aT (aT (bn x y) (aL (aG x y) w 0)) (aL (aC (aG x y) w 0) c 0)=x*y+w+c:=by
 have hl:=nQ x y
 have hh:=p9 x y hx hy
 have wl:Word (aG x y):=by rw[hl];exact⟨Int.emod_nonneg _ (by decide),Int.emod_lt_of_pos _ (by decide)⟩
 have hp:0≤x*y∧x*y≤340282366920938463426481119284349108225:=by
  unfold Word at*
  refine⟨Int.mul_nonneg hx.1 hy.1,?_⟩
  have:=Int.mul_le_mul (by omega:x≤18446744073709551615) (by omega:y≤18446744073709551615) hy.1 (by decide:(0:Int)≤18446744073709551615)
  omega
 obtain⟨c0,w0,e0⟩:=iJ wl hw (.inl rfl)
 obtain⟨c1,w1,e1⟩:=iJ w0 hc (.inl rfl)
 generalize aC (aG x y) w 0=s0 at*
 generalize aL (aG x y) w 0=k0 at*
 generalize aC s0 c 0=s1 at*
 generalize aL s0 c 0=k1 at*
 generalize aG x y=L at*
 generalize bn x y=H at*
 generalize x*y=p at*
 simp only[nW]
 unfold Word at*
 omega
theorem yQ {x c:Int} (hx:Word x) (hc:Word c) (hc':c≤38):Word (aC (aG x 38) c 0)∧(0≤aT (bn x 38) (aL (aG x 38) c 0)∧aT (bn x 38) (aL (aG x 38) c 0)≤38)∧
  aC (aG x 38) c 0+18446744073709551616*aT (bn x 38) (aL (aG x 38) c 0)=38*x+c:=by
 have hl:=nQ x 38
 have hh:=p9 x 38 hx ⟨by decide,by decide⟩
 have wl:Word (aG x 38):=by rw[hl];exact⟨Int.emod_nonneg _ (by decide),Int.emod_lt_of_pos _ (by decide)⟩
 obtain⟨c0,w0,e0⟩:=iJ wl hc (.inl rfl)
 generalize aC (aG x 38) c 0=s0 at*
 generalize aL (aG x 38) c 0=k0 at*
 generalize aG x 38=L at*
 generalize bn x 38=H at*
 have hH:0≤H∧H≤37:=by unfold Word at*;omega
 have hA:aT H k0=H+k0:=by rw[nW];omega
 rw[hA]
 have h38:38*x=18446744073709551616*H+L:=by unfold Word at*;omega
 refine⟨w0,?_,by omega⟩
 unfold Word at*
 omega
theorem zT (a b:N4) (ha:aj a) (hb:aj b):∃r:N4,(aj r∧N4V r%pP=(N4V a*N4V b)%pP)∧ay Tryz.prog GX 101 [cN4.enc a,cN4.enc b] (cN4.enc r):=by
 obtain⟨a0,a1,a2,a3⟩:=ha
 obtain⟨b0,b1,b2,b3⟩:=hb
 obtain⟨wx00,wy00,e00⟩:=jJ a0 b0 su su
 generalize hx00:aC (aC (aG a.l0 b.l0) 0 0) 0 0=x00 at wx00 e00
 generalize hy00:aT (aT (bn a.l0 b.l0) (aL (aG a.l0 b.l0) 0 0)) (aL (aC (aG a.l0 b.l0) 0 0) 0 0)=y00 at wy00 e00
 obtain⟨wx01,wy01,e01⟩:=jJ a0 b1 su wy00
 generalize hx01:aC (aC (aG a.l0 b.l1) 0 0) y00 0=x01 at wx01 e01
 generalize hy01:aT (aT (bn a.l0 b.l1) (aL (aG a.l0 b.l1) 0 0)) (aL (aC (aG a.l0 b.l1) 0 0) y00 0)=y01 at wy01 e01
 obtain⟨wx02,wy02,e02⟩:=jJ a0 b2 su wy01
 generalize hx02:aC (aC (aG a.l0 b.l2) 0 0) y01 0=x02 at wx02 e02
 generalize hy02:aT (aT (bn a.l0 b.l2) (aL (aG a.l0 b.l2) 0 0)) (aL (aC (aG a.l0 b.l2) 0 0) y01 0)=y02 at wy02 e02
 obtain⟨wx03,wy03,e03⟩:=jJ a0 b3 su wy02
 generalize hx03:aC (aC (aG a.l0 b.l3) 0 0) y02 0=x03 at wx03 e03
 generalize hy03:aT (aT (bn a.l0 b.l3) (aL (aG a.l0 b.l3) 0 0)) (aL (aC (aG a.l0 b.l3) 0 0) y02 0)=y03 at wy03 e03
 obtain⟨wx10,wy10,e10⟩:=jJ a1 b0 wx01 su
 generalize hx10:aC (aC (aG a.l1 b.l0) x01 0) 0 0=x10 at wx10 e10
 generalize hy10:aT (aT (bn a.l1 b.l0) (aL (aG a.l1 b.l0) x01 0)) (aL (aC (aG a.l1 b.l0) x01 0) 0 0)=y10 at wy10 e10
 obtain⟨wx11,wy11,e11⟩:=jJ a1 b1 wx02 wy10
 generalize hx11:aC (aC (aG a.l1 b.l1) x02 0) y10 0=x11 at wx11 e11
 generalize hy11:aT (aT (bn a.l1 b.l1) (aL (aG a.l1 b.l1) x02 0)) (aL (aC (aG a.l1 b.l1) x02 0) y10 0)=y11 at wy11 e11
 obtain⟨wx12,wy12,e12⟩:=jJ a1 b2 wx03 wy11
 generalize hx12:aC (aC (aG a.l1 b.l2) x03 0) y11 0=x12 at wx12 e12
 generalize hy12:aT (aT (bn a.l1 b.l2) (aL (aG a.l1 b.l2) x03 0)) (aL (aC (aG a.l1 b.l2) x03 0) y11 0)=y12 at wy12 e12
 obtain⟨wx13,wy13,e13⟩:=jJ a1 b3 wy03 wy12
 generalize hx13:aC (aC (aG a.l1 b.l3) y03 0) y12 0=x13 at wx13 e13
 generalize hy13:aT (aT (bn a.l1 b.l3) (aL (aG a.l1 b.l3) y03 0)) (aL (aC (aG a.l1 b.l3) y03 0) y12 0)=y13 at wy13 e13
 obtain⟨wx20,wy20,e20⟩:=jJ a2 b0 wx11 su
 generalize hx20:aC (aC (aG a.l2 b.l0) x11 0) 0 0=x20 at wx20 e20
 generalize hy20:aT (aT (bn a.l2 b.l0) (aL (aG a.l2 b.l0) x11 0)) (aL (aC (aG a.l2 b.l0) x11 0) 0 0)=y20 at wy20 e20
 obtain⟨wx21,wy21,e21⟩:=jJ a2 b1 wx12 wy20
 generalize hx21:aC (aC (aG a.l2 b.l1) x12 0) y20 0=x21 at wx21 e21
 generalize hy21:aT (aT (bn a.l2 b.l1) (aL (aG a.l2 b.l1) x12 0)) (aL (aC (aG a.l2 b.l1) x12 0) y20 0)=y21 at wy21 e21
 obtain⟨wx22,wy22,e22⟩:=jJ a2 b2 wx13 wy21
 generalize hx22:aC (aC (aG a.l2 b.l2) x13 0) y21 0=x22 at wx22 e22
 generalize hy22:aT (aT (bn a.l2 b.l2) (aL (aG a.l2 b.l2) x13 0)) (aL (aC (aG a.l2 b.l2) x13 0) y21 0)=y22 at wy22 e22
 obtain⟨wx23,wy23,e23⟩:=jJ a2 b3 wy13 wy22
 generalize hx23:aC (aC (aG a.l2 b.l3) y13 0) y22 0=x23 at wx23 e23
 generalize hy23:aT (aT (bn a.l2 b.l3) (aL (aG a.l2 b.l3) y13 0)) (aL (aC (aG a.l2 b.l3) y13 0) y22 0)=y23 at wy23 e23
 obtain⟨wx30,wy30,e30⟩:=jJ a3 b0 wx21 su
 generalize hx30:aC (aC (aG a.l3 b.l0) x21 0) 0 0=x30 at wx30 e30
 generalize hy30:aT (aT (bn a.l3 b.l0) (aL (aG a.l3 b.l0) x21 0)) (aL (aC (aG a.l3 b.l0) x21 0) 0 0)=y30 at wy30 e30
 obtain⟨wx31,wy31,e31⟩:=jJ a3 b1 wx22 wy30
 generalize hx31:aC (aC (aG a.l3 b.l1) x22 0) y30 0=x31 at wx31 e31
 generalize hy31:aT (aT (bn a.l3 b.l1) (aL (aG a.l3 b.l1) x22 0)) (aL (aC (aG a.l3 b.l1) x22 0) y30 0)=y31 at wy31 e31
 obtain⟨wx32,wy32,e32⟩:=jJ a3 b2 wx23 wy31
 generalize hx32:aC (aC (aG a.l3 b.l2) x23 0) y31 0=x32 at wx32 e32
 generalize hy32:aT (aT (bn a.l3 b.l2) (aL (aG a.l3 b.l2) x23 0)) (aL (aC (aG a.l3 b.l2) x23 0) y31 0)=y32 at wy32 e32
 obtain⟨wx33,wy33,e33⟩:=jJ a3 b3 wy23 wy32
 generalize hx33:aC (aC (aG a.l3 b.l3) y23 0) y32 0=x33 at wx33 e33
 generalize hy33:aT (aT (bn a.l3 b.l3) (aL (aG a.l3 b.l3) y23 0)) (aL (aC (aG a.l3 b.l3) y23 0) y32 0)=y33 at wy33 e33
 obtain⟨wl0,wg0,f0⟩:=yQ wx31 su (by decide)
 generalize hl0:aC (aG x31 38) 0 0=l0 at wl0 f0
 generalize hg0:aT (bn x31 38) (aL (aG x31 38) 0 0)=g0 at wg0 f0
 have wg0':Word g0:=⟨wg0.1,by omega⟩
 obtain⟨d0,wo0,q0⟩:=iJ wx00 wl0 (.inl rfl)
 generalize ho0:aC x00 l0 0=o0 at wo0 q0
 generalize hc0:aL x00 l0 0=c0 at d0 q0
 obtain⟨wl1,wg1,f1⟩:=yQ wx32 wg0' wg0.2
 generalize hl1:aC (aG x32 38) g0 0=l1 at wl1 f1
 generalize hg1:aT (bn x32 38) (aL (aG x32 38) g0 0)=g1 at wg1 f1
 have wg1':Word g1:=⟨wg1.1,by omega⟩
 obtain⟨d1,wo1,q1⟩:=iJ wx10 wl1 d0
 generalize ho1:aC x10 l1 c0=o1 at wo1 q1
 generalize hc1:aL x10 l1 c0=c1 at d1 q1
 obtain⟨wl2,wg2,f2⟩:=yQ wx33 wg1' wg1.2
 generalize hl2:aC (aG x33 38) g1 0=l2 at wl2 f2
 generalize hg2:aT (bn x33 38) (aL (aG x33 38) g1 0)=g2 at wg2 f2
 have wg2':Word g2:=⟨wg2.1,by omega⟩
 obtain⟨d2,wo2,q2⟩:=iJ wx20 wl2 d1
 generalize ho2:aC x20 l2 c1=o2 at wo2 q2
 generalize hc2:aL x20 l2 c1=c2 at d2 q2
 obtain⟨wl3,wg3,f3⟩:=yQ wy33 wg2' wg2.2
 generalize hl3:aC (aG y33 38) g2 0=l3 at wl3 f3
 generalize hg3:aT (bn y33 38) (aL (aG y33 38) g2 0)=g3 at wg3 f3
 have wg3':Word g3:=⟨wg3.1,by omega⟩
 obtain⟨d3,wo3,q3⟩:=iJ wx30 wl3 d2
 generalize ho3:aC x30 l3 c2=o3 at wo3 q3
 generalize hc3:aL x30 l3 c2=c3 at d3 q3
 have hg:aT g3 c3=g3+c3:=by rw[nW];omega
 have wg:Word (aT g3 c3):=by rw[hg];unfold Word;omega
 have ok:aj ⟨o0,o1,o2,o3⟩:=⟨wo0,wo1,wo2,wo3⟩
 obtain⟨r1,r2⟩:=foldN_val ok wg
 refine⟨foldN ⟨o0,o1,o2,o3⟩ (aT g3 c3),⟨r1,?_⟩,rtimes_walk a b x00 y00 x01 y01 x02 y02 x03 y03 x10 y10 x11 y11 x12 y12 x13 y13 x20 y20 x21 y21 x22 y22 x23 y23 x30 y30 x31 y31 x32 y32 x33 y33 l0 g0 o0 c0 l1 g1 o1 c1 l2 g2 o2 c2 l3 g3 o3 c3 hx00 hy00 hx01 hy01 hx02 hy02 hx03 hy03 hx10 hy10 hx11 hy11 hx12 hy12 hx13 hy13 hx20 hy20 hx21 hy21 hx22 hy22 hx23 hy23 hx30 hy30 hx31 hy31 hx32 hy32 hx33 hy33 hl0 hg0 ho0 hc0 hl1 hg1 ho1 hc1 hl2 hg2 ho2 hc2 hl3 hg3 ho3 hc3 (dK d0).2 (dK d1).2 (dK d2).2 ok wg⟩
 rw[r2,hg]
 have hV:N4V a*N4V b=(a.l0*b.l0+18446744073709551616*(a.l0*b.l1)+340282366920938463463374607431768211456*(a.l0*b.l2)+6277101735386680763835789423207666416102355444464034512896*(a.l0*b.l3))
   +18446744073709551616*(a.l1*b.l0+18446744073709551616*(a.l1*b.l1)+340282366920938463463374607431768211456*(a.l1*b.l2)+6277101735386680763835789423207666416102355444464034512896*(a.l1*b.l3))
   +340282366920938463463374607431768211456*(a.l2*b.l0+18446744073709551616*(a.l2*b.l1)+340282366920938463463374607431768211456*(a.l2*b.l2)+6277101735386680763835789423207666416102355444464034512896*(a.l2*b.l3))
   +6277101735386680763835789423207666416102355444464034512896*(a.l3*b.l0+18446744073709551616*(a.l3*b.l1)+340282366920938463463374607431768211456*(a.l3*b.l2)+6277101735386680763835789423207666416102355444464034512896*(a.l3*b.l3))
   :=by unfold N4V;grind
 rw[hV]
 generalize a.l0*b.l0=p00 at*
 generalize a.l0*b.l1=p01 at*
 generalize a.l0*b.l2=p02 at*
 generalize a.l0*b.l3=p03 at*
 generalize a.l1*b.l0=p10 at*
 generalize a.l1*b.l1=p11 at*
 generalize a.l1*b.l2=p12 at*
 generalize a.l1*b.l3=p13 at*
 generalize a.l2*b.l0=p20 at*
 generalize a.l2*b.l1=p21 at*
 generalize a.l2*b.l2=p22 at*
 generalize a.l2*b.l3=p23 at*
 generalize a.l3*b.l0=p30 at*
 generalize a.l3*b.l1=p31 at*
 generalize a.l3*b.l2=p32 at*
 generalize a.l3*b.l3=p33 at*
 clear hV hx00 hy00 hx01 hy01 hx02 hy02 hx03 hy03 hx10 hy10 hx11 hy11 hx12 hy12 hx13 hy13 hx20 hy20 hx21 hy21 hx22 hy22 hx23 hy23 hx30 hy30 hx31 hy31 hx32 hy32 hx33 hy33 hl0 hg0 ho0 hc0 hl1 hg1 ho1 hc1 hl2 hg2 ho2 hc2 hl3 hg3 ho3 hc3
 rw[eqm]
 refine⟨-2*(g3+c3+x31+18446744073709551616*x32+340282366920938463463374607431768211456*x33+6277101735386680763835789423207666416102355444464034512896*y33),?_⟩
 unfold N4V pP
 simp only
 omega
open Classical in
noncomputable def aU (a b:N4):N4:=if h:aj a∧aj b then Classical.choose (zT a b h.1 h.2) else a
theorem je {a b:N4} (ha:aj a) (hb:aj b):aj (aU a b)∧N4V (aU a b)%pP=(N4V a*N4V b)%pP:=by
 unfold aU
 rw[dif_pos ⟨ha,hb⟩]
 exact(Classical.choose_spec (zT a b ha hb)).1
theorem rtimes_fn (a b:N4) (hp:Holds [aj a,aj b]):ay Tryz.prog GX 101 [cN4.enc a,cN4.enc b] (cN4.enc (aU a b)):=by
 unfold aU
 rw[dif_pos ⟨hp.1,hp.2.1⟩]
 exact(Classical.choose_spec (zT a b hp.1 hp.2.1)).2
noncomputable def jf:Con Tryz.prog GX:=jA 101 Tryz.f101 Tryz.func101 (by kernel_rfl) (by kernel_rfl) (cN4) (cN4) (fun a b=>cN4.enc (aU a b)) (fun a b=>[aj a,aj b]) (fun _ _=>rfl) (fun a b h=>rtimes_fn a b h)
def tabL {α:Type} (f:Nat→α):Nat→List α
 | 0=>[]
 | n+1=>f n::tabL f n
def tabR {α:Type} (f:Nat→α):Nat→List α
 | 0=>[]
 | n+1=>f n::tabR f n
theorem jU {α:Type} {f g:Nat→α}:∀{n:Nat},tabL f n=tabR g n→∀j,j<n→f j=g j
 | 0,_,j,hj=>by omega
 | n+1,h,j,hj=>by
  simp only[tabL,tabR,List.cons.injEq] at h
  by_cases hjn:j=n
  ·subst hjn;exact h.1
  ·exact jU h.2 j (by omega)
def at4 (e:N4):Nat→Int
 | 0=>e.l0
 | 1=>e.l1
 | 2=>e.l2
 | _=>e.l3
def jO (e:N4) (j:Nat):Bool:=(gu (eB (at4 e (j/64)) (j%64)) 1)==1
noncomputable def powS (a e:N4):Nat→N4→N4
 | 0,o=>o
 | k+1,o=>powS a e k (match jO e k with
  | true=>aU (aU o o) a
  | false=>aU o o)
def d9:N4:=⟨1,0,0,0⟩
noncomputable def powN (a e:N4):N4:=powS a e 256 d9
namespace power
noncomputable abbrev fn:=Tryz.f134
noncomputable def body:Code:=bZ fn
noncomputable def A:Code:=cs1 body
noncomputable def B:Code:=cs1 (cs2 body)
noncomputable def C:Code:=cs1 (cs1 (cs2 (cs2 body)))
noncomputable def L:Code:=cL (cB (cs2 (cs1 (cs2 (cs2 body)))))
noncomputable def D:Code:=cs2 (cs2 (cs2 body))
theorem dX:body= .seq A (.seq B (.seq (.seq C (.block 0 (.loop L))) D)):=by kernel_rfl
noncomputable def Γ:Cons Tryz.prog GX:=[kF,jf]
structure X where
 k:Nat
 o:N4
 g:Nat→SV
noncomputable def S (a e : N4) (x : X) : List SV × List Blk :=
  (
   [cN4.enc a, cN4.enc e, .o (.a (.ptr 0 0)), .o (.a (.ptr 1 0)), .o (.a (.ptr 2 0)), .o (.a (.ptr 3 0)), (av .i64).enc ((x.k : Int) - 1), cN4.enc d9, x.g 8, x.g 9, x.g 10, x.g 11, x.g 12, x.g 13, x.g 14, x.g 15, x.g 16, x.g 17, x.g 18, x.g 19, x.g 20, x.g 21, x.g 22, x.g 23, x.g 24, x.g 25, x.g 26, x.g 27, dB],
   [⟨true, 82, cN4.row a⟩, ⟨true, 82, cN4.row e⟩, ⟨true, 82, cN4.row ⟨0, 0, 0, 0⟩⟩, ⟨true, 82, cN4.row x.o⟩])
noncomputable def st (a e:N4) (x:X) (o:Orc):St:=⟨(S a e x).1,(S a e x).2,o⟩
noncomputable def s0 (a e:N4):St:=⟨aH fn [cN4.enc a,cN4.enc e],[],[]⟩
theorem preA (a e:N4):exec Γ tys 100 A (s0 a e)=some (.normal,dz Γ tys 100 A (s0 a e),[]):=by kernel_rfl
theorem preB (a e:N4):exec Γ tys 100 B (dz Γ tys 100 A (s0 a e))=some (.normal,dz Γ tys 100 B (dz Γ tys 100 A (s0 a e)),[]):=by kernel_rfl
theorem preC (a e:N4):exec Γ tys 100 C (dz Γ tys 100 B (dz Γ tys 100 A (s0 a e)))=some (.normal,st a e ⟨256,d9,fun _=>dB⟩ [],[]):=by kernel_rfl
section
variable (a e o:N4) (g:Nat→SV)
theorem tab1:tabL (fun j=>exec Γ tys 100 L (st a e ⟨j+1,o,g⟩ [(24,[true])])) 256=
  tabR (fun j=>some (.normal,st a e ⟨j,aU (aU o o) a,outT Γ tys 100 L (st a e ⟨j+1,o,g⟩ [(24,[true])])⟩ [(24,[])],[aj o,aj o,jO e j=true,aj (aU o o),aj a])) 256:=by kernel_rfl
theorem tab0:tabL (fun j=>exec Γ tys 100 L (st a e ⟨j+1,o,g⟩ [(24,[false])])) 256=
  tabR (fun j=>some (.normal,st a e ⟨j,aU o o,outT Γ tys 100 L (st a e ⟨j+1,o,g⟩ [(24,[false])])⟩ [(24,[])],[aj o,aj o,jO e j=false])) 256:=by kernel_rfl
theorem last:exec Γ tys 100 L (st a e ⟨0,o,g⟩ [])=
  some (.exit 0,st a e ⟨0,o,outT Γ tys 100 L (st a e ⟨0,o,g⟩ [])⟩ [],[]):=by kernel_rfl
noncomputable def fin:St:=dz Γ tys 100 D (st a e ⟨0,o,g⟩ [])
theorem post:exec Γ tys 100 D (st a e ⟨0,o,g⟩ [])=some (.ret,fin a e o g,[]):=by kernel_rfl
theorem result:eRes tys (fin a e o g).tm (fun k=>(fin a e o g).mem[k]?) fn.results.toList=some [.g (cN4.row o)]:=by kernel_rfl
end
end power
theorem rpower_fn (a e:N4) (hp:Holds [aj a]):ay Tryz.prog GX 134 [cN4.enc a,cN4.enc e] (cN4.enc (powN a e)):=by
 have ha:aj a:=hp.1
 refine ay.u7 ah Tryz.func134 (c:=power.body) (by kernel_rfl) ?_ rfl rfl
 rw[power.dX]
 refine Runs.seq (Runs.aQ ah mixed (power.preA a e) trivial ?_)
 refine Runs.seq (Runs.aQ ah mixed (power.preB a e) trivial ?_)
 refine Runs.seq (Runs.seq (Runs.aQ ah mixed (power.preC a e) trivial ?_))
 refine Runs.block ?_
 refine Runs.loop (power.S a e) (fun x=>x.k≤256∧aj x.o∧powS a e x.k x.o=powN a e) (fun x=>x.k) ?_ ⟨256,d9,fun _=>dB⟩ ⟨Nat.le_refl _,by unfold aj Word;decide,rfl⟩
 rintro⟨k,o,g⟩ ⟨hk,ho,hr⟩
 cases k with
 | zero=>
  refine Runs.aQ ah mixed (power.last a e o g) trivial ?_
  show Runs Tryz.prog GX power.D _ _ _
  refine Runs.aQ ah mixed (power.post a e o _) trivial (Ends.ret (power.result a e o _) ?_)
  rw[←hr]
  rfl
 | succ k=>
  have hoo:=je ho ho
  cases hb:jO e k with
  | true=>
   refine Runs.aQ ah mixed (jU (power.tab1 a e o g) k (by simp only at hk;omega)) ⟨ho,ho,hb,hoo.1,ha,trivial⟩ ?_
   refine⟨_,rfl,⟨by simp only at hk ⊢;omega,(je hoo.1 ha).1,?_⟩,Nat.lt_succ_self _⟩
   rw[←hr]
   simp only[powS,hb]
  | false=>
   refine Runs.aQ ah mixed (jU (power.tab0 a e o g) k (by simp only at hk;omega)) ⟨ho,ho,hb,trivial⟩ ?_
   refine⟨_,rfl,⟨by simp only at hk ⊢;omega,hoo.1,?_⟩,Nat.lt_succ_self _⟩
   rw[←hr]
   simp only[powS,hb]
noncomputable def yB:Con Tryz.prog GX:=jA 134 Tryz.f134 Tryz.func134 (by kernel_rfl) (by kernel_rfl) (cN4) (cN4) (fun a e=>cN4.enc (powN a e)) (fun a e=>[aj a]) (fun _ _=>rfl) (fun a e h=>rpower_fn a e h)
def wH (e:N4):Nat→Nat
 | 0=>0
 | k+1=>wH e k+cond (jO e k) (2^k) 0
theorem sqI (x:Int):x^2=x*x:=by rw[Int.pow_succ,Int.pow_one]
theorem powS_val {a e:N4} (ha:aj a):∀(k:Nat) (o:N4),aj o→aj (powS a e k o)∧N4V (powS a e k o)%pP=(N4V o^2^k*N4V a^wH e k)%pP
 | 0,o,ho=>⟨ho,by simp only[powS,wH,Nat.pow_zero,Int.pow_one,Int.pow_zero,Int.mul_one]⟩
 | k+1,o,ho=>by
  have hoo:=je ho ho
  unfold powS wH
  cases hb:jO e k with
  | true=>
   have h1:=je hoo.1 ha
   obtain⟨h2,h3⟩:=powS_val ha k _ h1.1
   refine⟨h2,?_⟩
   simp only[cond_true]
   have e1:N4V (aU (aU o o) a)%pP=(N4V o*N4V o*N4V a)%pP:=by rw[h1.2,←mV,hoo.2,mV]
   rw[h3,←mV,l5,e1,←l5,mV]
   congr 1
   rw[Int.mul_pow,Nat.pow_succ,Nat.mul_comm,Int.pow_mul,sqI,Int.pow_add,Int.mul_assoc,Int.mul_comm (N4V a^2^k)]
  | false=>
   obtain⟨h2,h3⟩:=powS_val ha k _ hoo.1
   refine⟨h2,?_⟩
   simp only[cond_false,Nat.add_zero]
   rw[h3,←mV,l5,hoo.2,←l5,mV]
   congr 1
   rw[Nat.pow_succ,Nat.mul_comm,Int.pow_mul,sqI]
theorem powN_val {a e:N4} (ha:aj a) {E:Nat} (hE:wH e 256=E):aj (powN a e)∧N4V (powN a e)%pP=N4V a^E%pP:=by
 obtain⟨h1,h2⟩:=powS_val (e:=e) ha 256 d9 (by unfold aj Word;decide)
 refine⟨h1,?_⟩
 have e1:N4V d9=1:=by decide
 unfold powN
 rw[h2,hE,e1,Int.one_pow,Int.one_mul]
def eInv:N4:=⟨subU 18446744073709551597 2,18446744073709551615,18446744073709551615,9223372036854775807⟩
def eRoot:N4:=⟨18446744073709551614,18446744073709551615,18446744073709551615,1152921504606846975⟩
theorem eInv_sum:wH eInv 256=pN-2:=by kernel_rfl
theorem eRoot_sum:wH eRoot 256=K58+1:=by kernel_rfl
noncomputable def jc (a:N4):N4:=powN a eInv
theorem invN_val {a:N4} (ha:aj a):aj (jc a)∧N4V (jc a)%pP=N4V a^(pN-2)%pP:=powN_val ha eInv_sum
theorem rinverse_fn (a:N4) (hp:Holds [aj a]):ay Tryz.prog GX 105 [cN4.enc a] (cN4.enc (jc a)):=
 ay.aD (Γ:=[rp_con,yB]) ah mixed Tryz.func105 (n:=100) (orc:=[]) (cs:=[aj a]) (by kernel_rfl) hp rfl rfl
noncomputable def kP:Con Tryz.prog GX:=fQ 105 Tryz.f105 Tryz.func105 (by kernel_rfl) (by kernel_rfl) (cN4) (fun a=>cN4.enc (jc a)) (fun a=>[aj a]) (fun _=>rfl) (fun a h=>rinverse_fn a h)
def sameN (a b:N4):Bool:=eqI (bX a).to (bX b).to
theorem rsame_fn (a b:N4) (hp:Holds [aj a,aj b]):ay Tryz.prog GX 135 [cN4.enc a,cN4.enc b] (aY.enc (sameN a b)):=
 ay.aD (Γ:=[iL]) ah mixed Tryz.func135 (n:=100) (orc:=[]) (cs:=[aj a,aj b]) (by kernel_rfl) hp rfl rfl
noncomputable def rsame_con:Con Tryz.prog GX:=jA 135 Tryz.f135 Tryz.func135 (by kernel_rfl) (by kernel_rfl) (cN4) (cN4) (fun a b=>aY.enc (sameN a b)) (fun a b=>[aj a,aj b]) (fun _ _=>rfl) (fun a b h=>rsame_fn a b h)
theorem N4V_inj {a b:N4} (ha:aj a) (hb:aj b) (h:N4V a=N4V b):a=b:=by
 obtain⟨⟨a0,a1⟩,⟨a2,a3⟩,⟨a4,a5⟩,⟨a6,a7⟩⟩:=ha
 obtain⟨⟨b0,b1⟩,⟨b2,b3⟩,⟨b4,b5⟩,⟨b6,b7⟩⟩:=hb
 unfold N4V at h
 obtain⟨x0,x1,x2,x3⟩:=a
 obtain⟨y0,y1,y2,y3⟩:=b
 simp only[N4.mk.injEq] at*
 omega
theorem zq (a:N4):a.to.length=4:=rfl
theorem N4to_inj {a b:N4} (h:a.to=b.to):a=b:=by
 obtain⟨a0,a1,a2,a3⟩:=a
 obtain⟨b0,b1,b2,b3⟩:=b
 simp only[N4.to,List.cons.injEq,and_true] at h
 simp only[N4.mk.injEq]
 exact h
theorem sameN_iff {a b:N4} (ha:aj a) (hb:aj b):sameN a b=true↔N4V a%pP=N4V b%pP:=by
 obtain⟨h1,h2,h3⟩:=sW ha
 obtain⟨k1,k2,k3⟩:=sW hb
 unfold sameN
 rw[eqI_iff (bX a).to (bX b).to (by rw[zq,zq])]
 constructor
 ·intro h
  rw[←h3,N4to_inj h,k3]
 ·intro h
  rw[N4V_inj h1 k1 (by rw[h3,h,k3])]
noncomputable def rt0 (a:N4):N4:=powN a eRoot
noncomputable def rt1 (a:N4):N4:=match sameN (aU (rt0 a) (rt0 a)) a with
 | true=>rt0 a
 | false=>aU (rt0 a) i4
noncomputable def rtOk (a:N4):Bool:=sameN (aU (rt1 a) (rt1 a)) a
theorem rt0_val {a:N4} (ha:aj a):aj (rt0 a)∧N4V (rt0 a)%pP=nK (N4V a) 1%pP:=by
 obtain⟨h1,h2⟩:=powN_val ha eRoot_sum
 refine⟨h1,?_⟩
 unfold rt0 nK
 rw[h2,Int.pow_succ,Int.mul_comm]
 congr 1
 simp only[Int.mul_one]
theorem i4_ok:aj i4:=by unfold aj Word;decide
theorem i4_sq:N4V i4*N4V i4%pP=(-1)%pP:=by decide
theorem rt1_val {a:N4} (ha:aj a):aj (rt1 a)∧((∃r:Int,r*r%pP=N4V a%pP)→N4V (rt1 a)*N4V (rt1 a)%pP=N4V a%pP):=by
 obtain⟨h1,h2⟩:=rt0_val ha
 obtain⟨h3,h4⟩:=je h1 h1
 have hs:=sameN_iff h3 ha
 unfold rt1
 cases hb:sameN (aU (rt0 a) (rt0 a)) a with
 | true=>exact⟨h1,fun _=>by rw[←h4];exact hs.1 hb⟩
 | false=>
  obtain⟨h5,h6⟩:=je h1 i4_ok
  refine⟨h5,?_⟩
  rintro⟨r,hr⟩
  have hq:=root0_ok (x:=N4V a) (y:=1) (r:=r) (by decide) (by rw[Int.one_mul];exact hr)
  rw[Int.one_mul] at hq
  have e:N4V (rt0 a)*N4V (rt0 a)%pP=nK (N4V a) 1*nK (N4V a) 1%pP:=by rw[Int.mul_emod,h2,←Int.mul_emod]
  rcases hq with hq | hq
  ·rw[hs.2 (by rw[h4,e,hq])] at hb;cases hb
  ·simp only
   rw[Int.mul_emod,h6,←Int.mul_emod]
   have e2:N4V (rt0 a)*N4V i4*(N4V (rt0 a)*N4V i4)=N4V (rt0 a)*N4V (rt0 a)*(N4V i4*N4V i4):=by grind
   rw[e2,Int.mul_emod,e,hq,i4_sq,←Int.mul_emod]
   congr 1
   omega
theorem rtOk_iff {a:N4} (ha:aj a):rtOk a=true↔N4V (rt1 a)*N4V (rt1 a)%pP=N4V a%pP:=by
 obtain⟨h1,_⟩:=rt1_val ha
 obtain⟨h3,h4⟩:=je h1 h1
 have:=sameN_iff h3 ha
 rw[h4] at this
 exact this
noncomputable def gP (a:N4) (b:Bool):SV:= .t [.g (cN4.row a),.a (iO b)]
theorem rroot_fn (a : N4) (hp : Holds [aj a]) : ay Tryz.prog GX 102 [cN4.enc a] (gP (bX (rt1 a)) (rtOk a)) := by
  have ha : aj a := hp.1
  obtain ⟨h1, h2⟩ := rt0_val ha
  obtain ⟨h3, h4⟩ := je h1 h1
  have h5 := je h1 i4_ok
  have h6 := rt1_val ha
  have h7 := je h6.1 h6.1
  unfold rtOk
  unfold rt1 at h6 h7 ⊢
  cases hb : sameN (aU (rt0 a) (rt0 a)) a with
  | true =>
    exact ay.aD (Γ := [yB, jf, rsame_con, rI_con, iL]) ah mixed Tryz.func102 (n := 100) (orc := [(12, [true])])
     (cs := [aj a, aj (rt0 a), aj (rt0 a), aj (aU (rt0 a) (rt0 a)), aj a, sameN (aU (rt0 a) (rt0 a)) a = true, aj (rt0 a), aj (rt0 a), aj (rt0 a), aj (aU (rt0 a) (rt0 a)), aj a]) (by kernel_rfl)
     ⟨ha, h1, h1, h3, ha, hb, h1, h1, h1, h3, ha, trivial⟩ rfl rfl
  | false =>
    rw [hb] at h7
    exact ay.aD (Γ := [yB, jf, rsame_con, rI_con, iL]) ah mixed Tryz.func102 (n := 100) (orc := [(12, [false])])
     (cs := [aj a, aj (rt0 a), aj (rt0 a), aj (aU (rt0 a) (rt0 a)), aj a, sameN (aU (rt0 a) (rt0 a)) a = false, aj (rt0 a), aj i4, aj (aU (rt0 a) i4), aj (aU (rt0 a) i4), aj (aU (rt0 a) i4),
       aj (aU (aU (rt0 a) i4) (aU (rt0 a) i4)), aj a]) (by kernel_rfl)
     ⟨ha, h1, h1, h3, ha, hb, h1, i4_ok, h5.1, h5.1, h5.1, h7.1, ha, trivial⟩ rfl rfl
noncomputable def qg:Con Tryz.prog GX:=fQ 102 Tryz.f102 Tryz.func102 (by kernel_rfl) (by kernel_rfl) (cN4) (fun a=>gP (bX (rt1 a)) (rtOk a)) (fun a=>[aj a]) (fun _=>rfl) (fun a h=>rroot_fn a h)
theorem uO {b:B32} (h:BOk b):aj (dM b)∧N4V (dM b)=VB b:=by
 have key:∀k,word8R b k=lS b k:=fun k=>by
  have h7:=h (k+7)
  have h6:=h (k+6)
  have h5:=h (k+5)
  have h4:=h (k+4)
  have h3:=h (k+3)
  have h2:=h (k+2)
  have h1:=h (k+1)
  have h0:=h (k+0)
  unfold word8R lS
  simp only[xJ,wrap64]
  generalize b.at (k+7)=z7 at*
  generalize b.at (k+6)=z6 at*
  generalize b.at (k+5)=z5 at*
  generalize b.at (k+4)=z4 at*
  generalize b.at (k+3)=z3 at*
  generalize b.at (k+2)=z2 at*
  generalize b.at (k+1)=z1 at*
  generalize b.at (k+0)=z0 at*
  unfold Byte at*
  have s0:orU 0 (z0%18446744073709551616*2^(8*0)%18446744073709551616)=z0:=by
   rw[ko,kC 0 _ _ (by omega) (by omega) (by omega) (by omega) (by omega) (by omega)];omega
  have s1:∀acc:Int,0≤acc→acc<256→orU acc (z1%18446744073709551616*2^(8*1)%18446744073709551616)=acc+256*z1:=fun acc a0 a1=>by
   rw[ko,kC 8 _ _ (by omega) (by omega) (by omega) (by omega) (by omega) (by omega)];omega
  have s2:∀acc:Int,0≤acc→acc<65536→orU acc (z2%18446744073709551616*2^(8*2)%18446744073709551616)=acc+65536*z2:=fun acc a0 a1=>by
   rw[ko,kC 16 _ _ (by omega) (by omega) (by omega) (by omega) (by omega) (by omega)];omega
  have s3:∀acc:Int,0≤acc→acc<16777216→orU acc (z3%18446744073709551616*2^(8*3)%18446744073709551616)=acc+16777216*z3:=fun acc a0 a1=>by
   rw[ko,kC 24 _ _ (by omega) (by omega) (by omega) (by omega) (by omega) (by omega)];omega
  have s4:∀acc:Int,0≤acc→acc<4294967296→orU acc (z4%18446744073709551616*2^(8*4)%18446744073709551616)=acc+4294967296*z4:=fun acc a0 a1=>by
   rw[ko,kC 32 _ _ (by omega) (by omega) (by omega) (by omega) (by omega) (by omega)];omega
  have s5:∀acc:Int,0≤acc→acc<1099511627776→orU acc (z5%18446744073709551616*2^(8*5)%18446744073709551616)=acc+1099511627776*z5:=fun acc a0 a1=>by
   rw[ko,kC 40 _ _ (by omega) (by omega) (by omega) (by omega) (by omega) (by omega)];omega
  have s6:∀acc:Int,0≤acc→acc<281474976710656→orU acc (z6%18446744073709551616*2^(8*6)%18446744073709551616)=acc+281474976710656*z6:=fun acc a0 a1=>by
   rw[ko,kC 48 _ _ (by omega) (by omega) (by omega) (by omega) (by omega) (by omega)];omega
  have s7:∀acc:Int,0≤acc→acc<72057594037927936→orU acc (z7%18446744073709551616*2^(8*7)%18446744073709551616)=acc+72057594037927936*z7:=fun acc a0 a1=>by
   rw[ko,kC 56 _ _ (by omega) (by omega) (by omega) (by omega) (by omega) (by omega)];omega
  rw[s0,s1 _ (by omega) (by omega),s2 _ (by omega) (by omega),s3 _ (by omega) (by omega),s4 _ (by omega) (by omega),s5 _ (by omega) (by omega),s6 _ (by omega) (by omega),s7 _ (by omega) (by omega)]
  omega
 have q:∀k,Word (lS b k):=fun k=>by
  have h7:=h (k+7)
  have h6:=h (k+6)
  have h5:=h (k+5)
  have h4:=h (k+4)
  have h3:=h (k+3)
  have h2:=h (k+2)
  have h1:=h (k+1)
  have h0:=h (k+0)
  unfold lS Word
  unfold Byte at*
  omega
 unfold dM
 rw[key,key,key,key]
 refine⟨⟨q _,q _,q _,q _⟩,?_⟩
 unfold N4V VB lS B32.at
 simp only
 omega
theorem gy:aj ⟨0,0,0,0⟩:=by unfold aj Word;decide
theorem canB_iff {a:B32} (ha:BOk a):canB a=true↔VB a<pP:=by
 have h:=(Is.of ha).bytes
 have h0:0≤VB a:=by
  have:=(uO ha)
  rw[←this.2]
  exact(jH this.1).1
 constructor
 ·intro hc
  unfold canB at hc
  rw[rZ] at hc
  rw[←hc,h.2]
  exact Int.emod_lt_of_pos _ (by decide)
 ·intro hlt
  exact can_of ha (Int.emod_eq_of_lt h0 hlt)
theorem l0_par {n:N4} (h:aj n):n.l0%2=N4V n%2:=by
 unfold N4V
 omega
end Go.Proofs.YthlmepolmemejaaGreatDoor

/- Packages scalar, eddsa: Canonical, Verify. -/
import Derived.Test.YthlmepolmemejaaGreatDoorKME
import Derived.Test.YthlmepolmemejaaGreatDoorKMF
set_option linter.unusedSimpArgs false
set_option linter.unusedVariables false
namespace Go.Proofs.YthlmepolmemejaaGreatDoor
open Go Go.Eng Go.RowKit
set_option maxRecDepth 100000
noncomputable def canV (b:B32):Bool:=eqB (fO (fJ b.at 4 4)) b
theorem scanon_ex (b:B32) (v:N4) (d:B32) (t:Bool):eT [Af,Bc] tys Tryz.f45 100 [ak.enc b] [(4,[.s (cN4.enc v)]),(5,[.s (ak.enc d)]),(7,[.b t])]=some (aV.enc t,[∀i,0≤b.at i∧b.at i<256,cN4.enc (fJ b.at 4 4)=cN4.enc v,ak.enc (fO v)=ak.enc d,eqB d b=t]):=by kernel_rfl
theorem scanon_fn (b:B32) (h:∀i,0≤b.at i∧b.at i<256):ay Tryz.prog G2 45 [ak.enc b] (aV.enc (canV b)):=
 ay.aB ah mixed Tryz.func45 (scanon_ex b (fJ b.at 4 4) (fO (fJ b.at 4 4)) (canV b)) ⟨h,rfl,rfl,rfl,trivial⟩ rfl rfl
noncomputable def scanon_con:Con Tryz.prog G2:=fU 45 Tryz.f45 Tryz.func45 (by kernel_rfl) (by kernel_rfl) ak (fun b=>aV.enc (canV b)) (fun b=>[∀i,0≤b.at i∧b.at i<256]) (fun _=>rfl) (fun b h=>scanon_fn b h.1)
def mh (D:B64):B32:=⟨D.b0,D.b1,D.b2,D.b3,D.b4,D.b5,D.b6,D.b7,D.b8,D.b9,D.b10,D.b11,D.b12,D.b13,D.b14,D.b15,D.b16,D.b17,D.b18,D.b19,D.b20,D.b21,D.b22,D.b23,D.b24,D.b25,D.b26,D.b27,D.b28,D.b29,D.b30,D.b31⟩
def fD (D:B64):B32:=⟨D.b32,D.b33,D.b34,D.b35,D.b36,D.b37,D.b38,D.b39,D.b40,D.b41,D.b42,D.b43,D.b44,D.b45,D.b46,D.b47,D.b48,D.b49,D.b50,D.b51,D.b52,D.b53,D.b54,D.b55,D.b56,D.b57,D.b58,D.b59,D.b60,D.b61,D.b62,D.b63⟩
theorem lo_cat (a b:B32):mh (cat64 a b)=a:=rfl
theorem hi_cat (a b:B32):fD (cat64 a b)=b:=rfl
noncomputable def chkV (b:B32) (m:List Int) (D:B64):B32:=gu (bf [(mh D).to,b.to,m])
noncomputable def verB (b:B32) (m:List Int) (D:B64):B32:=jH (pW (gW qb (fD D)) (gW (negP (decP b)) (chkV b m D)))
noncomputable def lg (b:B32) (m:List Int) (D:B64):Int:=
 bif !dG b then 2 else bif eqB (jH (clrP (decP b))) iH then 2 else bif !canV (fD D) then 2 else bif eqB (verB b m D) (mh D) then 0 else 3
namespace ver
noncomputable abbrev fn:=Tryz.f28
noncomputable def body:Code:=cu fn
section
variable (H:List Int→B32) (hH:H=gu)
noncomputable def Γ:Cons Tryz.prog G2:=[pof_con.lift jr,wI.lift jr,xS.lift jr,scanon_con,hash_con H hH,pointB_con.lift jr,ptimes_con.lift jr,pminus_con.lift jr,pplus_con.lift jr,zl.lift jr]
theorem exwa (b:B32) (D:B64) (P:P20) (ys:List Int) (n c:Nat) (ty:TypeId):jd (Γ H hH) tys fn 100 [⟨false,ty,.pre .u8 ys⟩] [ak.enc b,.o (.a (.sld 0 0 0 n c)),bX.enc D] [(20,[.s (jY P false)])]=some ((av .i64).enc 2,[jY (decP b) (dG b)=jY P false]):=by kernel_rfl
theorem exwb (b:B32) (D:B64) (P C:P20) (ys:List Int) (n c:Nat) (ty:TypeId):jd (Γ H hH) tys fn 100 [⟨false,ty,.pre .u8 ys⟩] [ak.enc b,.o (.a (.sld 0 0 0 n c)),bX.enc D] [(20,[.s (jY P true)]),(27,[.s (cP.enc C)]),(28,[.s (aV.enc true)])]=some ((av .i64).enc 2,[jY (decP b) (dG b)=jY P true,cP.enc (clrP P)=cP.enc C,aV.enc (eqB (jH C) iH)=aV.enc true]):=by kernel_rfl
theorem exwc (b:B32) (D:B64) (P C:P20) (ys:List Int) (n c:Nat) (ty:TypeId):jd (Γ H hH) tys fn 100 [⟨false,ty,.pre .u8 ys⟩] [ak.enc b,.o (.a (.sld 0 0 0 n c)),bX.enc D] [(20,[.s (jY P true)]),(27,[.s (cP.enc C)]),(28,[.s (aV.enc false)]),(32,[.s (aV.enc false)])]=some ((av .i64).enc 2,[jY (decP b) (dG b)=jY P true,cP.enc (clrP P)=cP.enc C,aV.enc (eqB (jH C) iH)=aV.enc false,∀i,0≤(fD D).at i∧(fD D).at i<256,aV.enc (canV (fD D))=aV.enc false]):=by kernel_rfl
theorem exwd (b:B32) (D:B64) (P C T N M S:P20) (k E:B32) (ys:List Int) (n c:Nat) (ty:TypeId):jd (Γ H hH) tys fn 100 [⟨false,ty,.pre .u8 ys⟩] [ak.enc b,.o (.a (.sld 0 0 0 n c)),bX.enc D] [(20,[.s (jY P true)]),(27,[.s (cP.enc C)]),(28,[.s (aV.enc false)]),(32,[.s (aV.enc true)]),(39,[.s (ak.enc k)]),(42,[.s (cP.enc T)]),(44,[.s (cP.enc N)]),(46,[.s (cP.enc M)]),(47,[.s (cP.enc S)]),(48,[.s (ak.enc E)]),(50,[.b true])]=some ((av .i64).enc 3,[jY (decP b) (dG b)=jY P true,cP.enc (clrP P)=cP.enc C,aV.enc (eqB (jH C) iH)=aV.enc false,∀i,0≤(fD D).at i∧(fD D).at i<256,aV.enc (canV (fD D))=aV.enc true,32≤32,32≤32,0+n≤ys.length,0<([(mh D).to,b.to,((ys.drop 0).take n)].headD []).length,(bf [(mh D).to,b.to,((ys.drop 0).take n)]).length≤140737488355328,ak.enc (H (bf [(mh D).to,b.to,((ys.drop 0).take n)]))=ak.enc k,Nib (fD D),cP.enc (gW qb (fD D))=cP.enc T,cP.enc (negP P)=cP.enc N,Nib k,cP.enc (gW N k)=cP.enc M,cP.enc (pW T M)=cP.enc S,ak.enc (jH S)=ak.enc E,(!eqB E (mh D))=true]):=by kernel_rfl
theorem exwe (b:B32) (D:B64) (P C T N M S:P20) (k E:B32) (ys:List Int) (n c:Nat) (ty:TypeId):jd (Γ H hH) tys fn 100 [⟨false,ty,.pre .u8 ys⟩] [ak.enc b,.o (.a (.sld 0 0 0 n c)),bX.enc D] [(20,[.s (jY P true)]),(27,[.s (cP.enc C)]),(28,[.s (aV.enc false)]),(32,[.s (aV.enc true)]),(39,[.s (ak.enc k)]),(42,[.s (cP.enc T)]),(44,[.s (cP.enc N)]),(46,[.s (cP.enc M)]),(47,[.s (cP.enc S)]),(48,[.s (ak.enc E)]),(50,[.b false])]=some ((av .i64).enc 0,[jY (decP b) (dG b)=jY P true,cP.enc (clrP P)=cP.enc C,aV.enc (eqB (jH C) iH)=aV.enc false,∀i,0≤(fD D).at i∧(fD D).at i<256,aV.enc (canV (fD D))=aV.enc true,32≤32,32≤32,0+n≤ys.length,0<([(mh D).to,b.to,((ys.drop 0).take n)].headD []).length,(bf [(mh D).to,b.to,((ys.drop 0).take n)]).length≤140737488355328,ak.enc (H (bf [(mh D).to,b.to,((ys.drop 0).take n)]))=ak.enc k,Nib (fD D),cP.enc (gW qb (fD D))=cP.enc T,cP.enc (negP P)=cP.enc N,Nib k,cP.enc (gW N k)=cP.enc M,cP.enc (pW T M)=cP.enc S,ak.enc (jH S)=ak.enc E,(!eqB E (mh D))=false]):=by kernel_rfl
end
theorem runw (b:B32) (D:B64) (hD:∀i,0≤(fD D).at i∧(fD D).at i<256) (ys:List Int) (n c:Nat) (ty:TypeId) (hy:ys.length=n) (hn:n≤140737488353900):aL Tryz.prog G2 1 body (aF fn [ak.enc b,.o (.a (.sld 0 0 0 n c)),bX.enc D]) [⟨false,ty,.pre .u8 ys⟩] (aM tys fn (bF ((av .i64).enc (lg b ys D)) .none)):=by
 have hb:fn.body=some body:=by kernel_rfl
 have hl:∀q:B32,q.to.length=32:=fun _=>rfl
 have e:=dt0 ys n hy
 unfold lg
 cases h1:dG b with
 | false=>
  rw[Bool.not_false,cond_true]
  exact fq ah mixed hb (exwa gu rfl b D (decP b) ys n c ty) ⟨congrArg (jY _) h1,trivial⟩
 | true=>
  rw[Bool.not_true,cond_false]
  cases h2:eqB (jH (clrP (decP b))) iH with
  | true=>
   rw[cond_true]
   exact fq ah mixed hb (exwb gu rfl b D (decP b) (clrP (decP b)) ys n c ty) ⟨congrArg (jY _) h1,rfl,congrArg aV.enc h2,trivial⟩
  | false=>
   rw[cond_false]
   cases h3:canV (fD D) with
   | false=>
    rw[Bool.not_false,cond_true]
    exact fq ah mixed hb (exwc gu rfl b D (decP b) (clrP (decP b)) ys n c ty) ⟨congrArg (jY _) h1,rfl,congrArg aV.enc h2,hD,congrArg aV.enc h3,trivial⟩
   | true=>
    rw[Bool.not_true,cond_false]
    cases h4:eqB (verB b ys D) (mh D) with
    | true=>
     rw[cond_true]
     exact fq ah mixed hb (exwe gu rfl b D (decP b) (clrP (decP b)) (gW qb (fD D)) (negP (decP b)) (gW (negP (decP b)) (chkV b ys D)) (pW (gW qb (fD D)) (gW (negP (decP b)) (chkV b ys D))) (chkV b ys D) (verB b ys D) ys n c ty) ⟨(congrArg (jY _) h1),(rfl),(congrArg aV.enc h2),(hD),(congrArg aV.enc h3),(by omega),(by omega),(by omega),(by show 0<32;omega),(by simp only[bf,List.length_append,List.length_nil,hl,e];omega),(by rw[e];rfl),(nib_of hD),(rfl),(rfl),(nib_of (qG _)),(rfl),(rfl),(rfl),(by rw[h4];rfl),(trivial)⟩
    | false=>
     rw[cond_false]
     exact fq ah mixed hb (exwd gu rfl b D (decP b) (clrP (decP b)) (gW qb (fD D)) (negP (decP b)) (gW (negP (decP b)) (chkV b ys D)) (pW (gW qb (fD D)) (gW (negP (decP b)) (chkV b ys D))) (chkV b ys D) (verB b ys D) ys n c ty) ⟨(congrArg (jY _) h1),(rfl),(congrArg aV.enc h2),(hD),(congrArg aV.enc h3),(by omega),(by omega),(by omega),(by show 0<32;omega),(by simp only[bf,List.length_append,List.length_nil,hl,e];omega),(by rw[e];rfl),(nib_of hD),(rfl),(rfl),(nib_of (qG _)),(rfl),(rfl),(rfl),(by rw[h4];rfl),(trivial)⟩
def spec (V:B32→List Int→B64→Int):List aW→Option (SV × dx × Cst)
 | [.val v,.win .u8 ys n ty,.val w]=>match ak.dec v with
  | some b=>match bX.dec w with
   | some D=>some ((av .i64).enc (V b ys D),.none,[∀i,0≤(fD D).at i∧(fD D).at i<256,n≤140737488353900])
   | none=>none
  | none=>none
 | _=>none
noncomputable def con (V:B32→List Int→B64→Int) (hV:V=lg):Con Tryz.prog G2:=Con.parts ah 28 fn Tryz.func28 (by kernel_rfl) (c:=body) (by kernel_rfl) [.val,.win .u8,.val] (spec V)
 (fun ps r e p h hp=>by
  unfold spec at h
  split at h
  ·split at h
   ·split at h<;>cases h
    exact⟨rfl,fun b hb=>by simp only[bI,aW.blk,List.nil_append,List.append_nil,List.mem_singleton] at hb;rw[hb]⟩
   ·cases h
  ·cases h)
 (fun ps r e p cap h hp hi=>by
  subst hV
  unfold spec at h
  split at h
  ·split at h
   ·rename_i b hb
    split at h<;>cases h
    rename_i D hD
    have:=ak.ok _ _ hb
    subst this
    have:=bX.ok _ _ hD
    subst this
    exact runw b D hp.1 _ _ _ _ hi.2.1.1 hp.2.1
   ·cases h
  ·cases h)
end ver
open Go Go.Eng
theorem prime2551:bR 2551:=lV 2551 50 (by decide) (by decide) (by kernel_rfl)
theorem prime1224481:bR 1224481:=ni 1224481 2551 480 21 prime2551 (by kernel_rfl) (by kernel_rfl) (by kernel_rfl) (by kernel_rfl) (by kernel_rfl) (by kernel_rfl)
theorem prime531581:bR 531581:=lV 531581 729 (by decide) (by decide) (by kernel_rfl)
theorem yu:bR 1257559732178653:=sK 1257559732178653 1224481 1027014492 531581 2365697292 51 prime1224481 prime531581 (by kernel_rfl) (by kernel_rfl) (by kernel_rfl) (by kernel_rfl) (by kernel_rfl) (by kernel_rfl) (by kernel_rfl) (by kernel_rfl) (by kernel_rfl)
theorem wH:bR 4434155615661930479:=ni 4434155615661930479 1257559732178653 3526 62 yu (by kernel_rfl) (by kernel_rfl) (by kernel_rfl) (by kernel_rfl) (by kernel_rfl) (by kernel_rfl)
theorem sj:bR 172054593956031949258510691:=ni 172054593956031949258510691 4434155615661930479 38802110 88 wH (by kernel_rfl) (by kernel_rfl) (by kernel_rfl) (by kernel_rfl) (by kernel_rfl) (by kernel_rfl)
theorem mJ:bR 19757330305831588566944191468367130476339:=ni 19757330305831588566944191468367130476339 172054593956031949258510691 114831751082918 134 sj (by kernel_rfl) (by kernel_rfl) (by kernel_rfl) (by kernel_rfl) (by kernel_rfl) (by kernel_rfl)
theorem mH:bR 276602624281642239937218680557139826668747:=ni 276602624281642239937218680557139826668747 19757330305831588566944191468367130476339 14 138 mJ (by kernel_rfl) (by kernel_rfl) (by kernel_rfl) (by kernel_rfl) (by kernel_rfl) (by kernel_rfl)
theorem gV:bR 7237005577332262213973186563042994240857116359379907606001950938285454250989:=ni 7237005577332262213973186563042994240857116359379907606001950938285454250989 276602624281642239937218680557139826668747 26163907866482859529727157400808004 253 mH (by kernel_rfl) (by kernel_rfl) (by kernel_rfl) (by kernel_rfl) (by kernel_rfl) (by kernel_rfl)
theorem prime_L:bR ordL:=gV
theorem nC_gcd {p:Pt} (hp:OnC p):∀(a b:Nat),nC p a=oC→nC p b=oC→nC p (Nat.gcd a b)=oC:=by
 intro a b
 induction a,b using Nat.gcd.induction with
 | H0 b=>intro _ h;rw[Nat.gcd_zero_left];exact h
 | H1 a b ha ih=>
  intro h1 h2
  rw[Nat.gcd_rec]
  exact ih (by rw[nC_mod hp h1];exact h2) h1
theorem bC_ne:bC≠oC:=by decide+kernel
theorem dvd_of_mul {k:Nat} (h:nC bC k=oC):ordL∣k:=by
 by_cases hd:ordL∣k
 ·exact hd
 ·have hc:Nat.gcd ordL k=1:=prime_L.coprime hd
  have:=nC_gcd jc ordL k order_L h
  rw[hc,nC_one] at this
  exact absurd this bC_ne
theorem byte_lo:∀n:Fin 256,bits .and .u8 (n.val:Int) 248%8=0:=by decide+kernel
theorem byte_hi:∀n:Fin 256,64≤bits .or .u8 (bits .and .u8 (n.val:Int) 127) 64∧bits .or .u8 (bits .and .u8 (n.val:Int) 127) 64<128:=by decide+kernel
theorem VB_lo (b:B32):∃r:Int,VB b=b.b0+8*r:=by
 refine⟨(VB b-b.b0)/8,?_⟩
 unfold VB
 omega
theorem clamp_num {n:Nat} {v x y r q:Int} (hc:(n:Int)=v) (h1:v=r+452312848583266388373324160190187140051835877600158453279131187530910662656*y) (h2:0≤r) (h3:r<452312848583266388373324160190187140051835877600158453279131187530910662656) (h4:v=x+8*q) (e0:x%8=0) (e1:64≤y∧y<128):
  ∃t:Nat,n=8*t∧0<t∧t<ordL:=by
 refine⟨n/8,?_,?_,?_⟩
 ·clear h1 h2 h3 e1;omega
 ·clear h4 e0;omega
 ·unfold ordL;clear h4 e0;omega
theorem clamp {d:B64} (h:∀i,0≤d.at i∧d.at i<256):∃t:Nat,NV (rW d)=8*t∧0<t∧t<ordL:=by
 have ok:=scalB_ok h
 obtain⟨r,h1,h2,h3⟩:=VB_hi ok
 obtain⟨q,h4⟩:=VB_lo (rW d)
 have e0:(rW d).b0%8=0:=by
  have h0:0≤d.b0∧d.b0<256:=h 0
  have:=byte_lo ⟨d.b0.toNat,by omega⟩
  rwa [show((⟨d.b0.toNat,by omega⟩:Fin 256).val:Int)=d.b0 by show(d.b0.toNat:Int)=d.b0;omega] at this
 have e1:64≤(rW d).b31∧(rW d).b31<128:=by
  have h0:0≤d.b31∧d.b31<256:=h 31
  have:=byte_hi ⟨d.b31.toNat,by omega⟩
  rwa [show((⟨d.b31.toNat,by omega⟩:Fin 256).val:Int)=d.b31 by show(d.b31.toNat:Int)=d.b31;omega] at this
 exact clamp_num (sQ ok) h1 h2 h3 h4 e0 e1
theorem clamp_not {t:Nat} (h0:0<t) (h1:t<ordL) (h:ordL∣8*t*8):False:=by
 have l8:¬ordL∣8:=fun h=>absurd (Nat.le_of_dvd (by decide) h) (by unfold ordL;decide)
 rcases prime_L.dvd_mul h with h | h
 ·rcases prime_L.dvd_mul h with h | h
  ·exact l8 h
  ·exact absurd (Nat.le_of_dvd h0 h) (Nat.not_le.2 h1)
 ·exact l8 h
theorem clamp_big {n t:Nat} (h:n=8*t) (h0:0<t) (h1:t<ordL):nC (nC bC n) 8≠oC:=by
 intro k
 have k2:nC bC (n*8)=oC:=(nC_mul jc n 8).trans k
 rw[h] at k2
 exact clamp_not h0 h1 (dvd_of_mul k2)
theorem Aq:bQ=(ordL:Int):=by decide
theorem byteSum_all {b:B32} (hb:BOk b):nJ b.at 0 32=NV b:=by
 rw[←zL (fun i=>hb i) 32,←bits_NV hb]
 rfl
theorem yX {b:B32} (hb:BOk b):aj (fJ b.at 4 4)∧N4V (fJ b.at 4 4)=VB b%bQ:=by
 obtain⟨h1,h2⟩:=iX (f:=b.at) (fun i=>hb i) 4 4
 refine⟨h1,?_⟩
 rw[h2,Aw (fun i=>hb i) 4 4 (Nat.le_refl _),show 8*(4-4)=0 from rfl,show 8*4=32 from rfl,byteSum_all hb,sQ hb]
theorem zm:0<bQ:=by decide
theorem canV_iff {b:B32} (hb:BOk b):canV b=true↔NV b<ordL:=by
 obtain⟨h1,h2⟩:=yX hb
 have hv:=vT _ h1
 rw[h2] at hv
 have hc:=sQ hb
 have ho:=Aq
 have hp:=zm
 unfold canV
 constructor
 ·intro h
  have e:=(rA _ _).1 h
  rw[e] at hv
  have:=Int.emod_lt_of_pos (VB b) hp
  omega
 ·intro h
  refine eqB_val (xI _) hb ?_
  rw[hv]
  exact Int.emod_eq_of_lt (by omega) (by omega)
theorem smulB_val {a b c:B32} (ha:BOk a) (hb:BOk b) (hc:BOk c):BOk (smulB a b c)∧NV (smulB a b c)=(NV a*NV b+NV c)%ordL:=by
 have hk:BOk (smulB a b c):=xI _
 refine⟨hk,?_⟩
 obtain⟨a1,a2⟩:=yX ha
 obtain⟨b1,b2⟩:=yX hb
 obtain⟨c1,c2⟩:=yX hc
 have bl:N4V (fJ b.at 4 4)<bQ:=by rw[b2];exact Int.emod_lt_of_pos _ zm
 have cl:N4V (fJ c.at 4 4)<bQ:=by rw[c2];exact Int.emod_lt_of_pos _ zm
 obtain⟨m1,m2⟩:=mul0_val a1 b1 bl
 have ml:N4V (mg (fJ a.at 4 4) (fJ b.at 4 4) 256 bE)<bQ:=by rw[m2];exact Int.emod_lt_of_pos _ zm
 have h:VB (smulB a b c)=(VB a*VB b+VB c)%bQ:=by
  unfold smulB smulN
  rw[modN_red (fun i=>ha i),modN_red (fun i=>hb i),modN_red (fun i=>hc i),vT _ (kI m1 c1),sM m1 c1 ml cl,m2,a2,b2,c2,←Int.mul_emod,←Int.add_emod]
 have e:((NV (smulB a b c):Nat):Int)=(((NV a*NV b+NV c)%ordL:Nat):Int):=by
  rw[sQ hk,Int.natCast_emod,Int.natCast_add,Int.natCast_mul,sQ ha,sQ hb,sQ hc,←Aq]
  exact h
 exact_mod_cast e
theorem neg_add {p q:Pt} (hp:OnC p) (hq:OnC q):negC (gI p q)=gI (negC p) (negC q):=by
 refine add_left (mQ hp hq) (jR (mQ hp hq)) (mQ (jR hp) (jR hq)) ?_
 rw[wX (mQ hp hq),xL p q,rE hq hp (mQ (jR hp) (jR hq)),←rE hp (jR hp) (jR hq),wX hp,yx,wX hq]
theorem neg_oC:negC oC=oC:=by decide+kernel
theorem neg_mul {p:Pt} (hp:OnC p):∀n,nC (negC p) n=negC (nC p n)
 | 0=>by rw[nC,nC,neg_oC]
 | n+1=>by rw[nC,nC,neg_mul hp n,neg_add (gK hp n) hp]
theorem pub_pt (b:B32):PtB (iU b) (nC bC (NV (numV b))):=by
 unfold iU
 rw[←xK (yA b)]
 exact base_pt (yA b)
theorem nonce_pt (b:B32) (m:List Int):PtB (ptV b m) (nC bC (NV (wL b m))):=by
 have h:BOk (wL b m):=qG _
 unfold ptV
 rw[←xK h]
 exact base_pt h
theorem clr_flag {b:B32} {p:Pt} (h:PtB b p):eqB (jH (clrP (decP b))) iH=true↔nC p 8=oC:=by
 have k:PtB (jH (clrP (decP b))) (nC p 8):=PtB.enc (h.dec.2.clr h.on) (gK h.on 8)
 constructor
 ·intro e
  have:=(rA _ _).1 e
  rw[this] at k
  exact k.inj zero_pt
 ·intro e
  rw[e] at k
  exact k.eq zero_pt
theorem pub_big (b:B32):eqB (jH (clrP (decP (iU b)))) iH=false:=by
 obtain⟨t,h1,h2,h3⟩:=clamp (qO b.to)
 have:=clamp_big h1 h2 h3
 cases e:eqB (jH (clrP (decP (iU b)))) iH with
 | false=>rfl
 | true=>exact absurd ((clr_flag (pub_pt b)).1 e) this
section
variable (b:B32) (m:List Int)
theorem end_val:BOk (endV b m)∧NV (endV b m)=(NV (chV b m)*NV (numV b)+NV (wL b m))%ordL:=
 smulB_val (qG _) (yA b) (qG _)
theorem sig_lo:mh (sigV b m)=ptV b m:=lo_cat _ _
theorem sig_hi:fD (sigV b m)=endV b m:=hi_cat _ _
theorem sig_byte:∀i,0≤(fD (sigV b m)).at i∧(fD (sigV b m)).at i<256:=by
 rw[sig_hi]
 exact fun i=>(end_val b m).1 i
theorem chk_sig:chkV (iU b) m (sigV b m)=chV b m:=by
 unfold chkV chV
 rw[sig_lo]
end
theorem ver_pt {b s:B32} {p:Pt} (h:PtB b p) {k:B32} (hs:BOk s) (hk:BOk k):PtB (jH (pW (gW qb s) (gW (negP (decP b)) k))) (gI (nC bC (NV s)) (nC (negC p) (NV k))):=
 PtB.enc ((Ar zM jc hs).plus (Ar h.dec.2.neg (jR h.on) hk) (gK jc _) (gK (jR h.on) _)) (mQ (gK jc _) (gK (jR h.on) _))
theorem ver_sig (b:B32) (m:List Int):lg (iU b) m (sigV b m)=0:=by
 have h1:=(pub_pt b).dec.1
 have h2:=pub_big b
 obtain⟨e1,e2⟩:=end_val b m
 have h3:canV (endV b m)=true:=(canV_iff e1).2 (by rw[e2];exact Nat.mod_lt _ (by decide))
 have h4:eqB (verB (iU b) m (sigV b m)) (mh (sigV b m))=true:=by
  unfold verB
  rw[sig_lo,sig_hi,chk_sig]
  have hk:BOk (chV b m):=qG _
  have h:=ver_pt (pub_pt b) e1 hk
  rw[e2,nC_mod jc order_L,neg_mul (gK jc _),←nC_mul jc,rH jc,Nat.mul_comm (NV (numV b)),xL (nC bC _) (nC bC (NV (wL b m))),
   rE (gK jc _) (gK jc _) (jR (gK jc _)),wX (gK jc _),addC_oC] at h
  exact h.eq (nonce_pt b m)
 unfold lg
 rw[h1,h2,sig_hi,h3,h4]
 rfl
def tC:Pt:=(dJ 14399317868200118260347934320527232580618823971194345261214217575416788799818,dJ 55188659117513257062467267217118295137698188065244968500265048394206261417927)
noncomputable def hC (i j:Nat):Pt:=gI (nC bC i) (nC tC j)
theorem many:¬16*ordL≤2*pN:=by unfold ordL pN;decide
end Go.Proofs.YthlmepolmemejaaGreatDoor

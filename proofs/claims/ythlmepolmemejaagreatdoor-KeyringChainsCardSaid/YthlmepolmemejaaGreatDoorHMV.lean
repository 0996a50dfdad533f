/- Packages scalar, eddsa: Canonical, Verify. -/
import Derived.Test.YthlmepolmemejaaGreatDoorHME
import Derived.Test.YthlmepolmemejaaGreatDoorHMF
namespace Go.Proofs.YthlmepolmemejaaGreatDoor
open Go Go.Eng Go.RowKit
set_option linter.unusedVariables false
set_option linter.unusedSimpArgs false
set_option maxRecDepth 100000
noncomputable def canV (b:B32):Bool:=eqB (bytes4 (redW b.at 4 4)) b
theorem scanon_ex (b:B32) (v:N4) (d:B32) (t:Bool):runOut [screduce_con,scbytes_con] tys Tryz.f45 100 [cB32.enc b] [(4,[.s (cN4.enc v)]),(5,[.s (cB32.enc d)]),(7,[.b t])]=some (bE.enc t,[∀i,0≤b.at i∧b.at i<256,cN4.enc (redW b.at 4 4)=cN4.enc v,cB32.enc (bytes4 v)=cB32.enc d,eqB d b=t]):=by kernel_rfl
theorem scanon_fn (b:B32) (h:∀i,0≤b.at i∧b.at i<256):FnOk Tryz.prog G2 45 [cB32.enc b] (bE.enc (canV b)):=
 FnOk.av ah mixed Tryz.func45 (scanon_ex b (redW b.at 4 4) (bytes4 (redW b.at 4 4)) (canV b)) ⟨h,rfl,rfl,rfl,trivial⟩ rfl rfl
noncomputable def scanon_con:Con Tryz.prog G2:=con1 45 Tryz.f45 Tryz.func45 (by kernel_rfl) (by kernel_rfl) cB32 (fun b=>bE.enc (canV b)) (fun b=>[∀i,0≤b.at i∧b.at i<256]) (fun _=>rfl) (fun b h=>scanon_fn b h.1)
def lo64 (D:B64):B32:=⟨D.b0,D.b1,D.b2,D.b3,D.b4,D.b5,D.b6,D.b7,D.b8,D.b9,D.b10,D.b11,D.b12,D.b13,D.b14,D.b15,D.b16,D.b17,D.b18,D.b19,D.b20,D.b21,D.b22,D.b23,D.b24,D.b25,D.b26,D.b27,D.b28,D.b29,D.b30,D.b31⟩
def hi64 (D:B64):B32:=⟨D.b32,D.b33,D.b34,D.b35,D.b36,D.b37,D.b38,D.b39,D.b40,D.b41,D.b42,D.b43,D.b44,D.b45,D.b46,D.b47,D.b48,D.b49,D.b50,D.b51,D.b52,D.b53,D.b54,D.b55,D.b56,D.b57,D.b58,D.b59,D.b60,D.b61,D.b62,D.b63⟩
theorem lo_cat (a b:B32):lo64 (cat64 a b)=a:=rfl
theorem hi_cat (a b:B32):hi64 (cat64 a b)=b:=rfl
noncomputable def chkV (b:B32) (m:List Int) (D:B64):B32:=hashV (catL [(lo64 D).to,b.to,m])
noncomputable def verB (b:B32) (m:List Int) (D:B64):B32:=encP (plusP (oftenP baseP (hi64 D)) (oftenP (negP (decP b)) (chkV b m D)))
noncomputable def verV (b:B32) (m:List Int) (D:B64):Int:=
 bif !decOk b then 2 else bif eqB (encP (clrP (decP b))) zeroPt then 2 else bif !canV (hi64 D) then 2 else bif eqB (verB b m D) (lo64 D) then 0 else 3
namespace ver
noncomputable abbrev fn:=Tryz.f28
noncomputable def body:Code:=bL fn
section
variable (H:List Int→B32) (hH:H=hashV)
noncomputable def Γ:Cons Tryz.prog G2:=[pof_con.lift gx_g2,pcleared_con.lift gx_g2,porigin_con.lift gx_g2,scanon_con,hash_con H hH,pointB_con.lift gx_g2,ptimes_con.lift gx_g2,pminus_con.lift gx_g2,pplus_con.lift gx_g2,pbytes_con.lift gx_g2]
theorem exwa (b:B32) (D:B64) (P:P20) (ys:List Int) (n c:Nat) (ty:TypeId):runOutM (Γ H hH) tys fn 100 [⟨false,ty,.pre .u8 ys⟩] [cB32.enc b,.o (.a (.sld 0 0 0 n c)),cB64.enc D] [(20,[.s (flagP P false)])]=some ((cInt .i64).enc 2,[flagP (decP b) (decOk b)=flagP P false]):=by kernel_rfl
theorem exwb (b:B32) (D:B64) (P C:P20) (ys:List Int) (n c:Nat) (ty:TypeId):runOutM (Γ H hH) tys fn 100 [⟨false,ty,.pre .u8 ys⟩] [cB32.enc b,.o (.a (.sld 0 0 0 n c)),cB64.enc D] [(20,[.s (flagP P true)]),(27,[.s (cP.enc C)]),(28,[.s (bE.enc true)])]=some ((cInt .i64).enc 2,[flagP (decP b) (decOk b)=flagP P true,cP.enc (clrP P)=cP.enc C,bE.enc (eqB (encP C) zeroPt)=bE.enc true]):=by kernel_rfl
theorem exwc (b:B32) (D:B64) (P C:P20) (ys:List Int) (n c:Nat) (ty:TypeId):runOutM (Γ H hH) tys fn 100 [⟨false,ty,.pre .u8 ys⟩] [cB32.enc b,.o (.a (.sld 0 0 0 n c)),cB64.enc D] [(20,[.s (flagP P true)]),(27,[.s (cP.enc C)]),(28,[.s (bE.enc false)]),(32,[.s (bE.enc false)])]=some ((cInt .i64).enc 2,[flagP (decP b) (decOk b)=flagP P true,cP.enc (clrP P)=cP.enc C,bE.enc (eqB (encP C) zeroPt)=bE.enc false,∀i,0≤(hi64 D).at i∧(hi64 D).at i<256,bE.enc (canV (hi64 D))=bE.enc false]):=by kernel_rfl
theorem exwd (b:B32) (D:B64) (P C T N M S:P20) (k E:B32) (ys:List Int) (n c:Nat) (ty:TypeId):runOutM (Γ H hH) tys fn 100 [⟨false,ty,.pre .u8 ys⟩] [cB32.enc b,.o (.a (.sld 0 0 0 n c)),cB64.enc D] [(20,[.s (flagP P true)]),(27,[.s (cP.enc C)]),(28,[.s (bE.enc false)]),(32,[.s (bE.enc true)]),(39,[.s (cB32.enc k)]),(42,[.s (cP.enc T)]),(44,[.s (cP.enc N)]),(46,[.s (cP.enc M)]),(47,[.s (cP.enc S)]),(48,[.s (cB32.enc E)]),(50,[.b true])]=some ((cInt .i64).enc 3,[flagP (decP b) (decOk b)=flagP P true,cP.enc (clrP P)=cP.enc C,bE.enc (eqB (encP C) zeroPt)=bE.enc false,∀i,0≤(hi64 D).at i∧(hi64 D).at i<256,bE.enc (canV (hi64 D))=bE.enc true,32≤32,32≤32,0+n≤ys.length,0<([(lo64 D).to,b.to,((ys.drop 0).take n)].headD []).length,(catL [(lo64 D).to,b.to,((ys.drop 0).take n)]).length≤140737488355328,cB32.enc (H (catL [(lo64 D).to,b.to,((ys.drop 0).take n)]))=cB32.enc k,Nib (hi64 D),cP.enc (oftenP baseP (hi64 D))=cP.enc T,cP.enc (negP P)=cP.enc N,Nib k,cP.enc (oftenP N k)=cP.enc M,cP.enc (plusP T M)=cP.enc S,cB32.enc (encP S)=cB32.enc E,(!eqB E (lo64 D))=true]):=by kernel_rfl
theorem exwe (b:B32) (D:B64) (P C T N M S:P20) (k E:B32) (ys:List Int) (n c:Nat) (ty:TypeId):runOutM (Γ H hH) tys fn 100 [⟨false,ty,.pre .u8 ys⟩] [cB32.enc b,.o (.a (.sld 0 0 0 n c)),cB64.enc D] [(20,[.s (flagP P true)]),(27,[.s (cP.enc C)]),(28,[.s (bE.enc false)]),(32,[.s (bE.enc true)]),(39,[.s (cB32.enc k)]),(42,[.s (cP.enc T)]),(44,[.s (cP.enc N)]),(46,[.s (cP.enc M)]),(47,[.s (cP.enc S)]),(48,[.s (cB32.enc E)]),(50,[.b false])]=some ((cInt .i64).enc 0,[flagP (decP b) (decOk b)=flagP P true,cP.enc (clrP P)=cP.enc C,bE.enc (eqB (encP C) zeroPt)=bE.enc false,∀i,0≤(hi64 D).at i∧(hi64 D).at i<256,bE.enc (canV (hi64 D))=bE.enc true,32≤32,32≤32,0+n≤ys.length,0<([(lo64 D).to,b.to,((ys.drop 0).take n)].headD []).length,(catL [(lo64 D).to,b.to,((ys.drop 0).take n)]).length≤140737488355328,cB32.enc (H (catL [(lo64 D).to,b.to,((ys.drop 0).take n)]))=cB32.enc k,Nib (hi64 D),cP.enc (oftenP baseP (hi64 D))=cP.enc T,cP.enc (negP P)=cP.enc N,Nib k,cP.enc (oftenP N k)=cP.enc M,cP.enc (plusP T M)=cP.enc S,cB32.enc (encP S)=cB32.enc E,(!eqB E (lo64 D))=false]):=by kernel_rfl
end
theorem runw (b:B32) (D:B64) (hD:∀i,0≤(hi64 D).at i∧(hi64 D).at i<256) (ys:List Int) (n c:Nat) (ty:TypeId) (hy:ys.length=n) (hn:n≤140737488353900):aD Tryz.prog G2 1 body (aB fn [cB32.enc b,.o (.a (.sld 0 0 0 n c)),cB64.enc D]) [⟨false,ty,.pre .u8 ys⟩] (aF tys fn (aX ((cInt .i64).enc (verV b ys D)) .none)):=by
 have hb:fn.body=some body:=by kernel_rfl
 have hl:∀q:B32,q.to.length=32:=fun _=>rfl
 have e:=dt0 ys n hy
 unfold verV
 cases h1:decOk b with
 | false=>
  rw[Bool.not_false,cond_true]
  exact runs_of_out ah mixed hb (exwa hashV rfl b D (decP b) ys n c ty) ⟨congrArg (flagP _) h1,trivial⟩
 | true=>
  rw[Bool.not_true,cond_false]
  cases h2:eqB (encP (clrP (decP b))) zeroPt with
  | true=>
   rw[cond_true]
   exact runs_of_out ah mixed hb (exwb hashV rfl b D (decP b) (clrP (decP b)) ys n c ty) ⟨congrArg (flagP _) h1,rfl,congrArg bE.enc h2,trivial⟩
  | false=>
   rw[cond_false]
   cases h3:canV (hi64 D) with
   | false=>
    rw[Bool.not_false,cond_true]
    exact runs_of_out ah mixed hb (exwc hashV rfl b D (decP b) (clrP (decP b)) ys n c ty) ⟨congrArg (flagP _) h1,rfl,congrArg bE.enc h2,hD,congrArg bE.enc h3,trivial⟩
   | true=>
    rw[Bool.not_true,cond_false]
    cases h4:eqB (verB b ys D) (lo64 D) with
    | true=>
     rw[cond_true]
     exact runs_of_out ah mixed hb (exwe hashV rfl b D (decP b) (clrP (decP b)) (oftenP baseP (hi64 D)) (negP (decP b)) (oftenP (negP (decP b)) (chkV b ys D)) (plusP (oftenP baseP (hi64 D)) (oftenP (negP (decP b)) (chkV b ys D))) (chkV b ys D) (verB b ys D) ys n c ty) ⟨(congrArg (flagP _) h1),(rfl),(congrArg bE.enc h2),(hD),(congrArg bE.enc h3),(by omega),(by omega),(by omega),(by show 0<32;omega),(by simp only[catL,List.length_append,List.length_nil,hl,e];omega),(by rw[e];rfl),(nib_of hD),(rfl),(rfl),(nib_of (hashV_ok _)),(rfl),(rfl),(rfl),(by rw[h4];rfl),(trivial)⟩
    | false=>
     rw[cond_false]
     exact runs_of_out ah mixed hb (exwd hashV rfl b D (decP b) (clrP (decP b)) (oftenP baseP (hi64 D)) (negP (decP b)) (oftenP (negP (decP b)) (chkV b ys D)) (plusP (oftenP baseP (hi64 D)) (oftenP (negP (decP b)) (chkV b ys D))) (chkV b ys D) (verB b ys D) ys n c ty) ⟨(congrArg (flagP _) h1),(rfl),(congrArg bE.enc h2),(hD),(congrArg bE.enc h3),(by omega),(by omega),(by omega),(by show 0<32;omega),(by simp only[catL,List.length_append,List.length_nil,hl,e];omega),(by rw[e];rfl),(nib_of hD),(rfl),(rfl),(nib_of (hashV_ok _)),(rfl),(rfl),(rfl),(by rw[h4];rfl),(trivial)⟩
def spec (V:B32→List Int→B64→Int):List PArg→Option (SV × LEff × Cst)
 | [.val v,.win .u8 ys n ty,.val w]=>match cB32.dec v with
  | some b=>match cB64.dec w with
   | some D=>some ((cInt .i64).enc (V b ys D),.none,[∀i,0≤(hi64 D).at i∧(hi64 D).at i<256,n≤140737488353900])
   | none=>none
  | none=>none
 | _=>none
noncomputable def con (V:B32→List Int→B64→Int) (hV:V=verV):Con Tryz.prog G2:=Con.parts ah 28 fn Tryz.func28 (by kernel_rfl) (c:=body) (by kernel_rfl) [.val,.win .u8,.val] (spec V)
 (fun ps r e p h hp=>by
  unfold spec at h
  split at h
  ·split at h
   ·split at h<;>cases h
    exact⟨rfl,fun b hb=>by simp only[bf,PArg.blk,List.nil_append,List.append_nil,List.mem_singleton] at hb;rw[hb]⟩
   ·cases h
  ·cases h)
 (fun ps r e p cap h hp hi=>by
  subst hV
  unfold spec at h
  split at h
  ·split at h
   ·rename_i b hb
    split at h<;>cases h
    rename_i D hD
    have:=cB32.ok _ _ hb
    subst this
    have:=cB64.ok _ _ hD
    subst this
    exact runw b D hp.1 _ _ _ _ hi.2.1.1 hp.2.1
   ·cases h
  ·cases h)
end ver
end Go.Proofs.YthlmepolmemejaaGreatDoor
namespace Go.Proofs.YthlmepolmemejaaGreatDoor
open Go Go.Eng
set_option linter.unusedVariables false
set_option maxRecDepth 100000
theorem prime2551:bq 2551:=prime_small 2551 50 (by decide) (by decide) (by kernel_rfl)
theorem prime1224481:bq 1224481:=prime_by1 1224481 2551 480 21 prime2551 (by kernel_rfl) (by kernel_rfl) (by kernel_rfl) (by kernel_rfl) (by kernel_rfl) (by kernel_rfl)
theorem prime531581:bq 531581:=prime_small 531581 729 (by decide) (by decide) (by kernel_rfl)
theorem prime1257559732178653:bq 1257559732178653:=prime_by2 1257559732178653 1224481 1027014492 531581 2365697292 51 prime1224481 prime531581 (by kernel_rfl) (by kernel_rfl) (by kernel_rfl) (by kernel_rfl) (by kernel_rfl) (by kernel_rfl) (by kernel_rfl) (by kernel_rfl) (by kernel_rfl)
theorem prime4434155615661930479:bq 4434155615661930479:=prime_by1 4434155615661930479 1257559732178653 3526 62 prime1257559732178653 (by kernel_rfl) (by kernel_rfl) (by kernel_rfl) (by kernel_rfl) (by kernel_rfl) (by kernel_rfl)
theorem prime172054593956031949258510691:bq 172054593956031949258510691:=prime_by1 172054593956031949258510691 4434155615661930479 38802110 88 prime4434155615661930479 (by kernel_rfl) (by kernel_rfl) (by kernel_rfl) (by kernel_rfl) (by kernel_rfl) (by kernel_rfl)
theorem prime19757330305831588566944191468367130476339:bq 19757330305831588566944191468367130476339:=prime_by1 19757330305831588566944191468367130476339 172054593956031949258510691 114831751082918 134 prime172054593956031949258510691 (by kernel_rfl) (by kernel_rfl) (by kernel_rfl) (by kernel_rfl) (by kernel_rfl) (by kernel_rfl)
theorem prime276602624281642239937218680557139826668747:bq 276602624281642239937218680557139826668747:=prime_by1 276602624281642239937218680557139826668747 19757330305831588566944191468367130476339 14 138 prime19757330305831588566944191468367130476339 (by kernel_rfl) (by kernel_rfl) (by kernel_rfl) (by kernel_rfl) (by kernel_rfl) (by kernel_rfl)
theorem d9:bq 7237005577332262213973186563042994240857116359379907606001950938285454250989:=prime_by1 7237005577332262213973186563042994240857116359379907606001950938285454250989 276602624281642239937218680557139826668747 26163907866482859529727157400808004 253 prime276602624281642239937218680557139826668747 (by kernel_rfl) (by kernel_rfl) (by kernel_rfl) (by kernel_rfl) (by kernel_rfl) (by kernel_rfl)
theorem prime_L:bq ordL:=d9
theorem nC_gcd {p:Pt} (hp:OnC p):∀(a b:Nat),nC p a=oC→nC p b=oC→nC p (Nat.gcd a b)=oC:=by
 intro a b
 induction a,b using Nat.gcd.induction with
 | H0 b=>intro _ h;rw[Nat.gcd_zero_left];exact h
 | H1 a b ha ih=>
  intro h1 h2
  rw[Nat.gcd_rec]
  exact ih (by rw[nC_mod hp h1];exact h2) h1
theorem bC_ne:bC≠oC:=by decide+kernel
theorem dvd_of_mul {k:Nat} (h:nC bC k=oC):ordL∣k:=by
 by_cases hd:ordL∣k
 ·exact hd
 ·have hc:Nat.gcd ordL k=1:=prime_L.coprime hd
  have:=nC_gcd bC_on ordL k order_L h
  rw[hc,nC_one] at this
  exact absurd this bC_ne
theorem byte_lo:∀n:Fin 256,bits .and .u8 (n.val:Int) 248%8=0:=by decide+kernel
theorem byte_hi:∀n:Fin 256,64≤bits .or .u8 (bits .and .u8 (n.val:Int) 127) 64∧bits .or .u8 (bits .and .u8 (n.val:Int) 127) 64<128:=by decide+kernel
theorem VB_lo (b:B32):∃r:Int,VB b=b.b0+8*r:=by
 refine⟨(VB b-b.b0)/8,?_⟩
 unfold VB
 omega
theorem clamp_num {n:Nat} {v x y r q:Int} (hc:(n:Int)=v) (h1:v=r+452312848583266388373324160190187140051835877600158453279131187530910662656*y) (h2:0≤r) (h3:r<452312848583266388373324160190187140051835877600158453279131187530910662656) (h4:v=x+8*q) (e0:x%8=0) (e1:64≤y∧y<128):
  ∃t:Nat,n=8*t∧0<t∧t<ordL:=by
 refine⟨n/8,?_,?_,?_⟩
 ·clear h1 h2 h3 e1;omega
 ·clear h4 e0;omega
 ·unfold ordL;clear h4 e0;omega
theorem clamp {d:B64} (h:∀i,0≤d.at i∧d.at i<256):∃t:Nat,NV (scalB d)=8*t∧0<t∧t<ordL:=by
 have ok:=scalB_ok h
 obtain⟨r,h1,h2,h3⟩:=VB_hi ok
 obtain⟨q,h4⟩:=VB_lo (scalB d)
 have e0:(scalB d).b0%8=0:=by
  have h0:0≤d.b0∧d.b0<256:=h 0
  have:=byte_lo ⟨d.b0.toNat,by omega⟩
  rwa [show((⟨d.b0.toNat,by omega⟩:Fin 256).val:Int)=d.b0 by show(d.b0.toNat:Int)=d.b0;omega] at this
 have e1:64≤(scalB d).b31∧(scalB d).b31<128:=by
  have h0:0≤d.b31∧d.b31<256:=h 31
  have:=byte_hi ⟨d.b31.toNat,by omega⟩
  rwa [show((⟨d.b31.toNat,by omega⟩:Fin 256).val:Int)=d.b31 by show(d.b31.toNat:Int)=d.b31;omega] at this
 exact clamp_num (NV_cast ok) h1 h2 h3 h4 e0 e1
theorem clamp_not {t:Nat} (h0:0<t) (h1:t<ordL) (h:ordL∣8*t*8):False:=by
 have l8:¬ordL∣8:=fun h=>absurd (Nat.le_of_dvd (by decide) h) (by unfold ordL;decide)
 rcases prime_L.dvd_mul h with h | h
 ·rcases prime_L.dvd_mul h with h | h
  ·exact l8 h
  ·exact absurd (Nat.le_of_dvd h0 h) (Nat.not_le.2 h1)
 ·exact l8 h
theorem clamp_big {n t:Nat} (h:n=8*t) (h0:0<t) (h1:t<ordL):nC (nC bC n) 8≠oC:=by
 intro k
 have k2:nC bC (n*8)=oC:=(nC_mul bC_on n 8).trans k
 rw[h] at k2
 exact clamp_not h0 h1 (dvd_of_mul k2)
end Go.Proofs.YthlmepolmemejaaGreatDoor
namespace Go.Proofs.YthlmepolmemejaaGreatDoor
open Go Go.Eng
set_option linter.unusedVariables false
set_option maxRecDepth 100000
theorem ordI_cast:ordI=(ordL:Int):=by decide
theorem byteSum_all {b:B32} (hb:BOk b):byteV b.at 0 32=NV b:=by
 rw[←bsum_byteV (fun i=>hb i) 32,←bits_NV hb]
 rfl
theorem red4_val {b:B32} (hb:BOk b):N4Ok (redW b.at 4 4)∧N4V (redW b.at 4 4)=VB b%ordI:=by
 obtain⟨h1,h2⟩:=redW_val (f:=b.at) (fun i=>hb i) 4 4
 refine⟨h1,?_⟩
 rw[h2,hor_byteV (fun i=>hb i) 4 4 (Nat.le_refl _),show 8*(4-4)=0 from rfl,show 8*4=32 from rfl,byteSum_all hb,NV_cast hb]
theorem ordI_pos:0<ordI:=by decide
theorem canV_iff {b:B32} (hb:BOk b):canV b=true↔NV b<ordL:=by
 obtain⟨h1,h2⟩:=red4_val hb
 have hv:=bytes4_val _ h1
 rw[h2] at hv
 have hc:=NV_cast hb
 have ho:=ordI_cast
 have hp:=ordI_pos
 unfold canV
 constructor
 ·intro h
  have e:=(eqB_iff _ _).1 h
  rw[e] at hv
  have:=Int.emod_lt_of_pos (VB b) hp
  omega
 ·intro h
  refine eqB_val (bytes4_ok _) hb ?_
  rw[hv]
  exact Int.emod_eq_of_lt (by omega) (by omega)
theorem smulB_val {a b c:B32} (ha:BOk a) (hb:BOk b) (hc:BOk c):BOk (smulB a b c)∧NV (smulB a b c)=(NV a*NV b+NV c)%ordL:=by
 have hk:BOk (smulB a b c):=bytes4_ok _
 refine⟨hk,?_⟩
 obtain⟨a1,a2⟩:=red4_val ha
 obtain⟨b1,b2⟩:=red4_val hb
 obtain⟨c1,c2⟩:=red4_val hc
 have bl:N4V (redW b.at 4 4)<ordI:=by rw[b2];exact Int.emod_lt_of_pos _ ordI_pos
 have cl:N4V (redW c.at 4 4)<ordI:=by rw[c2];exact Int.emod_lt_of_pos _ ordI_pos
 obtain⟨m1,m2⟩:=mul0_val a1 b1 bl
 have ml:N4V (mulS (redW a.at 4 4) (redW b.at 4 4) 256 aT)<ordI:=by rw[m2];exact Int.emod_lt_of_pos _ ordI_pos
 have h:VB (smulB a b c)=(VB a*VB b+VB c)%ordI:=by
  unfold smulB smulN
  rw[modN_red (fun i=>ha i),modN_red (fun i=>hb i),modN_red (fun i=>hc i),bytes4_val _ (plusL_ok m1 c1),plusL_val m1 c1 ml cl,m2,a2,b2,c2,←Int.mul_emod,←Int.add_emod]
 have e:((NV (smulB a b c):Nat):Int)=(((NV a*NV b+NV c)%ordL:Nat):Int):=by
  rw[NV_cast hk,Int.natCast_emod,Int.natCast_add,Int.natCast_mul,NV_cast ha,NV_cast hb,NV_cast hc,←ordI_cast]
  exact h
 exact_mod_cast e
theorem neg_add {p q:Pt} (hp:OnC p) (hq:OnC q):negC (addC p q)=addC (negC p) (negC q):=by
 refine add_left (addC_on hp hq) (negC_on (addC_on hp hq)) (addC_on (negC_on hp) (negC_on hq)) ?_
 rw[addC_neg (addC_on hp hq),addC_comm p q,addC_assoc hq hp (addC_on (negC_on hp) (negC_on hq)),←addC_assoc hp (negC_on hp) (negC_on hq),addC_neg hp,oC_addC,addC_neg hq]
theorem neg_oC:negC oC=oC:=by decide+kernel
theorem neg_mul {p:Pt} (hp:OnC p):∀n,nC (negC p) n=negC (nC p n)
 | 0=>by rw[nC,nC,neg_oC]
 | n+1=>by rw[nC,nC,neg_mul hp n,neg_add (nC_on hp n) hp]
theorem pub_pt (b:B32):PtB (pubV b) (nC bC (NV (numV b))):=by
 unfold pubV
 rw[←base_same (numV_ok b)]
 exact base_pt (numV_ok b)
theorem nonce_pt (b:B32) (m:List Int):PtB (ptV b m) (nC bC (NV (nonceV b m))):=by
 have h:BOk (nonceV b m):=hashV_ok _
 unfold ptV
 rw[←base_same h]
 exact base_pt h
theorem clr_flag {b:B32} {p:Pt} (h:PtB b p):eqB (encP (clrP (decP b))) zeroPt=true↔nC p 8=oC:=by
 have k:PtB (encP (clrP (decP b))) (nC p 8):=PtB.enc (h.dec.2.clr h.on) (nC_on h.on 8)
 constructor
 ·intro e
  have:=(eqB_iff _ _).1 e
  rw[this] at k
  exact k.inj zero_pt
 ·intro e
  rw[e] at k
  exact k.eq zero_pt
theorem pub_big (b:B32):eqB (encP (clrP (decP (pubV b)))) zeroPt=false:=by
 obtain⟨t,h1,h2,h3⟩:=clamp (s512V_byte b.to)
 have:=clamp_big h1 h2 h3
 cases e:eqB (encP (clrP (decP (pubV b)))) zeroPt with
 | false=>rfl
 | true=>exact absurd ((clr_flag (pub_pt b)).1 e) this
section
variable (b:B32) (m:List Int)
theorem end_val:BOk (endV b m)∧NV (endV b m)=(NV (chV b m)*NV (numV b)+NV (nonceV b m))%ordL:=
 smulB_val (hashV_ok _) (numV_ok b) (hashV_ok _)
theorem sig_lo:lo64 (sigV b m)=ptV b m:=lo_cat _ _
theorem sig_hi:hi64 (sigV b m)=endV b m:=hi_cat _ _
theorem sig_byte:∀i,0≤(hi64 (sigV b m)).at i∧(hi64 (sigV b m)).at i<256:=by
 rw[sig_hi]
 exact fun i=>(end_val b m).1 i
theorem chk_sig:chkV (pubV b) m (sigV b m)=chV b m:=by
 unfold chkV chV
 rw[sig_lo]
end
theorem ver_pt {b s:B32} {p:Pt} (h:PtB b p) {k:B32} (hs:BOk s) (hk:BOk k):PtB (encP (plusP (oftenP baseP s) (oftenP (negP (decP b)) k))) (addC (nC bC (NV s)) (nC (negC p) (NV k))):=
 PtB.enc ((often_rep base_rep bC_on hs).plus (often_rep h.dec.2.neg (negC_on h.on) hk) (nC_on bC_on _) (nC_on (negC_on h.on) _)) (addC_on (nC_on bC_on _) (nC_on (negC_on h.on) _))
theorem ver_sig (b:B32) (m:List Int):verV (pubV b) m (sigV b m)=0:=by
 have h1:=(pub_pt b).dec.1
 have h2:=pub_big b
 obtain⟨e1,e2⟩:=end_val b m
 have h3:canV (endV b m)=true:=(canV_iff e1).2 (by rw[e2];exact Nat.mod_lt _ (by decide))
 have h4:eqB (verB (pubV b) m (sigV b m)) (lo64 (sigV b m))=true:=by
  unfold verB
  rw[sig_lo,sig_hi,chk_sig]
  have hk:BOk (chV b m):=hashV_ok _
  have h:=ver_pt (pub_pt b) e1 hk
  rw[e2,nC_mod bC_on order_L,neg_mul (nC_on bC_on _),←nC_mul bC_on,nC_add bC_on,Nat.mul_comm (NV (numV b)),addC_comm (nC bC _) (nC bC (NV (nonceV b m))),
   addC_assoc (nC_on bC_on _) (nC_on bC_on _) (negC_on (nC_on bC_on _)),addC_neg (nC_on bC_on _),addC_oC] at h
  exact h.eq (nonce_pt b m)
 unfold verV
 rw[h1,h2,sig_hi,h3,h4]
 rfl
end Go.Proofs.YthlmepolmemejaaGreatDoor
namespace Go.Proofs.YthlmepolmemejaaGreatDoor
open Go Go.Eng
set_option linter.unusedVariables false
set_option maxRecDepth 100000
def tC:Pt:=(natF 14399317868200118260347934320527232580618823971194345261214217575416788799818,natF 55188659117513257062467267217118295137698188065244968500265048394206261417927)
noncomputable def hC (i j:Nat):Pt:=addC (nC bC i) (nC tC j)
theorem many:¬16*ordL≤2*pN:=by unfold ordL pN;decide
end Go.Proofs.YthlmepolmemejaaGreatDoor

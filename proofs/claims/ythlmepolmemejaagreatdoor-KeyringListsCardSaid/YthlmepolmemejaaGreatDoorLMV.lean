/- Packages scalar, eddsa: Canonical, Verify. -/
import Derived.Test.YthlmepolmemejaaGreatDoorLME
import Derived.Test.YthlmepolmemejaaGreatDoorLMF
set_option linter.unusedSimpArgs false
set_option linter.unusedVariables false
namespace Go.Proofs.YthlmepolmemejaaGreatDoor
open Go Go.Eng Go.RowKit
set_option maxRecDepth 100000
noncomputable def canV (b:B32):Bool:=eqB (fO (fJ b.at 4 4)) b
theorem scanon_ex (b:B32) (v:N4) (d:B32) (t:Bool):eP [zO,Az] tys Tryz.f45 100 [ak.enc b] [(4,[.s (cN4.enc v)]),(5,[.s (ak.enc d)]),(7,[.b t])]=some (aY.enc t,[∀i,0≤b.at i∧b.at i<256,cN4.enc (fJ b.at 4 4)=cN4.enc v,ak.enc (fO v)=ak.enc d,eqB d b=t]):=by kernel_rfl
theorem scanon_fn (b:B32) (h:∀i,0≤b.at i∧b.at i<256):ay Tryz.prog G2 45 [ak.enc b] (aY.enc (canV b)):=
 ay.aD ah mixed Tryz.func45 (scanon_ex b (fJ b.at 4 4) (fO (fJ b.at 4 4)) (canV b)) ⟨h,rfl,rfl,rfl,trivial⟩ rfl rfl
noncomputable def scanon_con:Con Tryz.prog G2:=fQ 45 Tryz.f45 Tryz.func45 (by kernel_rfl) (by kernel_rfl) ak (fun b=>aY.enc (canV b)) (fun b=>[∀i,0≤b.at i∧b.at i<256]) (fun _=>rfl) (fun b h=>scanon_fn b h.1)
def lo64 (D:B64):B32:=⟨D.b0,D.b1,D.b2,D.b3,D.b4,D.b5,D.b6,D.b7,D.b8,D.b9,D.b10,D.b11,D.b12,D.b13,D.b14,D.b15,D.b16,D.b17,D.b18,D.b19,D.b20,D.b21,D.b22,D.b23,D.b24,D.b25,D.b26,D.b27,D.b28,D.b29,D.b30,D.b31⟩
def fB (D:B64):B32:=⟨D.b32,D.b33,D.b34,D.b35,D.b36,D.b37,D.b38,D.b39,D.b40,D.b41,D.b42,D.b43,D.b44,D.b45,D.b46,D.b47,D.b48,D.b49,D.b50,D.b51,D.b52,D.b53,D.b54,D.b55,D.b56,D.b57,D.b58,D.b59,D.b60,D.b61,D.b62,D.b63⟩
theorem hi_cat (a b:B32):fB (cat64 a b)=b:=rfl
noncomputable def chkV (b:B32) (m:List Int) (D:B64):B32:=gq (aZ [(lo64 D).to,b.to,m])
noncomputable def verB (b:B32) (m:List Int) (D:B64):B32:=kS (pQ (gU pW (fB D)) (gU (negP (decP b)) (chkV b m D)))
noncomputable def verV (b:B32) (m:List Int) (D:B64):Int:=
 bif !dG b then 2 else bif eqB (kS (clrP (decP b))) jQ then 2 else bif !canV (fB D) then 2 else bif eqB (verB b m D) (lo64 D) then 0 else 3
namespace ver
noncomputable abbrev fn:=Tryz.f28
noncomputable def body:Code:=bZ fn
section
variable (H:List Int→B32) (hH:H=gq)
noncomputable def Γ:Cons Tryz.prog G2:=[pof_con.lift jh,vW.lift jh,xB.lift jh,scanon_con,hash_con H hH,pointB_con.lift jh,ptimes_con.lift jh,pminus_con.lift jh,pplus_con.lift jh,yN.lift jh]
theorem exwa (b:B32) (D:B64) (P:P20) (ys:List Int) (n c:Nat) (ty:TypeId):iY (Γ H hH) tys fn 100 [⟨false,ty,.pre .u8 ys⟩] [ak.enc b,.o (.a (.sld 0 0 0 n c)),bU.enc D] [(20,[.s (jP P false)])]=some ((av .i64).enc 2,[jP (decP b) (dG b)=jP P false]):=by kernel_rfl
theorem exwb (b:B32) (D:B64) (P C:P20) (ys:List Int) (n c:Nat) (ty:TypeId):iY (Γ H hH) tys fn 100 [⟨false,ty,.pre .u8 ys⟩] [ak.enc b,.o (.a (.sld 0 0 0 n c)),bU.enc D] [(20,[.s (jP P true)]),(27,[.s (cP.enc C)]),(28,[.s (aY.enc true)])]=some ((av .i64).enc 2,[jP (decP b) (dG b)=jP P true,cP.enc (clrP P)=cP.enc C,aY.enc (eqB (kS C) jQ)=aY.enc true]):=by kernel_rfl
theorem exwc (b:B32) (D:B64) (P C:P20) (ys:List Int) (n c:Nat) (ty:TypeId):iY (Γ H hH) tys fn 100 [⟨false,ty,.pre .u8 ys⟩] [ak.enc b,.o (.a (.sld 0 0 0 n c)),bU.enc D] [(20,[.s (jP P true)]),(27,[.s (cP.enc C)]),(28,[.s (aY.enc false)]),(32,[.s (aY.enc false)])]=some ((av .i64).enc 2,[jP (decP b) (dG b)=jP P true,cP.enc (clrP P)=cP.enc C,aY.enc (eqB (kS C) jQ)=aY.enc false,∀i,0≤(fB D).at i∧(fB D).at i<256,aY.enc (canV (fB D))=aY.enc false]):=by kernel_rfl
theorem exwd (b:B32) (D:B64) (P C T N M S:P20) (k E:B32) (ys:List Int) (n c:Nat) (ty:TypeId):iY (Γ H hH) tys fn 100 [⟨false,ty,.pre .u8 ys⟩] [ak.enc b,.o (.a (.sld 0 0 0 n c)),bU.enc D] [(20,[.s (jP P true)]),(27,[.s (cP.enc C)]),(28,[.s (aY.enc false)]),(32,[.s (aY.enc true)]),(39,[.s (ak.enc k)]),(42,[.s (cP.enc T)]),(44,[.s (cP.enc N)]),(46,[.s (cP.enc M)]),(47,[.s (cP.enc S)]),(48,[.s (ak.enc E)]),(50,[.b true])]=some ((av .i64).enc 3,[jP (decP b) (dG b)=jP P true,cP.enc (clrP P)=cP.enc C,aY.enc (eqB (kS C) jQ)=aY.enc false,∀i,0≤(fB D).at i∧(fB D).at i<256,aY.enc (canV (fB D))=aY.enc true,32≤32,32≤32,0+n≤ys.length,0<([(lo64 D).to,b.to,((ys.drop 0).take n)].headD []).length,(aZ [(lo64 D).to,b.to,((ys.drop 0).take n)]).length≤140737488355328,ak.enc (H (aZ [(lo64 D).to,b.to,((ys.drop 0).take n)]))=ak.enc k,Nib (fB D),cP.enc (gU pW (fB D))=cP.enc T,cP.enc (negP P)=cP.enc N,Nib k,cP.enc (gU N k)=cP.enc M,cP.enc (pQ T M)=cP.enc S,ak.enc (kS S)=ak.enc E,(!eqB E (lo64 D))=true]):=by kernel_rfl
theorem exwe (b:B32) (D:B64) (P C T N M S:P20) (k E:B32) (ys:List Int) (n c:Nat) (ty:TypeId):iY (Γ H hH) tys fn 100 [⟨false,ty,.pre .u8 ys⟩] [ak.enc b,.o (.a (.sld 0 0 0 n c)),bU.enc D] [(20,[.s (jP P true)]),(27,[.s (cP.enc C)]),(28,[.s (aY.enc false)]),(32,[.s (aY.enc true)]),(39,[.s (ak.enc k)]),(42,[.s (cP.enc T)]),(44,[.s (cP.enc N)]),(46,[.s (cP.enc M)]),(47,[.s (cP.enc S)]),(48,[.s (ak.enc E)]),(50,[.b false])]=some ((av .i64).enc 0,[jP (decP b) (dG b)=jP P true,cP.enc (clrP P)=cP.enc C,aY.enc (eqB (kS C) jQ)=aY.enc false,∀i,0≤(fB D).at i∧(fB D).at i<256,aY.enc (canV (fB D))=aY.enc true,32≤32,32≤32,0+n≤ys.length,0<([(lo64 D).to,b.to,((ys.drop 0).take n)].headD []).length,(aZ [(lo64 D).to,b.to,((ys.drop 0).take n)]).length≤140737488355328,ak.enc (H (aZ [(lo64 D).to,b.to,((ys.drop 0).take n)]))=ak.enc k,Nib (fB D),cP.enc (gU pW (fB D))=cP.enc T,cP.enc (negP P)=cP.enc N,Nib k,cP.enc (gU N k)=cP.enc M,cP.enc (pQ T M)=cP.enc S,ak.enc (kS S)=ak.enc E,(!eqB E (lo64 D))=false]):=by kernel_rfl
end
theorem runw (b:B32) (D:B64) (hD:∀i,0≤(fB D).at i∧(fB D).at i<256) (ys:List Int) (n c:Nat) (ty:TypeId) (hy:ys.length=n) (hn:n≤140737488353900):aK Tryz.prog G2 1 body (aH fn [ak.enc b,.o (.a (.sld 0 0 0 n c)),bU.enc D]) [⟨false,ty,.pre .u8 ys⟩] (aN tys fn (bA ((av .i64).enc (verV b ys D)) .none)):=by
 have hb:fn.body=some body:=by kernel_rfl
 have hl:∀q:B32,q.to.length=32:=fun _=>rfl
 have e:=dt0 ys n hy
 unfold verV
 cases h1:dG b with
 | false=>
  rw[Bool.not_false,cond_true]
  exact eZ ah mixed hb (exwa gq rfl b D (decP b) ys n c ty) ⟨congrArg (jP _) h1,trivial⟩
 | true=>
  rw[Bool.not_true,cond_false]
  cases h2:eqB (kS (clrP (decP b))) jQ with
  | true=>
   rw[cond_true]
   exact eZ ah mixed hb (exwb gq rfl b D (decP b) (clrP (decP b)) ys n c ty) ⟨congrArg (jP _) h1,rfl,congrArg aY.enc h2,trivial⟩
  | false=>
   rw[cond_false]
   cases h3:canV (fB D) with
   | false=>
    rw[Bool.not_false,cond_true]
    exact eZ ah mixed hb (exwc gq rfl b D (decP b) (clrP (decP b)) ys n c ty) ⟨congrArg (jP _) h1,rfl,congrArg aY.enc h2,hD,congrArg aY.enc h3,trivial⟩
   | true=>
    rw[Bool.not_true,cond_false]
    cases h4:eqB (verB b ys D) (lo64 D) with
    | true=>
     rw[cond_true]
     exact eZ ah mixed hb (exwe gq rfl b D (decP b) (clrP (decP b)) (gU pW (fB D)) (negP (decP b)) (gU (negP (decP b)) (chkV b ys D)) (pQ (gU pW (fB D)) (gU (negP (decP b)) (chkV b ys D))) (chkV b ys D) (verB b ys D) ys n c ty) ⟨(congrArg (jP _) h1),(rfl),(congrArg aY.enc h2),(hD),(congrArg aY.enc h3),(by omega),(by omega),(by omega),(by show 0<32;omega),(by simp only[aZ,List.length_append,List.length_nil,hl,e];omega),(by rw[e];rfl),(nib_of hD),(rfl),(rfl),(nib_of (uo _)),(rfl),(rfl),(rfl),(by rw[h4];rfl),(trivial)⟩
    | false=>
     rw[cond_false]
     exact eZ ah mixed hb (exwd gq rfl b D (decP b) (clrP (decP b)) (gU pW (fB D)) (negP (decP b)) (gU (negP (decP b)) (chkV b ys D)) (pQ (gU pW (fB D)) (gU (negP (decP b)) (chkV b ys D))) (chkV b ys D) (verB b ys D) ys n c ty) ⟨(congrArg (jP _) h1),(rfl),(congrArg aY.enc h2),(hD),(congrArg aY.enc h3),(by omega),(by omega),(by omega),(by show 0<32;omega),(by simp only[aZ,List.length_append,List.length_nil,hl,e];omega),(by rw[e];rfl),(nib_of hD),(rfl),(rfl),(nib_of (uo _)),(rfl),(rfl),(rfl),(by rw[h4];rfl),(trivial)⟩
def spec (V:B32→List Int→B64→Int):List aV→Option (SV × dh × Cst)
 | [.val v,.win .u8 ys n ty,.val w]=>match ak.dec v with
  | some b=>match bU.dec w with
   | some D=>some ((av .i64).enc (V b ys D),.none,[∀i,0≤(fB D).at i∧(fB D).at i<256,n≤140737488353900])
   | none=>none
  | none=>none
 | _=>none
noncomputable def con (V:B32→List Int→B64→Int) (hV:V=verV):Con Tryz.prog G2:=Con.parts ah 28 fn Tryz.func28 (by kernel_rfl) (c:=body) (by kernel_rfl) [.val,.win .u8,.val] (spec V)
 (fun ps r e p h hp=>by
  unfold spec at h
  split at h
  ·split at h
   ·split at h<;>cases h
    exact⟨rfl,fun b hb=>by simp only[bG,aV.blk,List.nil_append,List.append_nil,List.mem_singleton] at hb;rw[hb]⟩
   ·cases h
  ·cases h)
 (fun ps r e p cap h hp hi=>by
  subst hV
  unfold spec at h
  split at h
  ·split at h
   ·rename_i b hb
    split at h<;>cases h
    rename_i D hD
    have:=ak.ok _ _ hb
    subst this
    have:=bU.ok _ _ hD
    subst this
    exact runw b D hp.1 _ _ _ _ hi.2.1.1 hp.2.1
   ·cases h
  ·cases h)
end ver
open Go Go.Eng
theorem zZ:bP=(ordL:Int):=by decide
theorem byteSum_all {b:B32} (hb:BOk b):nu b.at 0 32=NV b:=by
 rw[←zm (fun i=>hb i) 32,←bits_NV hb]
 rfl
theorem yF {b:B32} (hb:BOk b):aj (fJ b.at 4 4)∧N4V (fJ b.at 4 4)=VB b%bP:=by
 obtain⟨h1,h2⟩:=iT (f:=b.at) (fun i=>hb i) 4 4
 refine⟨h1,?_⟩
 rw[h2,Ac (fun i=>hb i) 4 4 (Nat.le_refl _),show 8*(4-4)=0 from rfl,show 8*4=32 from rfl,byteSum_all hb,uq hb]
theorem yO:0<bP:=by decide
theorem canV_iff {b:B32} (hb:BOk b):canV b=true↔NV b<ordL:=by
 obtain⟨h1,h2⟩:=yF hb
 have hv:=vF _ h1
 rw[h2] at hv
 have hc:=uq hb
 have ho:=zZ
 have hp:=yO
 unfold canV
 constructor
 ·intro h
  have e:=(rZ _ _).1 h
  rw[e] at hv
  have:=Int.emod_lt_of_pos (VB b) hp
  omega
 ·intro h
  refine eqB_val (wZ _) hb ?_
  rw[hv]
  exact Int.emod_eq_of_lt (by omega) (by omega)
theorem smulB_val {a b c:B32} (ha:BOk a) (hb:BOk b) (hc:BOk c):BOk (smulB a b c)∧NV (smulB a b c)=(NV a*NV b+NV c)%ordL:=by
 have hk:BOk (smulB a b c):=wZ _
 refine⟨hk,?_⟩
 obtain⟨a1,a2⟩:=yF ha
 obtain⟨b1,b2⟩:=yF hb
 obtain⟨c1,c2⟩:=yF hc
 have bl:N4V (fJ b.at 4 4)<bP:=by rw[b2];exact Int.emod_lt_of_pos _ yO
 have cl:N4V (fJ c.at 4 4)<bP:=by rw[c2];exact Int.emod_lt_of_pos _ yO
 obtain⟨m1,m2⟩:=mul0_val a1 b1 bl
 have ml:N4V (lU (fJ a.at 4 4) (fJ b.at 4 4) 256 bF)<bP:=by rw[m2];exact Int.emod_lt_of_pos _ yO
 have h:VB (smulB a b c)=(VB a*VB b+VB c)%bP:=by
  unfold smulB smulN
  rw[modN_red (fun i=>ha i),modN_red (fun i=>hb i),modN_red (fun i=>hc i),vF _ (kg m1 c1),rR m1 c1 ml cl,m2,a2,b2,c2,←Int.mul_emod,←Int.add_emod]
 have e:((NV (smulB a b c):Nat):Int)=(((NV a*NV b+NV c)%ordL:Nat):Int):=by
  rw[uq hk,Int.natCast_emod,Int.natCast_add,Int.natCast_mul,uq ha,uq hb,uq hc,←zZ]
  exact h
 exact_mod_cast e
theorem neg_add {p q:Pt} (hp:OnC p) (hq:OnC q):negC (gG p q)=gG (negC p) (negC q):=by
 refine add_left (mE hp hq) (kD (mE hp hq)) (mE (kD hp) (kD hq)) ?_
 rw[zo (mE hp hq),Aq p q,tO hq hp (mE (kD hp) (kD hq)),←tO hp (kD hp) (kD hq),zo hp,oC_addC,zo hq]
theorem neg_oC:negC oC=oC:=by decide+kernel
theorem neg_mul {p:Pt} (hp:OnC p):∀n,nC (negC p) n=negC (nC p n)
 | 0=>by rw[nC,nC,neg_oC]
 | n+1=>by rw[nC,nC,neg_mul hp n,neg_add (iN hp n) hp]
theorem pub_pt (b:B32):PtB (kY b) (nC bC (NV (numV b))):=by
 unfold kY
 rw[←Ap (xS b)]
 exact base_pt (xS b)
theorem end_val (b:B32) (m:List Int):BOk (endV b m)∧NV (endV b m)=(NV (chV b m)*NV (numV b)+NV (nonceV b m))%ordL:=
 smulB_val (uo _) (xS b) (uo _)
theorem sig_hi (b:B32) (m:List Int):fB (sigV b m)=endV b m:=hi_cat _ _
theorem sig_byte (b:B32) (m:List Int):∀i,0≤(fB (sigV b m)).at i∧(fB (sigV b m)).at i<256:=by
 rw[sig_hi]
 exact fun i=>(end_val b m).1 i
theorem ver_pt {b s:B32} {p:Pt} (h:PtB b p) {k:B32} (hs:BOk s) (hk:BOk k):PtB (kS (pQ (gU pW s) (gU (negP (decP b)) k))) (gG (nC bC (NV s)) (nC (negC p) (NV k))):=
 PtB.enc ((A9 zn oJ hs).plus (A9 h.dec.2.neg (kD h.on) hk) (iN oJ _) (iN (kD h.on) _)) (mE (iN oJ _) (iN (kD h.on) _))
def tC:Pt:=(dJ 14399317868200118260347934320527232580618823971194345261214217575416788799818,dJ 55188659117513257062467267217118295137698188065244968500265048394206261417927)
noncomputable def hC (i j:Nat):Pt:=gG (nC bC i) (nC tC j)
theorem many:¬16*ordL≤2*pN:=by unfold ordL pN;decide
end Go.Proofs.YthlmepolmemejaaGreatDoor

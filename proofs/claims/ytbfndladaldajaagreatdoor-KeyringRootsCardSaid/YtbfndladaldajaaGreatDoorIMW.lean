/- Packages beaconref03, beaconref05: Canonical, Verify: walks, contracts. -/
import Derived.Test.YtbfndladaldajaaGreatDoorIMJ
import Derived.Test.YtbfndladaldajaaGreatDoorIMV
import Derived.Test.YtbfndladaldajaaGreatDoorIMA
import Derived.Test.YtbfndladaldajaaGreatDoorIMF
import Derived.Test.YtbfndladaldajaaGreatDoorIMD
namespace Go.Proofs.YtbfndladaldajaaGreatDoor
open Go Go.Eng Go.RowKit
set_option linter.unusedVariables false
set_option linter.unusedSimpArgs false
set_option maxRecDepth 100000
namespace sfr
noncomputable abbrev fn:=Tryz.f146
noncomputable def body:Code:=bH fn
theorem ex (b:B32) (ty:TypeId):runOutM ([]:Cons Tryz.prog GX) tys fn 100 [⟨false,ty,.lit (cB32.row b)⟩] [.o (.a (.slc 0 0 32 32))] []=some (cN4.enc (fromN b),[]):=by kernel_rfl
theorem run (b:B32) (ty:TypeId):aB Tryz.prog GX 1 body (aD fn [.o (.a (.slc 0 0 32 32))]) [⟨false,ty,.lit (cB32.row b)⟩] (aH tys fn (aX (cN4.enc (fromN b)) .none)):=by
 have hb:fn.body=some body:=by kernel_rfl
 exact bV ah mixed hb (ex b ty) trivial
end sfr
noncomputable def sfrom_con:Con Tryz.prog GX:=Con.hand ah 146 sfr.fn Tryz.func146 (by kernel_rfl) (c:=sfr.body) (by kernel_rfl) (Dec.slc Tryz.prog 32 cB32 (fun b=>cN4.enc (fromN b)) (fun _=>[]) (fun _=>rfl)) (fun x hc _=>sfr.run x.1 x.2)
theorem rcan_ex (b:B32) (v:N4) (t:Bool):runOut [sfrom_con,sorder_con,sbelow_con] tys Tryz.f88 100 [cB32.enc b] [(4,[.s (cN4.enc v)]),(6,[.s (aV.enc t)])]=some (aV.enc t,[cN4.enc (fromN b)=cN4.enc v,aV.enc (bq v o4)=aV.enc t]):=by kernel_rfl
theorem canR {b:B32} (hb:BOk b):bq (fromN b) o4=canV b:=by
 obtain⟨h1,h2⟩:=fromN_val hb
 have ho:N4Ok o4:=o4_ok
 have hv:N4V o4=ordI:=by decide
 have hc:=NV_cast hb
 have hl:=ordI_cast
 cases h:canV b with
 | true=>
  have:=(canV_iff hb).1 h
  exact(belowW_iff h1 ho).2 (by rw[h2,hv];omega)
 | false=>
  cases h3:bq (fromN b) o4 with
  | false=>rfl
  | true=>
   have h4:=(belowW_iff h1 ho).1 h3
   rw[h2,hv] at h4
   have:=(canV_iff hb).2 (by omega)
   rw[h] at this
   cases this
theorem rcan_fn (b:B32) (hb:BOk b):FnOk Tryz.prog GX 88 [cB32.enc b] (aV.enc (canV b)):=by
 rw[←canR hb]
 exact FnOk.av ah mixed Tryz.func88 (rcan_ex b (fromN b) (bq (fromN b) o4)) ⟨rfl,rfl,trivial⟩ rfl rfl
noncomputable def rcan_con:Con Tryz.prog GX:=con1 88 Tryz.f88 Tryz.func88 (by kernel_rfl) (by kernel_rfl) cB32 (fun b=>aV.enc (canV b)) (fun b=>[BOk b]) (fun _=>rfl) (fun b h=>rcan_fn b h.1)
theorem small_key {b:B32} (hb:BOk b):errOf (qOk b)=(bif decOk b then 0 else 2)∧(decOk b=true→qsmallF b=eqB (encP (clrP (decP b))) zeroPt):=by
 rw[qOk_eq hb]
 refine⟨by cases decOk b<;>rfl,fun h=> ?_⟩
 obtain⟨q,hq⟩:=pt_of hb h
 rw[←all_small hb,small_val hq]
 unfold pclearB
 rw[h]
theorem ver_q {b s k:B32} (hb:BOk b) (h:decOk b=true) (hs:BOk s) (hk:BOk k):
  encQ (sumQ (oftenQ s (qP genPt)) (negQ (oftenQ k (qP b))))=encP (plusP (oftenP baseP s) (oftenP (negP (decP b)) k)):=by
 obtain⟨q,hq⟩:=pt_of hb h
 have h1:=(oftenQ_rep hs gen_pt.qdec.2 bC_on).sum (oftenQ_rep hk hq.qdec.2 hq.on).neg (nC_on bC_on _) (negC_on (nC_on hq.on _))
 have h2:=QPt h1 (addC_on (nC_on bC_on _) (negC_on (nC_on hq.on _)))
 have h3:=ver_pt hq hs hk
 rw[neg_mul hq.on] at h3
 exact(eqB_iff _ _).1 (h2.eq h3)
namespace rver
noncomputable abbrev fn:=Tryz.f93
noncomputable def body:Code:=bH fn
section
variable (H:List Int→B32) (hH:H=hashV)
noncomputable def Γ:Cons Tryz.prog G2:=[qsmall_con.lift gx_g2,rcan_con.lift gx_g2,qdec_con.lift gx_g2,qgen_con.lift gx_g2,hashed_con H hH,qoft_con.lift gx_g2,qminus_con.lift gx_g2,qsum_con.lift gx_g2,qenc_con.lift gx_g2]
theorem exwa (b:B32) (D:B64) (z:Bool) (ys:List Int) (n c:Nat) (ty:TypeId):runOutM (Γ H hH) tys fn 100 [⟨false,ty,.pre .u8 ys⟩] [cB32.enc b,.o (.a (.sld 0 0 0 n c)),cB64.enc D] [(18,[.s (flagZ z 2)])]=some ((cInt .i64).enc 2,[BOk b,flagZ (qsmallF b) (errOf (qOk b))=flagZ z 2,32≤64,32≤32,32≤32,32≤32]):=by kernel_rfl
theorem exwb (b:B32) (D:B64) (ys:List Int) (n c:Nat) (ty:TypeId):runOutM (Γ H hH) tys fn 100 [⟨false,ty,.pre .u8 ys⟩] [cB32.enc b,.o (.a (.sld 0 0 0 n c)),cB64.enc D] [(18,[.s (flagZ true 0)])]=some ((cInt .i64).enc 2,[BOk b,flagZ (qsmallF b) (errOf (qOk b))=flagZ true 0,32≤64,32≤32,32≤32,32≤32]):=by kernel_rfl
theorem exwc (b:B32) (D:B64) (ys:List Int) (n c:Nat) (ty:TypeId):runOutM (Γ H hH) tys fn 100 [⟨false,ty,.pre .u8 ys⟩] [cB32.enc b,.o (.a (.sld 0 0 0 n c)),cB64.enc D] [(18,[.s (flagZ false 0)]),(34,[.s (aV.enc false)])]=some ((cInt .i64).enc 2,[BOk b,flagZ (qsmallF b) (errOf (qOk b))=flagZ false 0,32≤64,32≤32,32≤32,32≤32,BOk (hi64 D),aV.enc (canV (hi64 D))=aV.enc false]):=by kernel_rfl
theorem exwd (b:B32) (D:B64) (A G S T U V:P16) (f g:Bool) (k E:B32) (ys:List Int) (n c:Nat) (ty:TypeId):runOutM (Γ H hH) tys fn 100 [⟨false,ty,.pre .u8 ys⟩] [cB32.enc b,.o (.a (.sld 0 0 0 n c)),cB64.enc D] [(18,[.s (flagZ false 0)]),(34,[.s (aV.enc true)]),(39,[.s (flagQ A f)]),(44,[.s (flagQ G g)]),(51,[.s (cB32.enc k)]),(54,[.s (cQ.enc S)]),(57,[.s (cQ.enc T)]),(58,[.s (cQ.enc U)]),(59,[.s (cQ.enc V)]),(60,[.s (cB32.enc E)]),(62,[.b true])]=some ((cInt .i64).enc 3,[BOk b,flagZ (qsmallF b) (errOf (qOk b))=flagZ false 0,32≤64,32≤32,32≤32,32≤32,BOk (hi64 D),aV.enc (canV (hi64 D))=aV.enc true,BOk b,flagQ (qP b) (qOk b)=flagQ A f,BOk genPt,flagQ (qP genPt) (qOk genPt)=flagQ G g,32≤32,32≤32,0+n≤ys.length,0<([(lo64 D).to,b.to,((ys.drop 0).take n)].headD []).length,(catL [(lo64 D).to,b.to,((ys.drop 0).take n)]).length≤140737488354000,cB32.enc (H (catL [(lo64 D).to,b.to,((ys.drop 0).take n)]))=cB32.enc k,QOk G,cQ.enc (oftenQ (hi64 D) G)=cQ.enc S,QOk A,cQ.enc (oftenQ k A)=cQ.enc T,QOk T,cQ.enc (negQ T)=cQ.enc U,QOk S,QOk U,cQ.enc (sumQ S U)=cQ.enc V,QOk V,cB32.enc (encQ V)=cB32.enc E,(!eqB E (lo64 D))=true]):=by kernel_rfl
theorem exwe (b:B32) (D:B64) (A G S T U V:P16) (f g:Bool) (k E:B32) (ys:List Int) (n c:Nat) (ty:TypeId):runOutM (Γ H hH) tys fn 100 [⟨false,ty,.pre .u8 ys⟩] [cB32.enc b,.o (.a (.sld 0 0 0 n c)),cB64.enc D] [(18,[.s (flagZ false 0)]),(34,[.s (aV.enc true)]),(39,[.s (flagQ A f)]),(44,[.s (flagQ G g)]),(51,[.s (cB32.enc k)]),(54,[.s (cQ.enc S)]),(57,[.s (cQ.enc T)]),(58,[.s (cQ.enc U)]),(59,[.s (cQ.enc V)]),(60,[.s (cB32.enc E)]),(62,[.b false])]=some ((cInt .i64).enc 0,[BOk b,flagZ (qsmallF b) (errOf (qOk b))=flagZ false 0,32≤64,32≤32,32≤32,32≤32,BOk (hi64 D),aV.enc (canV (hi64 D))=aV.enc true,BOk b,flagQ (qP b) (qOk b)=flagQ A f,BOk genPt,flagQ (qP genPt) (qOk genPt)=flagQ G g,32≤32,32≤32,0+n≤ys.length,0<([(lo64 D).to,b.to,((ys.drop 0).take n)].headD []).length,(catL [(lo64 D).to,b.to,((ys.drop 0).take n)]).length≤140737488354000,cB32.enc (H (catL [(lo64 D).to,b.to,((ys.drop 0).take n)]))=cB32.enc k,QOk G,cQ.enc (oftenQ (hi64 D) G)=cQ.enc S,QOk A,cQ.enc (oftenQ k A)=cQ.enc T,QOk T,cQ.enc (negQ T)=cQ.enc U,QOk S,QOk U,cQ.enc (sumQ S U)=cQ.enc V,QOk V,cB32.enc (encQ V)=cB32.enc E,(!eqB E (lo64 D))=false]):=by kernel_rfl
end
theorem runw (b:B32) (D:B64) (hB:BOk b) (hD:BOk (hi64 D)) (ys:List Int) (n c:Nat) (ty:TypeId) (hy:ys.length=n) (hn:n≤140737488353900):aB Tryz.prog G2 1 body (aD fn [cB32.enc b,.o (.a (.sld 0 0 0 n c)),cB64.enc D]) ([⟨false,ty,.pre .u8 ys⟩]) (aH tys fn (aX ((cInt .i64).enc (verV b ys D)) .none)):=by
 have hb:fn.body=some body:=by kernel_rfl
 have hl:∀q:B32,q.to.length=32:=fun _=>rfl
 have e:=dt0 ys n hy
 obtain⟨he,hz⟩:=small_key hB
 unfold verV
 cases h1:decOk b with
 | false=>
  rw[Bool.not_false,cond_true]
  exact bV ah mixed hb (exwa hashV rfl b D (qsmallF b) ys n c ty) ⟨hB,by rw[he,h1];rfl,by omega,by omega,by omega,by omega,trivial⟩
 | true=>
  rw[Bool.not_true,cond_false]
  cases h2:eqB (encP (clrP (decP b))) zeroPt with
  | true=>
   rw[cond_true]
   exact bV ah mixed hb (exwb hashV rfl b D ys n c ty) ⟨hB,by rw[hz h1,h2,he,h1];rfl,by omega,by omega,by omega,by omega,trivial⟩
  | false=>
   rw[cond_false]
   cases h3:canV (hi64 D) with
   | false=>
    rw[Bool.not_false,cond_true]
    exact bV ah mixed hb (exwc hashV rfl b D ys n c ty) ⟨hB,by rw[hz h1,h2,he,h1];rfl,by omega,by omega,by omega,by omega,hD,congrArg aV.enc h3,trivial⟩
   | true=>
    rw[Bool.not_true,cond_false]
    obtain⟨q,hq⟩:=pt_of hB h1
    have rS:=oftenQ_rep hD gen_pt.qdec.2 bC_on
    have rT:=oftenQ_rep (hashV_ok _:BOk (chkV b ys D)) hq.qdec.2 hq.on
    have rU:=rT.neg
    have rV:=rS.sum rU (nC_on bC_on _) (negC_on (nC_on hq.on _))
    have hA:=hq.qdec.2.ok
    have hG:=gen_pt.qdec.2.ok
    have hT:=rT.ok
    have hS:=rS.ok
    have hU:=rU.ok
    have hV:=rV.ok
    have hE:cB32.enc (encQ (sumQ (oftenQ (hi64 D) (qP genPt)) (negQ (oftenQ (chkV b ys D) (qP b)))))=cB32.enc (verB b ys D):=congrArg cB32.enc (ver_q hB h1 hD (hashV_ok _))
    cases h4:eqB (verB b ys D) (lo64 D) with
    | true=>
     rw[cond_true]
     exact bV ah mixed hb (exwe hashV rfl b D (qP b) (qP genPt) (oftenQ (hi64 D) (qP genPt)) (oftenQ (chkV b ys D) (qP b)) (negQ (oftenQ (chkV b ys D) (qP b))) (sumQ (oftenQ (hi64 D) (qP genPt)) (negQ (oftenQ (chkV b ys D) (qP b)))) (qOk b) (qOk genPt) (chkV b ys D) (verB b ys D) ys n c ty) ⟨(hB),(by rw[hz h1,h2,he,h1];rfl),(by omega),(by omega),(by omega),(by omega),(hD),(congrArg aV.enc h3),(hB),(rfl),(gen_pt.ok),(rfl),(by omega),(by omega),(by omega),(by show 0<32;omega),(by simp only[catL,List.length_append,List.length_nil,hl,e];omega),(by rw[e];rfl),(hG),(rfl),(hA),(rfl),(hT),(rfl),(hS),(hU),(rfl),(hV),(hE),(by rw[h4];rfl),(trivial)⟩
    | false=>
     rw[cond_false]
     exact bV ah mixed hb (exwd hashV rfl b D (qP b) (qP genPt) (oftenQ (hi64 D) (qP genPt)) (oftenQ (chkV b ys D) (qP b)) (negQ (oftenQ (chkV b ys D) (qP b))) (sumQ (oftenQ (hi64 D) (qP genPt)) (negQ (oftenQ (chkV b ys D) (qP b)))) (qOk b) (qOk genPt) (chkV b ys D) (verB b ys D) ys n c ty) ⟨(hB),(by rw[hz h1,h2,he,h1];rfl),(by omega),(by omega),(by omega),(by omega),(hD),(congrArg aV.enc h3),(hB),(rfl),(gen_pt.ok),(rfl),(by omega),(by omega),(by omega),(by show 0<32;omega),(by simp only[catL,List.length_append,List.length_nil,hl,e];omega),(by rw[e];rfl),(hG),(rfl),(hA),(rfl),(hT),(rfl),(hS),(hU),(rfl),(hV),(hE),(by rw[h4];rfl),(trivial)⟩
def spec (V:B32→List Int→B64→Int):List PArg→Option (SV × LEff × Cst)
 | [.val v,.win .u8 ys n ty,.val w]=>match cB32.dec v with
  | some b=>match cB64.dec w with
   | some D=>some ((cInt .i64).enc (V b ys D),.none,[BOk b,BOk (hi64 D),n≤140737488353900])
   | none=>none
  | none=>none
 | _=>none
noncomputable def con (V:B32→List Int→B64→Int) (hV:V=verV):Con Tryz.prog G2:=Con.parts ah 93 fn Tryz.func93 (by kernel_rfl) (c:=body) (by kernel_rfl) [.val,.win .u8,.val] (spec V)
 (fun ps r e p h hp=>by
  unfold spec at h
  split at h
  ·split at h
   ·split at h<;>cases h
    exact⟨rfl,fun b hb=>by simp only[bg,PArg.blk,List.nil_append,List.append_nil,List.mem_singleton] at hb;rw[hb]⟩
   ·cases h
  ·cases h)
 (fun ps r e p cap h hp hi=>by
  subst hV
  unfold spec at h
  split at h
  ·split at h
   ·rename_i b hb
    split at h<;>cases h
    rename_i D hD
    have:=cB32.ok _ _ hb
    subst this
    have:=cB64.ok _ _ hD
    subst this
    exact runw b D hp.1 hp.2.1 _ _ _ _ hi.2.1.1 hp.2.2.1
   ·cases h
  ·cases h)
end rver
end Go.Proofs.YtbfndladaldajaaGreatDoor
namespace Go.Proofs.YtbfndladaldajaaGreatDoor
open Go Go.Eng Go.RowKit Go.ChangeAt Go.ChangeShapes
set_option linter.unusedVariables false
theorem b64_of_list:∀(zs:List Int),zs.length=64→(∀z∈zs,(Lit.int .u8 z).wf=true)→∃b:B64,zs=b.to∧∀i,0≤b.at i∧b.at i<256
 | a0::a1::a2::a3::a4::a5::a6::a7::a8::a9::a10::a11::a12::a13::a14::a15::a16::a17::a18::a19::a20::a21::a22::a23::a24::a25::a26::a27::a28::a29::a30::a31::a32::a33::a34::a35::a36::a37::a38::a39::a40::a41::a42::a43::a44::a45::a46::a47::a48::a49::a50::a51::a52::a53::a54::a55::a56::a57::a58::a59::a60::a61::a62::a63::[],_,h=>by
  have h':∀z∈(a0::a1::a2::a3::a4::a5::a6::a7::a8::a9::a10::a11::a12::a13::a14::a15::a16::a17::a18::a19::a20::a21::a22::a23::a24::a25::a26::a27::a28::a29::a30::a31::a32::a33::a34::a35::a36::a37::a38::a39::a40::a41::a42::a43::a44::a45::a46::a47::a48::a49::a50::a51::a52::a53::a54::a55::a56::a57::a58::a59::a60::a61::a62::a63::[]:List Int),0≤z∧z<256:=fun z hz=>by
   have:=h z hz
   simp[Lit.wf,IntKind.min,IntKind.max,IntKind.signed,IntKind.bits] at this
   exact⟨this.1,by omega⟩
  have k:∀(n:Nat) (z:Int),(a0::a1::a2::a3::a4::a5::a6::a7::a8::a9::a10::a11::a12::a13::a14::a15::a16::a17::a18::a19::a20::a21::a22::a23::a24::a25::a26::a27::a28::a29::a30::a31::a32::a33::a34::a35::a36::a37::a38::a39::a40::a41::a42::a43::a44::a45::a46::a47::a48::a49::a50::a51::a52::a53::a54::a55::a56::a57::a58::a59::a60::a61::a62::a63::[]:List Int)[n]? =some z→0≤z∧z<256:=fun n z hz=>h' z (List.mem_of_getElem? hz)
  exact⟨⟨a0,a1,a2,a3,a4,a5,a6,a7,a8,a9,a10,a11,a12,a13,a14,a15,a16,a17,a18,a19,a20,a21,a22,a23,a24,a25,a26,a27,a28,a29,a30,a31,a32,a33,a34,a35,a36,a37,a38,a39,a40,a41,a42,a43,a44,a45,a46,a47,a48,a49,a50,a51,a52,a53,a54,a55,a56,a57,a58,a59,a60,a61,a62,a63⟩,rfl,fun i=>by
   unfold B64.at
   split<;>exact h' _ (by simp)⟩
end Go.Proofs.YtbfndladaldajaaGreatDoor

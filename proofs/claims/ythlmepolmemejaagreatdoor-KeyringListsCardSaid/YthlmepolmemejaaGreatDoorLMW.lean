/- Packages beaconref03, beaconref05: Canonical, Verify: walks, contracts. -/
import Derived.Test.YthlmepolmemejaaGreatDoorLMJ
import Derived.Test.YthlmepolmemejaaGreatDoorLMV
import Derived.Test.YthlmepolmemejaaGreatDoorLMA
import Derived.Test.YthlmepolmemejaaGreatDoorLMF
import Derived.Test.YthlmepolmemejaaGreatDoorLMD
set_option linter.unusedSimpArgs false
set_option linter.unusedVariables false
namespace Go.Proofs.YthlmepolmemejaaGreatDoor
open Go Go.Eng Go.RowKit
set_option maxRecDepth 100000
namespace sfr
noncomputable abbrev fn:=Tryz.f97
noncomputable def body:Code:=bZ fn
theorem ex (b:B32) (ty:TypeId):iY ([]:Cons Tryz.prog GX) tys fn 100 [⟨false,ty,.lit (ak.row b)⟩] [.o (.a (.slc 0 0 32 32))] []=some (cN4.enc (dM b),[]):=by kernel_rfl
theorem run (b:B32) (ty:TypeId):aK Tryz.prog GX 1 body (aH fn [.o (.a (.slc 0 0 32 32))]) [⟨false,ty,.lit (ak.row b)⟩] (aN tys fn (bA (cN4.enc (dM b)) .none)):=by
 have hb:fn.body=some body:=by kernel_rfl
 exact eZ ah mixed hb (ex b ty) trivial
end sfr
noncomputable def sfrom_con:Con Tryz.prog GX:=Con.hand ah 97 sfr.fn Tryz.func97 (by kernel_rfl) (c:=sfr.body) (by kernel_rfl) (Dec.slc Tryz.prog 32 ak (fun b=>cN4.enc (dM b)) (fun _=>[]) (fun _=>rfl)) (fun x hc _=>sfr.run x.1 x.2)
theorem rcan_ex (b:B32) (v:N4) (t:Bool):eP [sfrom_con,yg,yu] tys Tryz.f55 100 [ak.enc b] [(4,[.s (cN4.enc v)]),(6,[.s (aY.enc t)])]=some (aY.enc t,[cN4.enc (dM b)=cN4.enc v,aY.enc (bV v o4)=aY.enc t]):=by kernel_rfl
theorem canR {b:B32} (hb:BOk b):bV (dM b) o4=canV b:=by
 obtain⟨h1,h2⟩:=uO hb
 have ho:aj o4:=o4_ok
 have hv:N4V o4=bP:=by decide
 have hc:=uq hb
 have hl:=zZ
 cases h:canV b with
 | true=>
  have:=(canV_iff hb).1 h
  exact(kK h1 ho).2 (by rw[h2,hv];omega)
 | false=>
  cases h3:bV (dM b) o4 with
  | false=>rfl
  | true=>
   have h4:=(kK h1 ho).1 h3
   rw[h2,hv] at h4
   have:=(canV_iff hb).2 (by omega)
   rw[h] at this
   cases this
theorem rcan_fn (b:B32) (hb:BOk b):ay Tryz.prog GX 55 [ak.enc b] (aY.enc (canV b)):=by
 rw[←canR hb]
 exact ay.aD ah mixed Tryz.func55 (rcan_ex b (dM b) (bV (dM b) o4)) ⟨rfl,rfl,trivial⟩ rfl rfl
noncomputable def rcan_con:Con Tryz.prog GX:=fQ 55 Tryz.f55 Tryz.func55 (by kernel_rfl) (by kernel_rfl) ak (fun b=>aY.enc (canV b)) (fun b=>[BOk b]) (fun _=>rfl) (fun b h=>rcan_fn b h.1)
theorem small_key {b:B32} (hb:BOk b):gZ (qOk b)=(bif dG b then 0 else 2)∧(dG b=true→jq b=eqB (kS (clrP (decP b))) jQ):=by
 rw[qOk_eq hb]
 refine⟨by cases dG b<;>rfl,fun h=> ?_⟩
 obtain⟨q,hq⟩:=pt_of hb h
 rw[←all_small hb,small_val hq]
 unfold tX
 rw[h]
theorem ver_q {b s k:B32} (hb:BOk b) (h:dG b=true) (hs:BOk s) (hk:BOk k):
  encQ (jV (fK s (qP iC)) (negQ (fK k (qP b))))=kS (pQ (gU pW s) (gU (negP (decP b)) k)):=by
 obtain⟨q,hq⟩:=pt_of hb h
 have h1:=(qL hs gen_pt.qdec.2 oJ).sum (qL hk hq.qdec.2 hq.on).neg (iN oJ _) (kD (iN hq.on _))
 have h2:=QPt h1 (mE (iN oJ _) (kD (iN hq.on _)))
 have h3:=ver_pt hq hs hk
 rw[neg_mul hq.on] at h3
 exact(rZ _ _).1 (h2.eq h3)
namespace rver
noncomputable abbrev fn:=Tryz.f31
noncomputable def body:Code:=bZ fn
section
variable (H:List Int→B32) (hH:H=gq)
noncomputable def Γ:Cons Tryz.prog G2:=[yG.lift jh,rcan_con.lift jh,yJ.lift jh,qgen_con.lift jh,hashed_con H hH,yH.lift jh,qminus_con.lift jh,qsum_con.lift jh,yI.lift jh]
theorem exwa (b:B32) (D:B64) (z:Bool) (ys:List Int) (n c:Nat) (ty:TypeId):iY (Γ H hH) tys fn 100 [⟨false,ty,.pre .u8 ys⟩] [ak.enc b,.o (.a (.sld 0 0 0 n c)),bU.enc D] [(18,[.s (dw z 2)])]=some ((av .i64).enc 2,[BOk b,dw (jq b) (gZ (qOk b))=dw z 2,32≤64,32≤32,32≤32,32≤32]):=by kernel_rfl
theorem exwb (b:B32) (D:B64) (ys:List Int) (n c:Nat) (ty:TypeId):iY (Γ H hH) tys fn 100 [⟨false,ty,.pre .u8 ys⟩] [ak.enc b,.o (.a (.sld 0 0 0 n c)),bU.enc D] [(18,[.s (dw true 0)])]=some ((av .i64).enc 2,[BOk b,dw (jq b) (gZ (qOk b))=dw true 0,32≤64,32≤32,32≤32,32≤32]):=by kernel_rfl
theorem exwc (b:B32) (D:B64) (ys:List Int) (n c:Nat) (ty:TypeId):iY (Γ H hH) tys fn 100 [⟨false,ty,.pre .u8 ys⟩] [ak.enc b,.o (.a (.sld 0 0 0 n c)),bU.enc D] [(18,[.s (dw false 0)]),(34,[.s (aY.enc false)])]=some ((av .i64).enc 2,[BOk b,dw (jq b) (gZ (qOk b))=dw false 0,32≤64,32≤32,32≤32,32≤32,BOk (fB D),aY.enc (canV (fB D))=aY.enc false]):=by kernel_rfl
theorem exwd (b:B32) (D:B64) (A G S T U V:P16) (f g:Bool) (k E:B32) (ys:List Int) (n c:Nat) (ty:TypeId):iY (Γ H hH) tys fn 100 [⟨false,ty,.pre .u8 ys⟩] [ak.enc b,.o (.a (.sld 0 0 0 n c)),bU.enc D] [(18,[.s (dw false 0)]),(34,[.s (aY.enc true)]),(39,[.s (ji A f)]),(44,[.s (ji G g)]),(51,[.s (ak.enc k)]),(54,[.s (cQ.enc S)]),(57,[.s (cQ.enc T)]),(58,[.s (cQ.enc U)]),(59,[.s (cQ.enc V)]),(60,[.s (ak.enc E)]),(62,[.b true])]=some ((av .i64).enc 3,[BOk b,dw (jq b) (gZ (qOk b))=dw false 0,32≤64,32≤32,32≤32,32≤32,BOk (fB D),aY.enc (canV (fB D))=aY.enc true,BOk b,ji (qP b) (qOk b)=ji A f,BOk iC,ji (qP iC) (qOk iC)=ji G g,32≤32,32≤32,0+n≤ys.length,0<([(lo64 D).to,b.to,((ys.drop 0).take n)].headD []).length,(aZ [(lo64 D).to,b.to,((ys.drop 0).take n)]).length≤140737488354000,ak.enc (H (aZ [(lo64 D).to,b.to,((ys.drop 0).take n)]))=ak.enc k,QOk G,cQ.enc (fK (fB D) G)=cQ.enc S,QOk A,cQ.enc (fK k A)=cQ.enc T,QOk T,cQ.enc (negQ T)=cQ.enc U,QOk S,QOk U,cQ.enc (jV S U)=cQ.enc V,QOk V,ak.enc (encQ V)=ak.enc E,(!eqB E (lo64 D))=true]):=by kernel_rfl
theorem exwe (b:B32) (D:B64) (A G S T U V:P16) (f g:Bool) (k E:B32) (ys:List Int) (n c:Nat) (ty:TypeId):iY (Γ H hH) tys fn 100 [⟨false,ty,.pre .u8 ys⟩] [ak.enc b,.o (.a (.sld 0 0 0 n c)),bU.enc D] [(18,[.s (dw false 0)]),(34,[.s (aY.enc true)]),(39,[.s (ji A f)]),(44,[.s (ji G g)]),(51,[.s (ak.enc k)]),(54,[.s (cQ.enc S)]),(57,[.s (cQ.enc T)]),(58,[.s (cQ.enc U)]),(59,[.s (cQ.enc V)]),(60,[.s (ak.enc E)]),(62,[.b false])]=some ((av .i64).enc 0,[BOk b,dw (jq b) (gZ (qOk b))=dw false 0,32≤64,32≤32,32≤32,32≤32,BOk (fB D),aY.enc (canV (fB D))=aY.enc true,BOk b,ji (qP b) (qOk b)=ji A f,BOk iC,ji (qP iC) (qOk iC)=ji G g,32≤32,32≤32,0+n≤ys.length,0<([(lo64 D).to,b.to,((ys.drop 0).take n)].headD []).length,(aZ [(lo64 D).to,b.to,((ys.drop 0).take n)]).length≤140737488354000,ak.enc (H (aZ [(lo64 D).to,b.to,((ys.drop 0).take n)]))=ak.enc k,QOk G,cQ.enc (fK (fB D) G)=cQ.enc S,QOk A,cQ.enc (fK k A)=cQ.enc T,QOk T,cQ.enc (negQ T)=cQ.enc U,QOk S,QOk U,cQ.enc (jV S U)=cQ.enc V,QOk V,ak.enc (encQ V)=ak.enc E,(!eqB E (lo64 D))=false]):=by kernel_rfl
end
theorem runw (b:B32) (D:B64) (hB:BOk b) (hD:BOk (fB D)) (ys:List Int) (n c:Nat) (ty:TypeId) (hy:ys.length=n) (hn:n≤140737488353900):aK Tryz.prog G2 1 body (aH fn [ak.enc b,.o (.a (.sld 0 0 0 n c)),bU.enc D]) ([⟨false,ty,.pre .u8 ys⟩]) (aN tys fn (bA ((av .i64).enc (verV b ys D)) .none)):=by
 have hb:fn.body=some body:=by kernel_rfl
 have hl:∀q:B32,q.to.length=32:=fun _=>rfl
 have e:=dt0 ys n hy
 obtain⟨he,hz⟩:=small_key hB
 unfold verV
 cases h1:dG b with
 | false=>
  rw[Bool.not_false,cond_true]
  exact eZ ah mixed hb (exwa gq rfl b D (jq b) ys n c ty) ⟨hB,by rw[he,h1];rfl,by omega,by omega,by omega,by omega,trivial⟩
 | true=>
  rw[Bool.not_true,cond_false]
  cases h2:eqB (kS (clrP (decP b))) jQ with
  | true=>
   rw[cond_true]
   exact eZ ah mixed hb (exwb gq rfl b D ys n c ty) ⟨hB,by rw[hz h1,h2,he,h1];rfl,by omega,by omega,by omega,by omega,trivial⟩
  | false=>
   rw[cond_false]
   cases h3:canV (fB D) with
   | false=>
    rw[Bool.not_false,cond_true]
    exact eZ ah mixed hb (exwc gq rfl b D ys n c ty) ⟨hB,by rw[hz h1,h2,he,h1];rfl,by omega,by omega,by omega,by omega,hD,congrArg aY.enc h3,trivial⟩
   | true=>
    rw[Bool.not_true,cond_false]
    obtain⟨q,hq⟩:=pt_of hB h1
    have rS:=qL hD gen_pt.qdec.2 oJ
    have rT:=qL (uo _:BOk (chkV b ys D)) hq.qdec.2 hq.on
    have rU:=rT.neg
    have rV:=rS.sum rU (iN oJ _) (kD (iN hq.on _))
    have hA:=hq.qdec.2.ok
    have hG:=gen_pt.qdec.2.ok
    have hT:=rT.ok
    have hS:=rS.ok
    have hU:=rU.ok
    have hV:=rV.ok
    have hE:ak.enc (encQ (jV (fK (fB D) (qP iC)) (negQ (fK (chkV b ys D) (qP b)))))=ak.enc (verB b ys D):=congrArg ak.enc (ver_q hB h1 hD (uo _))
    cases h4:eqB (verB b ys D) (lo64 D) with
    | true=>
     rw[cond_true]
     exact eZ ah mixed hb (exwe gq rfl b D (qP b) (qP iC) (fK (fB D) (qP iC)) (fK (chkV b ys D) (qP b)) (negQ (fK (chkV b ys D) (qP b))) (jV (fK (fB D) (qP iC)) (negQ (fK (chkV b ys D) (qP b)))) (qOk b) (qOk iC) (chkV b ys D) (verB b ys D) ys n c ty) ⟨(hB),(by rw[hz h1,h2,he,h1];rfl),(by omega),(by omega),(by omega),(by omega),(hD),(congrArg aY.enc h3),(hB),(rfl),(gen_pt.ok),(rfl),(by omega),(by omega),(by omega),(by show 0<32;omega),(by simp only[aZ,List.length_append,List.length_nil,hl,e];omega),(by rw[e];rfl),(hG),(rfl),(hA),(rfl),(hT),(rfl),(hS),(hU),(rfl),(hV),(hE),(by rw[h4];rfl),(trivial)⟩
    | false=>
     rw[cond_false]
     exact eZ ah mixed hb (exwd gq rfl b D (qP b) (qP iC) (fK (fB D) (qP iC)) (fK (chkV b ys D) (qP b)) (negQ (fK (chkV b ys D) (qP b))) (jV (fK (fB D) (qP iC)) (negQ (fK (chkV b ys D) (qP b)))) (qOk b) (qOk iC) (chkV b ys D) (verB b ys D) ys n c ty) ⟨(hB),(by rw[hz h1,h2,he,h1];rfl),(by omega),(by omega),(by omega),(by omega),(hD),(congrArg aY.enc h3),(hB),(rfl),(gen_pt.ok),(rfl),(by omega),(by omega),(by omega),(by show 0<32;omega),(by simp only[aZ,List.length_append,List.length_nil,hl,e];omega),(by rw[e];rfl),(hG),(rfl),(hA),(rfl),(hT),(rfl),(hS),(hU),(rfl),(hV),(hE),(by rw[h4];rfl),(trivial)⟩
def spec (V:B32→List Int→B64→Int):List aV→Option (SV × dh × Cst)
 | [.val v,.win .u8 ys n ty,.val w]=>match ak.dec v with
  | some b=>match bU.dec w with
   | some D=>some ((av .i64).enc (V b ys D),.none,[BOk b,BOk (fB D),n≤140737488353900])
   | none=>none
  | none=>none
 | _=>none
noncomputable def con (V:B32→List Int→B64→Int) (hV:V=verV):Con Tryz.prog G2:=Con.parts ah 31 fn Tryz.func31 (by kernel_rfl) (c:=body) (by kernel_rfl) [.val,.win .u8,.val] (spec V)
 (fun ps r e p h hp=>by
  unfold spec at h
  split at h
  ·split at h
   ·split at h<;>cases h
    exact⟨rfl,fun b hb=>by simp only[bG,aV.blk,List.nil_append,List.append_nil,List.mem_singleton] at hb;rw[hb]⟩
   ·cases h
  ·cases h)
 (fun ps r e p cap h hp hi=>by
  subst hV
  unfold spec at h
  split at h
  ·split at h
   ·rename_i b hb
    split at h<;>cases h
    rename_i D hD
    have:=ak.ok _ _ hb
    subst this
    have:=bU.ok _ _ hD
    subst this
    exact runw b D hp.1 hp.2.1 _ _ _ _ hi.2.1.1 hp.2.2.1
   ·cases h
  ·cases h)
end rver
end Go.Proofs.YthlmepolmemejaaGreatDoor

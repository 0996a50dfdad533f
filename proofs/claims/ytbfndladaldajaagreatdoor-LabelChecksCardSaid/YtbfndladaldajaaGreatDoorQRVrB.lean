/- Package beaconref06: Prove, Verify: walks, contracts. -/
import Derived.Test.YtbfndladaldajaaGreatDoorQRVrA
namespace Go.Proofs.YtbfndladaldajaaGreatDoor
open Go Go.Eng Go.RowKit
set_option linter.unusedVariables false
set_option linter.unusedSimpArgs false
set_option maxRecDepth 100000
theorem ver_q2 {a b s k:B32} {P:P20} {x y:Pt} (ha:PtB a x) (hP:Rep P x) (hb:PtB b y) (hs:BOk s) (hk:BOk k):
  encQ (sumQ (aU s (qP a)) (negQ (aU k (qP b))))=encP (plusP (aW P s) (aW (negP (decP b)) k)):=by
 have h1:=(oftenQ_rep hs ha.qdec.2 ha.on).sum (oftenQ_rep hk hb.qdec.2 hb.on).neg (bn ha.on _) (dH (bn hb.on _))
 have h2:=QPt h1 (addC_on (bn ha.on _) (dH (bn hb.on _)))
 have h3:=PtB.enc ((often_rep hP ha.on hs).plus (often_rep hb.dec.2.neg (dH hb.on) hk) (bn ha.on _) (bn (dH hb.on) _)) (addC_on (bn ha.on _) (bn (dH hb.on) _))
 rw[neg_mul hb.on] at h3
 exact(eqB_iff _ _).1 (h2.eq h3)
namespace rprv
noncomputable abbrev fn:=Tryz.f28
noncomputable def body:Code:=bS fn
section
variable (N P:B32→B32) (hN:N=numV) (hP:P=pfxV) (I:B32→List Int→SV) (hI:I=rinR) (H:List Int→B32) (hH:H=hashV) (C:P5→B32) (hC:C=chlV)
noncomputable def Γ:Cons Tryz.prog G2:=[halv.con N P hN hP,qbase_con.lift gx_g2,rin.con I hI,qmul_con.lift gx_g2,hashed_con H hH,rchl_con C hC,smul_con.lift gx_g2]
theorem exwn (b:B32) (y:B32) (ys:List Int) (n c:Nat) (ty:TypeId):aZ (Γ N P hN hP I hI H hH C hC) tys fn 100 [⟨false,ty,.pre .u8 ys⟩] [cB32.enc b,.o (.a (.sld 0 0 0 n c))] [(25,[.s (cB32.enc y)]),(29,[.s (flagI aY false)])]=some (pairP zeroB80 4,[cB32.enc (qbaseB (N b))=cB32.enc y,0+n≤ys.length,n≤c,n≤140737488353900,I y ((ys.drop 0).take n)=flagI aY false]):=by kernel_rfl
theorem exwy (b:B32) (y e g k w u c' t:B32) (f f':Int) (ys:List Int) (n c:Nat) (ty:TypeId):aZ (Γ N P hN hP I hI H hH C hC) tys fn 100 [⟨false,ty,.pre .u8 ys⟩] [cB32.enc b,.o (.a (.sld 0 0 0 n c))] [(25,[.s (cB32.enc y)]),(29,[.s (flagI e true)]),(38,[.s (bM g f)]),(44,[.s (cB32.enc k)]),(48,[.s (bM w f')]),(55,[.s (cB32.enc u)]),(57,[.s (cB32.enc c')]),(61,[.s (cB32.enc t)])]=some (pairP (cat80 g c' t) 0,[cB32.enc (qbaseB (N b))=cB32.enc y,0+n≤ys.length,n≤c,n≤140737488353900,I y ((ys.drop 0).take n)=flagI e true,BOk e,bM (qmulB (N b) e) (errOf (qOk e))=bM g f,0+32≤(P b).to.length,32≤32,0<([((P b).to.drop 0).take 32,e.to].headD []).length,(catL [((P b).to.drop 0).take 32,e.to]).length≤140737488354000,cB32.enc (H (catL [((P b).to.drop 0).take 32,e.to]))=cB32.enc k,BOk e,bM (qmulB k e) (errOf (qOk e))=bM w f',cB32.enc (qbaseB k)=cB32.enc u,cB32.enc (C ⟨y,e,g,u,w⟩)=cB32.enc c',cB32.enc (smulB c' (N b) k)=cB32.enc t,32≤32,32≤80,16≤32,16≤48,32≤32,32≤32]):=by kernel_rfl
end
theorem runw (b:B32) (ys:List Int) (n c:Nat) (ty:TypeId) (hy:ys.length=n) (hc:n≤c) (hn:n≤140737488353900):aG Tryz.prog G2 1 body (aA fn [cB32.enc b,.o (.a (.sld 0 0 0 n c))]) ([⟨false,ty,.pre .u8 ys⟩]) (aD tys fn (aX (prvR b ys) .none)):=by
 have hb:fn.body=some body:=by kernel_rfl
 have hl:∀q:B32,q.to.length=32:=fun _=>rfl
 have e:=dt0 ys n hy
 unfold prvR
 cases h1:inOk (pubV b) ys with
 | false=>
  rw[cond_false]
  have hi:rinR (pubV b) ys=flagI aY false:=by unfold rinR;rw[h1,cond_false]
  exact aM ah mixed hb (exwn numV pfxV rfl rfl rinR rfl hashV rfl chlV rfl b (pubV b) ys n c ty) ⟨rfl,by omega,hc,hn,by rw[e];exact hi,trivial⟩
 | true=>
  rw[cond_true]
  have hi:rinR (pubV b) ys=flagI (phV b ys) true:=by unfold rinR;rw[h1,cond_true];rfl
  obtain⟨q,hq,hr⟩:=in_pt h1
  have hr:Rep (eV b ys) (nC q 8):=hr
  have hh:PtB (phV b ys) (nC q 8):=PtB.enc hr (bn hq 8)
  have hk:BOk (pkV b ys):=hashV_ok _
  have he:errOf (qOk (phV b ys))=0:=by rw[hh.qdec.1];rfl
  have hg:qmulB (numV b) (phV b ys)=pgV b ys:=(eqB_iff _ _).1 ((qmul_pt (numV_ok b) hh).eq (prf_g (bn hq 8) hr))
  have hw:qmulB (pkV b ys) (phV b ys)=pvV b ys:=(eqB_iff _ _).1 ((qmul_pt hk hh).eq (PtB.enc (often_rep hr (bn hq 8) hk) (bn (bn hq 8) _)))
  have hx:catL [((pfxV b).to.drop 0).take 32,(phV b ys).to]=catL [(pfxV b).to,(phV b ys).to]:=by rw[dt0 _ _ (hl (pfxV b))]
  exact aM ah mixed hb (exwy numV pfxV rfl rfl rinR rfl hashV rfl chlV rfl b (pubV b) (phV b ys) (pgV b ys) (pkV b ys) (pvV b ys) (puV b ys) (pcV b ys) (ptV' b ys) 0 0 ys n c ty) ⟨rfl,by omega,hc,hn,by rw[e];exact hi,hh.ok,by rw[hg,he],by rw[hl];omega,by omega,by rw[dt0 _ _ (hl (pfxV b))];show 0<32;omega,by rw[hx];simp only[catL,List.length_append,List.length_nil,hl];omega,by rw[hx];rfl,hh.ok,by rw[hw,he],congrArg cB32.enc (base_same hk).symm,rfl,rfl,by omega,by omega,by omega,by omega,by omega,by omega,trivial⟩
section
variable (N P:B32→B32) (hN:N=numV) (hP:P=pfxV) (I:B32→List Int→SV) (hI:I=rinR) (H:List Int→B32) (hH:H=hashV) (C:P5→B32) (hC:C=chlV) (b:B32)
theorem exvn (y:B32) (a:Option Addr):aZ (Γ N P hN hP I hI H hH C hC) tys fn 100 [] [cB32.enc b,.o (.a (.v (.slice a 0 0)))] [(25,[.s (cB32.enc y)]),(29,[.s (flagI aY false)])]=some (pairP zeroB80 4,[cB32.enc (qbaseB (N b))=cB32.enc y,I y []=flagI aY false]):=by kernel_rfl
theorem exvy (y e g k w u c' t:B32) (f f':Int) (a:Option Addr):aZ (Γ N P hN hP I hI H hH C hC) tys fn 100 [] [cB32.enc b,.o (.a (.v (.slice a 0 0)))] [(25,[.s (cB32.enc y)]),(29,[.s (flagI e true)]),(38,[.s (bM g f)]),(44,[.s (cB32.enc k)]),(48,[.s (bM w f')]),(55,[.s (cB32.enc u)]),(57,[.s (cB32.enc c')]),(61,[.s (cB32.enc t)])]=some (pairP (cat80 g c' t) 0,[cB32.enc (qbaseB (N b))=cB32.enc y,I y []=flagI e true,BOk e,bM (qmulB (N b) e) (errOf (qOk e))=bM g f,0+32≤(P b).to.length,32≤32,0<([((P b).to.drop 0).take 32,e.to].headD []).length,(catL [((P b).to.drop 0).take 32,e.to]).length≤140737488354000,cB32.enc (H (catL [((P b).to.drop 0).take 32,e.to]))=cB32.enc k,BOk e,bM (qmulB k e) (errOf (qOk e))=bM w f',cB32.enc (qbaseB k)=cB32.enc u,cB32.enc (C ⟨y,e,g,u,w⟩)=cB32.enc c',cB32.enc (smulB c' (N b) k)=cB32.enc t,32≤32,32≤80,16≤32,16≤48,32≤32,32≤32]):=by kernel_rfl
end
theorem runv (b:B32) (a:Option Addr):aG Tryz.prog G2 0 body (aA fn [cB32.enc b,.o (.a (.v (.slice a 0 0)))]) ([]) (aD tys fn (aX (prvR b []) .none)):=by
 have hb:fn.body=some body:=by kernel_rfl
 have hl:∀q:B32,q.to.length=32:=fun _=>rfl
 unfold prvR
 cases h1:inOk (pubV b) [] with
 | false=>
  rw[cond_false]
  have hi:rinR (pubV b) []=flagI aY false:=by unfold rinR;rw[h1,cond_false]
  exact aM ah mixed hb (exvn numV pfxV rfl rfl rinR rfl hashV rfl chlV rfl b (pubV b) a) ⟨rfl,by exact hi,trivial⟩
 | true=>
  rw[cond_true]
  have hi:rinR (pubV b) []=flagI (phV b []) true:=by unfold rinR;rw[h1,cond_true];rfl
  obtain⟨q,hq,hr⟩:=in_pt h1
  have hr:Rep (eV b []) (nC q 8):=hr
  have hh:PtB (phV b []) (nC q 8):=PtB.enc hr (bn hq 8)
  have hk:BOk (pkV b []):=hashV_ok _
  have he:errOf (qOk (phV b []))=0:=by rw[hh.qdec.1];rfl
  have hg:qmulB (numV b) (phV b [])=pgV b []:=(eqB_iff _ _).1 ((qmul_pt (numV_ok b) hh).eq (prf_g (bn hq 8) hr))
  have hw:qmulB (pkV b []) (phV b [])=pvV b []:=(eqB_iff _ _).1 ((qmul_pt hk hh).eq (PtB.enc (often_rep hr (bn hq 8) hk) (bn (bn hq 8) _)))
  have hx:catL [((pfxV b).to.drop 0).take 32,(phV b []).to]=catL [(pfxV b).to,(phV b []).to]:=by rw[dt0 _ _ (hl (pfxV b))]
  exact aM ah mixed hb (exvy numV pfxV rfl rfl rinR rfl hashV rfl chlV rfl b (pubV b) (phV b []) (pgV b []) (pkV b []) (pvV b []) (puV b []) (pcV b []) (ptV' b []) 0 0 a) ⟨rfl,by exact hi,hh.ok,by rw[hg,he],by rw[hl];omega,by omega,by rw[dt0 _ _ (hl (pfxV b))];show 0<32;omega,by rw[hx];simp only[catL,List.length_append,List.length_nil,hl];omega,by rw[hx];rfl,hh.ok,by rw[hw,he],congrArg cB32.enc (base_same hk).symm,rfl,rfl,by omega,by omega,by omega,by omega,by omega,by omega,trivial⟩
def spec (V:B32→List Int→SV):List PArg→Option (SV × LEff × Cst)
 | [.val v,.win .u8 ys n ty]=>match cB32.dec v with
  | some b=>some (V b ys,.none,[n≤140737488353900])
  | none=>none
 | [.val v,.val (.o (.a (.v (.slice _ 0 0))))]=>match cB32.dec v with
  | some b=>some (V b [],.none,[])
  | none=>none
 | _=>none
noncomputable def con (V:B32→List Int→SV) (hV:V=prvR):Con Tryz.prog G2:=Con.parts ah 28 fn Tryz.func28 (by kernel_rfl) (c:=body) (by kernel_rfl) [.val,.win .u8] (spec V)
 (fun ps r e p h hp=>by
  subst hV
  unfold spec at h
  split at h
  ·split at h<;>cases h
   exact⟨prvR_ids _ _,fun b hb=>by simp only[bR,PArg.blk,List.nil_append,List.append_nil,List.mem_singleton] at hb;rw[hb]⟩
  ·split at h<;>cases h
   exact⟨prvR_ids _ _,fun b hb=>by cases hb⟩
  ·cases h)
 (fun ps r e p cap h hp hi=>by
  subst hV
  unfold spec at h
  split at h
  ·split at h<;>cases h
   rename_i b hb
   have:=cB32.ok _ _ hb
   subst this
   exact runw b _ _ _ _ hi.2.1.1 hi.2.1.2 hp.1
  ·split at h<;>cases h
   rename_i b hb
   have:=cB32.ok _ _ hb
   subst this
   exact runv b _
  ·cases h)
end rprv
namespace rvfy
noncomputable abbrev fn:=Tryz.f30
noncomputable def body:Code:=bS fn
section
variable (I:B32→List Int→SV) (hI:I=rinR) (C:P5→B32) (hC:C=chlV)
noncomputable def Γ:Cons Tryz.prog G2:=[qsmall_con.lift gx_g2,rOut_con,rin.con I hI,rprt_con,qdec_con.lift gx_g2,qgen_con.lift gx_g2,qoft_con.lift gx_g2,qminus_con.lift gx_g2,qsum_con.lift gx_g2,qenc_con.lift gx_g2,rchl_con C hC]
theorem exwa (b:B32) (D:B80) (x:B64) (z:Bool) (f:Int) (ys:List Int) (n c:Nat) (ty:TypeId):aZ (Γ I hI C hC) tys fn 100 [⟨false,ty,.pre .u8 ys⟩] [cB32.enc b,.o (.a (.sld 0 0 0 n c)),cB80.enc D] [(29,[.s (flagZ z 2)]),(34,[.s (aC x f)])]=some (aC zeroC 2,[BOk b,flagZ (qsmallF b) (errOf (qOk b))=flagZ z 2,D.Ok,outSV D=aC x f]):=by kernel_rfl
theorem exwb (b:B32) (D:B80) (x:B64) (f:Int) (ys:List Int) (n c:Nat) (ty:TypeId):aZ (Γ I hI C hC) tys fn 100 [⟨false,ty,.pre .u8 ys⟩] [cB32.enc b,.o (.a (.sld 0 0 0 n c)),cB80.enc D] [(29,[.s (flagZ true 0)]),(34,[.s (aC x f)])]=some (aC zeroC 2,[BOk b,flagZ (qsmallF b) (errOf (qOk b))=flagZ true 0,D.Ok,outSV D=aC x f]):=by kernel_rfl
theorem exwc (b:B32) (D:B80) (x:B64) (ys:List Int) (n c:Nat) (ty:TypeId):aZ (Γ I hI C hC) tys fn 100 [⟨false,ty,.pre .u8 ys⟩] [cB32.enc b,.o (.a (.sld 0 0 0 n c)),cB80.enc D] [(29,[.s (flagZ false 0)]),(34,[.s (aC x 2)])]=some (aC zeroC 2,[BOk b,flagZ (qsmallF b) (errOf (qOk b))=flagZ false 0,D.Ok,outSV D=aC x 2]):=by kernel_rfl
theorem exwd (b:B32) (D:B80) (x:B64) (ys:List Int) (n c:Nat) (ty:TypeId):aZ (Γ I hI C hC) tys fn 100 [⟨false,ty,.pre .u8 ys⟩] [cB32.enc b,.o (.a (.sld 0 0 0 n c)),cB80.enc D] [(29,[.s (flagZ false 0)]),(34,[.s (aC x 0)]),(50,[.s (flagI aY false)])]=some (aC zeroC 4,[BOk b,flagZ (qsmallF b) (errOf (qOk b))=flagZ false 0,D.Ok,outSV D=aC x 0,0+n≤ys.length,n≤c,n≤140737488353900,I b ((ys.drop 0).take n)=flagI aY false]):=by kernel_rfl
theorem exwe (b:B32) (D:B80) (x:B64) (h u w k:B32) (Y E G B S1 T1 U1 V1 S2 T2 U2 V2:P16) (y' e' g' b':Bool) (ys:List Int) (n c:Nat) (ty:TypeId):aZ (Γ I hI C hC) tys fn 100 [⟨false,ty,.pre .u8 ys⟩] [cB32.enc b,.o (.a (.sld 0 0 0 n c)),cB80.enc D] [(29,[.s (flagZ false 0)]),(34,[.s (aC x 0)]),(50,[.s (flagI h true)]),(64,[.s (bL Y y')]),(69,[.s (bL E e')]),(74,[.s (bL G g')]),(79,[.s (bL B b')]),(84,[.s (cQ.enc S1)]),(87,[.s (cQ.enc T1)]),(88,[.s (cQ.enc U1)]),(89,[.s (cQ.enc V1)]),(90,[.s (cB32.enc u)]),(93,[.s (cQ.enc S2)]),(96,[.s (cQ.enc T2)]),(97,[.s (cQ.enc U2)]),(98,[.s (cQ.enc V2)]),(99,[.s (cB32.enc w)]),(105,[.s (cB32.enc k)]),(107,[.b true])]=some (aC zeroC 3,[BOk b,flagZ (qsmallF b) (errOf (qOk b))=flagZ false 0,D.Ok,outSV D=aC x 0,0+n≤ys.length,n≤c,n≤140737488353900,I b ((ys.drop 0).take n)=flagI h true,BOk b,bL (qP b) (qOk b)=bL Y y',BOk h,bL (qP h) (qOk h)=bL E e',BOk (g80 D),bL (qP (g80 D)) (qOk (g80 D))=bL G g',BOk genPt,bL (qP genPt) (qOk genPt)=bL B b',QOk B,cQ.enc (aU (t80 D) B)=cQ.enc S1,QOk Y,cQ.enc (aU (c80 D) Y)=cQ.enc T1,QOk T1,cQ.enc (negQ T1)=cQ.enc U1,QOk S1,QOk U1,cQ.enc (sumQ S1 U1)=cQ.enc V1,QOk V1,cB32.enc (encQ V1)=cB32.enc u,QOk E,cQ.enc (aU (t80 D) E)=cQ.enc S2,QOk G,cQ.enc (aU (c80 D) G)=cQ.enc T2,QOk T2,cQ.enc (negQ T2)=cQ.enc U2,QOk S2,QOk U2,cQ.enc (sumQ S2 U2)=cQ.enc V2,QOk V2,cB32.enc (encQ V2)=cB32.enc w,cB32.enc (C ⟨b,h,g80 D,u,w⟩)=cB32.enc k,(!eqB k (c80 D))=true]):=by kernel_rfl
theorem exwf (b:B32) (D:B80) (x:B64) (h u w k:B32) (Y E G B S1 T1 U1 V1 S2 T2 U2 V2:P16) (y' e' g' b':Bool) (ys:List Int) (n c:Nat) (ty:TypeId):aZ (Γ I hI C hC) tys fn 100 [⟨false,ty,.pre .u8 ys⟩] [cB32.enc b,.o (.a (.sld 0 0 0 n c)),cB80.enc D] [(29,[.s (flagZ false 0)]),(34,[.s (aC x 0)]),(50,[.s (flagI h true)]),(64,[.s (bL Y y')]),(69,[.s (bL E e')]),(74,[.s (bL G g')]),(79,[.s (bL B b')]),(84,[.s (cQ.enc S1)]),(87,[.s (cQ.enc T1)]),(88,[.s (cQ.enc U1)]),(89,[.s (cQ.enc V1)]),(90,[.s (cB32.enc u)]),(93,[.s (cQ.enc S2)]),(96,[.s (cQ.enc T2)]),(97,[.s (cQ.enc U2)]),(98,[.s (cQ.enc V2)]),(99,[.s (cB32.enc w)]),(105,[.s (cB32.enc k)]),(107,[.b false])]=some (aC x 0,[BOk b,flagZ (qsmallF b) (errOf (qOk b))=flagZ false 0,D.Ok,outSV D=aC x 0,0+n≤ys.length,n≤c,n≤140737488353900,I b ((ys.drop 0).take n)=flagI h true,BOk b,bL (qP b) (qOk b)=bL Y y',BOk h,bL (qP h) (qOk h)=bL E e',BOk (g80 D),bL (qP (g80 D)) (qOk (g80 D))=bL G g',BOk genPt,bL (qP genPt) (qOk genPt)=bL B b',QOk B,cQ.enc (aU (t80 D) B)=cQ.enc S1,QOk Y,cQ.enc (aU (c80 D) Y)=cQ.enc T1,QOk T1,cQ.enc (negQ T1)=cQ.enc U1,QOk S1,QOk U1,cQ.enc (sumQ S1 U1)=cQ.enc V1,QOk V1,cB32.enc (encQ V1)=cB32.enc u,QOk E,cQ.enc (aU (t80 D) E)=cQ.enc S2,QOk G,cQ.enc (aU (c80 D) G)=cQ.enc T2,QOk T2,cQ.enc (negQ T2)=cQ.enc U2,QOk S2,QOk U2,cQ.enc (sumQ S2 U2)=cQ.enc V2,QOk V2,cB32.enc (encQ V2)=cB32.enc w,cB32.enc (C ⟨b,h,g80 D,u,w⟩)=cB32.enc k,(!eqB k (c80 D))=false]):=by kernel_rfl
end
theorem runw (b:B32) (D:B80) (hB:BOk b) (hD:D.Ok) (ys:List Int) (n c:Nat) (ty:TypeId) (hy:ys.length=n) (hc:n≤c) (hn:n≤140737488353900):aG Tryz.prog G2 1 body (aA fn [cB32.enc b,.o (.a (.sld 0 0 0 n c)),cB80.enc D]) ([⟨false,ty,.pre .u8 ys⟩]) (aD tys fn (aX (vfyR b ys D) .none)):=by
 have hb:fn.body=some body:=by kernel_rfl
 have e:=dt0 ys n hy
 obtain⟨he,hz⟩:=small_key hB
 have hoF:okV D=false→outSV D=aC zeroC 2:=fun h=>by unfold outSV;rw[h,cond_false]
 have hoT:okV D=true→outSV D=aC (outV (decP (g80 D))) 0:=fun h=>by unfold outSV;rw[h,cond_true]
 have hoX:∃x f,outSV D=aC x f:=by
  cases h:okV D with
  | false=>exact⟨_,_,hoF h⟩
  | true=>exact⟨_,_,hoT h⟩
 unfold vfyR
 cases h1:bN b with
 | false=>
  rw[Bool.not_false,cond_true]
  obtain⟨x,f,ho⟩:=hoX
  exact aM ah mixed hb (exwa rinR rfl chlV rfl b D x (qsmallF b) f ys n c ty) ⟨hB,by rw[he,h1];rfl,hD,ho,trivial⟩
 | true=>
  rw[Bool.not_true,cond_false]
  cases h3:orgV b with
  | true=>
   rw[cond_true]
   obtain⟨x,f,ho⟩:=hoX
   have g:(bif !okV D then aC zeroC 2 else aC zeroC 2)=aC zeroC 2:=by cases okV D<;>rfl
   rw[g]
   exact aM ah mixed hb (exwb rinR rfl chlV rfl b D x f ys n c ty) ⟨hB,by rw[hz h1,show eqB (encP (clrP (decP b))) bT=_ from h3,he,h1];rfl,hD,ho,trivial⟩
  | false=>
   rw[cond_false]
   cases h2:okV D with
   | false=>
    rw[Bool.not_false,cond_true]
    exact aM ah mixed hb (exwc rinR rfl chlV rfl b D zeroC ys n c ty) ⟨hB,by rw[hz h1,show eqB (encP (clrP (decP b))) bT=_ from h3,he,h1];rfl,hD,hoF h2,trivial⟩
   | true=>
    rw[Bool.not_true,cond_false]
    have ho:=hoT h2
    cases h4:inOk b ys with
    | false=>
     rw[Bool.not_false,cond_true]
     have hi:rinR b ys=flagI aY false:=by unfold rinR;rw[h4,cond_false]
     exact aM ah mixed hb (exwd rinR rfl chlV rfl b D (outV (decP (g80 D))) ys n c ty) ⟨hB,by rw[hz h1,show eqB (encP (clrP (decP b))) bT=_ from h3,he,h1];rfl,hD,ho,by omega,hc,hn,by rw[e];exact hi,trivial⟩
    | true=>
     rw[Bool.not_true,cond_false]
     have hi:rinR b ys=flagI (encP (inP b ys)) true:=by unfold rinR;rw[h4,cond_true]
     obtain⟨q,hq,hr⟩:=in_pt h4
     have hh:PtB (encP (inP b ys)) (nC q 8):=PtB.enc hr (bn hq 8)
     obtain⟨y,hY⟩:=pt_of hB h1
     have hg1:bN (g80 D)=true:=by
      unfold okV at h2
      rw[Bool.and_eq_true] at h2
      exact h2.1
     obtain⟨gp,hG⟩:=pt_of hD.1 hg1
     have q1a:=gen_pt.qdec.2.ok
     have q1b:=hY.qdec.2.ok
     have r1s:=oftenQ_rep hD.2.2 gen_pt.qdec.2 gen_pt.on
     have r1t:=oftenQ_rep hD.2.1 hY.qdec.2 hY.on
     have r1v:=r1s.sum r1t.neg (bn gen_pt.on _) (dH (bn hY.on _))
     have q1s:=r1s.ok
     have q1t:=r1t.ok
     have q1u:=r1t.neg.ok
     have q1v:=r1v.ok
     have q2a:=hh.qdec.2.ok
     have q2b:=hG.qdec.2.ok
     have r2s:=oftenQ_rep hD.2.2 hh.qdec.2 hh.on
     have r2t:=oftenQ_rep hD.2.1 hG.qdec.2 hG.on
     have r2v:=r2s.sum r2t.neg (bn hh.on _) (dH (bn hG.on _))
     have q2s:=r2s.ok
     have q2t:=r2t.ok
     have q2u:=r2t.neg.ok
     have q2v:=r2v.ok
     have hE1:cB32.enc (encQ (sumQ (aU (t80 D) (qP genPt)) (negQ (aU (c80 D) (qP b)))))=cB32.enc (vuV b D):=congrArg cB32.enc (by unfold vuV;exact ver_q2 gen_pt base_rep hY hD.2.2 hD.2.1)
     have hE2:cB32.enc (encQ (sumQ (aU (t80 D) (qP (encP (inP b ys)))) (negQ (aU (c80 D) (qP (g80 D))))))=cB32.enc (vvV b ys D):=congrArg cB32.enc (by unfold vvV;exact ver_q2 hh hr hG hD.2.2 hD.2.1)
     have hgg:encP (decP (g80 D))=g80 D:=(eqB_iff _ _).1 ((PtB.enc hG.dec.2 hG.on).eq hG)
     have hK:cB32.enc (chlV ⟨b,encP (inP b ys),g80 D,vuV b D,vvV b ys D⟩)=cB32.enc (vcV b ys D):=congrArg cB32.enc (by unfold vcV;rw[hgg])
     cases h5:eqB (vcV b ys D) (c80 D) with
     | true=>
      rw[cond_true]
      exact aM ah mixed hb (exwf rinR rfl chlV rfl b D (outV (decP (g80 D))) (encP (inP b ys)) (vuV b D) (vvV b ys D) (vcV b ys D) (qP b) (qP (encP (inP b ys))) (qP (g80 D)) (qP genPt) (aU (t80 D) (qP genPt)) (aU (c80 D) (qP b)) (negQ (aU (c80 D) (qP b))) (sumQ (aU (t80 D) (qP genPt)) (negQ (aU (c80 D) (qP b)))) (aU (t80 D) (qP (encP (inP b ys)))) (aU (c80 D) (qP (g80 D))) (negQ (aU (c80 D) (qP (g80 D)))) (sumQ (aU (t80 D) (qP (encP (inP b ys)))) (negQ (aU (c80 D) (qP (g80 D))))) (qOk b) (qOk (encP (inP b ys))) (qOk (g80 D)) (qOk genPt) ys n c ty) ⟨(hB),(by rw[hz h1,show eqB (encP (clrP (decP b))) bT=_ from h3,he,h1];rfl),(hD),(ho),(by omega),(hc),(hn),(by rw[e];exact hi),(hB),(rfl),(hh.ok),(rfl),(hD.1),(rfl),(gen_pt.ok),(rfl),(q1a),(rfl),(q1b),(rfl),(q1t),(rfl),(q1s),(q1u),(rfl),(q1v),(hE1),(q2a),(rfl),(q2b),(rfl),(q2t),(rfl),(q2s),(q2u),(rfl),(q2v),(hE2),(hK),(by rw[h5];rfl),(trivial)⟩
     | false=>
      rw[cond_false]
      exact aM ah mixed hb (exwe rinR rfl chlV rfl b D (outV (decP (g80 D))) (encP (inP b ys)) (vuV b D) (vvV b ys D) (vcV b ys D) (qP b) (qP (encP (inP b ys))) (qP (g80 D)) (qP genPt) (aU (t80 D) (qP genPt)) (aU (c80 D) (qP b)) (negQ (aU (c80 D) (qP b))) (sumQ (aU (t80 D) (qP genPt)) (negQ (aU (c80 D) (qP b)))) (aU (t80 D) (qP (encP (inP b ys)))) (aU (c80 D) (qP (g80 D))) (negQ (aU (c80 D) (qP (g80 D)))) (sumQ (aU (t80 D) (qP (encP (inP b ys)))) (negQ (aU (c80 D) (qP (g80 D))))) (qOk b) (qOk (encP (inP b ys))) (qOk (g80 D)) (qOk genPt) ys n c ty) ⟨(hB),(by rw[hz h1,show eqB (encP (clrP (decP b))) bT=_ from h3,he,h1];rfl),(hD),(ho),(by omega),(hc),(hn),(by rw[e];exact hi),(hB),(rfl),(hh.ok),(rfl),(hD.1),(rfl),(gen_pt.ok),(rfl),(q1a),(rfl),(q1b),(rfl),(q1t),(rfl),(q1s),(q1u),(rfl),(q1v),(hE1),(q2a),(rfl),(q2b),(rfl),(q2t),(rfl),(q2s),(q2u),(rfl),(q2v),(hE2),(hK),(by rw[h5];rfl),(trivial)⟩
section
variable (I:B32→List Int→SV) (hI:I=rinR) (C:P5→B32) (hC:C=chlV) (b:B32) (D:B80) (x:B64)
theorem exva (z:Bool) (f:Int) (a:Option Addr):aZ (Γ I hI C hC) tys fn 100 [] [cB32.enc b,.o (.a (.v (.slice a 0 0))),cB80.enc D] [(29,[.s (flagZ z 2)]),(34,[.s (aC x f)])]=some (aC zeroC 2,[BOk b,flagZ (qsmallF b) (errOf (qOk b))=flagZ z 2,D.Ok,outSV D=aC x f]):=by kernel_rfl
theorem exvb (f:Int) (a:Option Addr):aZ (Γ I hI C hC) tys fn 100 [] [cB32.enc b,.o (.a (.v (.slice a 0 0))),cB80.enc D] [(29,[.s (flagZ true 0)]),(34,[.s (aC x f)])]=some (aC zeroC 2,[BOk b,flagZ (qsmallF b) (errOf (qOk b))=flagZ true 0,D.Ok,outSV D=aC x f]):=by kernel_rfl
theorem exvc (a:Option Addr):aZ (Γ I hI C hC) tys fn 100 [] [cB32.enc b,.o (.a (.v (.slice a 0 0))),cB80.enc D] [(29,[.s (flagZ false 0)]),(34,[.s (aC x 2)])]=some (aC zeroC 2,[BOk b,flagZ (qsmallF b) (errOf (qOk b))=flagZ false 0,D.Ok,outSV D=aC x 2]):=by kernel_rfl
theorem exvd (a:Option Addr):aZ (Γ I hI C hC) tys fn 100 [] [cB32.enc b,.o (.a (.v (.slice a 0 0))),cB80.enc D] [(29,[.s (flagZ false 0)]),(34,[.s (aC x 0)]),(50,[.s (flagI aY false)])]=some (aC zeroC 4,[BOk b,flagZ (qsmallF b) (errOf (qOk b))=flagZ false 0,D.Ok,outSV D=aC x 0,I b []=flagI aY false]):=by kernel_rfl
theorem exve (h u w k:B32) (Y E G B S1 T1 U1 V1 S2 T2 U2 V2:P16) (y' e' g' b':Bool) (a:Option Addr):aZ (Γ I hI C hC) tys fn 100 [] [cB32.enc b,.o (.a (.v (.slice a 0 0))),cB80.enc D] [(29,[.s (flagZ false 0)]),(34,[.s (aC x 0)]),(50,[.s (flagI h true)]),(64,[.s (bL Y y')]),(69,[.s (bL E e')]),(74,[.s (bL G g')]),(79,[.s (bL B b')]),(84,[.s (cQ.enc S1)]),(87,[.s (cQ.enc T1)]),(88,[.s (cQ.enc U1)]),(89,[.s (cQ.enc V1)]),(90,[.s (cB32.enc u)]),(93,[.s (cQ.enc S2)]),(96,[.s (cQ.enc T2)]),(97,[.s (cQ.enc U2)]),(98,[.s (cQ.enc V2)]),(99,[.s (cB32.enc w)]),(105,[.s (cB32.enc k)]),(107,[.b true])]=some (aC zeroC 3,[BOk b,flagZ (qsmallF b) (errOf (qOk b))=flagZ false 0,D.Ok,outSV D=aC x 0,I b []=flagI h true,BOk b,bL (qP b) (qOk b)=bL Y y',BOk h,bL (qP h) (qOk h)=bL E e',BOk (g80 D),bL (qP (g80 D)) (qOk (g80 D))=bL G g',BOk genPt,bL (qP genPt) (qOk genPt)=bL B b',QOk B,cQ.enc (aU (t80 D) B)=cQ.enc S1,QOk Y,cQ.enc (aU (c80 D) Y)=cQ.enc T1,QOk T1,cQ.enc (negQ T1)=cQ.enc U1,QOk S1,QOk U1,cQ.enc (sumQ S1 U1)=cQ.enc V1,QOk V1,cB32.enc (encQ V1)=cB32.enc u,QOk E,cQ.enc (aU (t80 D) E)=cQ.enc S2,QOk G,cQ.enc (aU (c80 D) G)=cQ.enc T2,QOk T2,cQ.enc (negQ T2)=cQ.enc U2,QOk S2,QOk U2,cQ.enc (sumQ S2 U2)=cQ.enc V2,QOk V2,cB32.enc (encQ V2)=cB32.enc w,cB32.enc (C ⟨b,h,g80 D,u,w⟩)=cB32.enc k,(!eqB k (c80 D))=true]):=by kernel_rfl
theorem exvf (h u w k:B32) (Y E G B S1 T1 U1 V1 S2 T2 U2 V2:P16) (y' e' g' b':Bool) (a:Option Addr):aZ (Γ I hI C hC) tys fn 100 [] [cB32.enc b,.o (.a (.v (.slice a 0 0))),cB80.enc D] [(29,[.s (flagZ false 0)]),(34,[.s (aC x 0)]),(50,[.s (flagI h true)]),(64,[.s (bL Y y')]),(69,[.s (bL E e')]),(74,[.s (bL G g')]),(79,[.s (bL B b')]),(84,[.s (cQ.enc S1)]),(87,[.s (cQ.enc T1)]),(88,[.s (cQ.enc U1)]),(89,[.s (cQ.enc V1)]),(90,[.s (cB32.enc u)]),(93,[.s (cQ.enc S2)]),(96,[.s (cQ.enc T2)]),(97,[.s (cQ.enc U2)]),(98,[.s (cQ.enc V2)]),(99,[.s (cB32.enc w)]),(105,[.s (cB32.enc k)]),(107,[.b false])]=some (aC x 0,[BOk b,flagZ (qsmallF b) (errOf (qOk b))=flagZ false 0,D.Ok,outSV D=aC x 0,I b []=flagI h true,BOk b,bL (qP b) (qOk b)=bL Y y',BOk h,bL (qP h) (qOk h)=bL E e',BOk (g80 D),bL (qP (g80 D)) (qOk (g80 D))=bL G g',BOk genPt,bL (qP genPt) (qOk genPt)=bL B b',QOk B,cQ.enc (aU (t80 D) B)=cQ.enc S1,QOk Y,cQ.enc (aU (c80 D) Y)=cQ.enc T1,QOk T1,cQ.enc (negQ T1)=cQ.enc U1,QOk S1,QOk U1,cQ.enc (sumQ S1 U1)=cQ.enc V1,QOk V1,cB32.enc (encQ V1)=cB32.enc u,QOk E,cQ.enc (aU (t80 D) E)=cQ.enc S2,QOk G,cQ.enc (aU (c80 D) G)=cQ.enc T2,QOk T2,cQ.enc (negQ T2)=cQ.enc U2,QOk S2,QOk U2,cQ.enc (sumQ S2 U2)=cQ.enc V2,QOk V2,cB32.enc (encQ V2)=cB32.enc w,cB32.enc (C ⟨b,h,g80 D,u,w⟩)=cB32.enc k,(!eqB k (c80 D))=false]):=by kernel_rfl
end
theorem runv (b:B32) (D:B80) (hB:BOk b) (hD:D.Ok) (a:Option Addr):aG Tryz.prog G2 0 body (aA fn [cB32.enc b,.o (.a (.v (.slice a 0 0))),cB80.enc D]) ([]) (aD tys fn (aX (vfyR b [] D) .none)):=by
 have hb:fn.body=some body:=by kernel_rfl
 obtain⟨he,hz⟩:=small_key hB
 have hoF:okV D=false→outSV D=aC zeroC 2:=fun h=>by unfold outSV;rw[h,cond_false]
 have hoT:okV D=true→outSV D=aC (outV (decP (g80 D))) 0:=fun h=>by unfold outSV;rw[h,cond_true]
 have hoX:∃x f,outSV D=aC x f:=by
  cases h:okV D with
  | false=>exact⟨_,_,hoF h⟩
  | true=>exact⟨_,_,hoT h⟩
 unfold vfyR
 cases h1:bN b with
 | false=>
  rw[Bool.not_false,cond_true]
  obtain⟨x,f,ho⟩:=hoX
  exact aM ah mixed hb (exva rinR rfl chlV rfl b D x (qsmallF b) f a) ⟨hB,by rw[he,h1];rfl,hD,ho,trivial⟩
 | true=>
  rw[Bool.not_true,cond_false]
  cases h3:orgV b with
  | true=>
   rw[cond_true]
   obtain⟨x,f,ho⟩:=hoX
   have g:(bif !okV D then aC zeroC 2 else aC zeroC 2)=aC zeroC 2:=by cases okV D<;>rfl
   rw[g]
   exact aM ah mixed hb (exvb rinR rfl chlV rfl b D x f a) ⟨hB,by rw[hz h1,show eqB (encP (clrP (decP b))) bT=_ from h3,he,h1];rfl,hD,ho,trivial⟩
  | false=>
   rw[cond_false]
   cases h2:okV D with
   | false=>
    rw[Bool.not_false,cond_true]
    exact aM ah mixed hb (exvc rinR rfl chlV rfl b D zeroC a) ⟨hB,by rw[hz h1,show eqB (encP (clrP (decP b))) bT=_ from h3,he,h1];rfl,hD,hoF h2,trivial⟩
   | true=>
    rw[Bool.not_true,cond_false]
    have ho:=hoT h2
    cases h4:inOk b [] with
    | false=>
     rw[Bool.not_false,cond_true]
     have hi:rinR b []=flagI aY false:=by unfold rinR;rw[h4,cond_false]
     exact aM ah mixed hb (exvd rinR rfl chlV rfl b D (outV (decP (g80 D))) a) ⟨hB,by rw[hz h1,show eqB (encP (clrP (decP b))) bT=_ from h3,he,h1];rfl,hD,ho,by exact hi,trivial⟩
    | true=>
     rw[Bool.not_true,cond_false]
     have hi:rinR b []=flagI (encP (inP b [])) true:=by unfold rinR;rw[h4,cond_true]
     obtain⟨q,hq,hr⟩:=in_pt h4
     have hh:PtB (encP (inP b [])) (nC q 8):=PtB.enc hr (bn hq 8)
     obtain⟨y,hY⟩:=pt_of hB h1
     have hg1:bN (g80 D)=true:=by
      unfold okV at h2
      rw[Bool.and_eq_true] at h2
      exact h2.1
     obtain⟨gp,hG⟩:=pt_of hD.1 hg1
     have q1a:=gen_pt.qdec.2.ok
     have q1b:=hY.qdec.2.ok
     have r1s:=oftenQ_rep hD.2.2 gen_pt.qdec.2 gen_pt.on
     have r1t:=oftenQ_rep hD.2.1 hY.qdec.2 hY.on
     have r1v:=r1s.sum r1t.neg (bn gen_pt.on _) (dH (bn hY.on _))
     have q1s:=r1s.ok
     have q1t:=r1t.ok
     have q1u:=r1t.neg.ok
     have q1v:=r1v.ok
     have q2a:=hh.qdec.2.ok
     have q2b:=hG.qdec.2.ok
     have r2s:=oftenQ_rep hD.2.2 hh.qdec.2 hh.on
     have r2t:=oftenQ_rep hD.2.1 hG.qdec.2 hG.on
     have r2v:=r2s.sum r2t.neg (bn hh.on _) (dH (bn hG.on _))
     have q2s:=r2s.ok
     have q2t:=r2t.ok
     have q2u:=r2t.neg.ok
     have q2v:=r2v.ok
     have hE1:cB32.enc (encQ (sumQ (aU (t80 D) (qP genPt)) (negQ (aU (c80 D) (qP b)))))=cB32.enc (vuV b D):=congrArg cB32.enc (by unfold vuV;exact ver_q2 gen_pt base_rep hY hD.2.2 hD.2.1)
     have hE2:cB32.enc (encQ (sumQ (aU (t80 D) (qP (encP (inP b [])))) (negQ (aU (c80 D) (qP (g80 D))))))=cB32.enc (vvV b [] D):=congrArg cB32.enc (by unfold vvV;exact ver_q2 hh hr hG hD.2.2 hD.2.1)
     have hgg:encP (decP (g80 D))=g80 D:=(eqB_iff _ _).1 ((PtB.enc hG.dec.2 hG.on).eq hG)
     have hK:cB32.enc (chlV ⟨b,encP (inP b []),g80 D,vuV b D,vvV b [] D⟩)=cB32.enc (vcV b [] D):=congrArg cB32.enc (by unfold vcV;rw[hgg])
     cases h5:eqB (vcV b [] D) (c80 D) with
     | true=>
      rw[cond_true]
      exact aM ah mixed hb (exvf rinR rfl chlV rfl b D (outV (decP (g80 D))) (encP (inP b [])) (vuV b D) (vvV b [] D) (vcV b [] D) (qP b) (qP (encP (inP b []))) (qP (g80 D)) (qP genPt) (aU (t80 D) (qP genPt)) (aU (c80 D) (qP b)) (negQ (aU (c80 D) (qP b))) (sumQ (aU (t80 D) (qP genPt)) (negQ (aU (c80 D) (qP b)))) (aU (t80 D) (qP (encP (inP b [])))) (aU (c80 D) (qP (g80 D))) (negQ (aU (c80 D) (qP (g80 D)))) (sumQ (aU (t80 D) (qP (encP (inP b [])))) (negQ (aU (c80 D) (qP (g80 D))))) (qOk b) (qOk (encP (inP b []))) (qOk (g80 D)) (qOk genPt) a) ⟨(hB),(by rw[hz h1,show eqB (encP (clrP (decP b))) bT=_ from h3,he,h1];rfl),(hD),(ho),(by exact hi),(hB),(rfl),(hh.ok),(rfl),(hD.1),(rfl),(gen_pt.ok),(rfl),(q1a),(rfl),(q1b),(rfl),(q1t),(rfl),(q1s),(q1u),(rfl),(q1v),(hE1),(q2a),(rfl),(q2b),(rfl),(q2t),(rfl),(q2s),(q2u),(rfl),(q2v),(hE2),(hK),(by rw[h5];rfl),(trivial)⟩
     | false=>
      rw[cond_false]
      exact aM ah mixed hb (exve rinR rfl chlV rfl b D (outV (decP (g80 D))) (encP (inP b [])) (vuV b D) (vvV b [] D) (vcV b [] D) (qP b) (qP (encP (inP b []))) (qP (g80 D)) (qP genPt) (aU (t80 D) (qP genPt)) (aU (c80 D) (qP b)) (negQ (aU (c80 D) (qP b))) (sumQ (aU (t80 D) (qP genPt)) (negQ (aU (c80 D) (qP b)))) (aU (t80 D) (qP (encP (inP b [])))) (aU (c80 D) (qP (g80 D))) (negQ (aU (c80 D) (qP (g80 D)))) (sumQ (aU (t80 D) (qP (encP (inP b [])))) (negQ (aU (c80 D) (qP (g80 D))))) (qOk b) (qOk (encP (inP b []))) (qOk (g80 D)) (qOk genPt) a) ⟨(hB),(by rw[hz h1,show eqB (encP (clrP (decP b))) bT=_ from h3,he,h1];rfl),(hD),(ho),(by exact hi),(hB),(rfl),(hh.ok),(rfl),(hD.1),(rfl),(gen_pt.ok),(rfl),(q1a),(rfl),(q1b),(rfl),(q1t),(rfl),(q1s),(q1u),(rfl),(q1v),(hE1),(q2a),(rfl),(q2b),(rfl),(q2t),(rfl),(q2s),(q2u),(rfl),(q2v),(hE2),(hK),(by rw[h5];rfl),(trivial)⟩
def spec (X:B32→List Int→B80→B64) (E:B32→List Int→B80→Int):List PArg→Option (SV × LEff × Cst)
 | [.val v,.win .u8 ys n ty,.val w0]=>match cB32.dec v with
  | some b=>match cB80.dec w0 with
   | some D=>some (aC (X b ys D) (E b ys D),.none,[BOk b,D.Ok,n≤140737488353900])
   | none=>none
  | none=>none
 | [.val v,.val (.o (.a (.v (.slice _ 0 0)))),.val w0]=>match cB32.dec v with
  | some b=>match cB80.dec w0 with
   | some D=>some (aC (X b [] D) (E b [] D),.none,[BOk b,D.Ok])
   | none=>none
  | none=>none
 | _=>none
noncomputable def con (X:B32→List Int→B80→B64) (hX:X=vfX) (E:B32→List Int→B80→Int) (hE:E=vfE):Con Tryz.prog G2:=Con.parts ah 30 fn Tryz.func30 (by kernel_rfl) (c:=body) (by kernel_rfl) [.val,.win .u8,.val] (spec X E)
 (fun ps r e p h hp=>by
  subst hX;subst hE
  unfold spec at h
  split at h
  ·split at h
   ·split at h<;>cases h
    exact⟨rfl,fun b hb=>by simp only[bR,PArg.blk,List.nil_append,List.append_nil,List.mem_singleton] at hb;rw[hb]⟩
   ·cases h
  ·split at h
   ·split at h<;>cases h
    exact⟨rfl,fun b hb=>by cases hb⟩
   ·cases h
  ·cases h)
 (fun ps r e p cap h hp hi=>by
  subst hX;subst hE
  unfold spec at h
  split at h
  ·split at h
   rename_i b hb
   ·split at h<;>cases h
    rename_i D hD
    have:=cB32.ok _ _ hb
    subst this
    have:=cB80.ok _ _ hD
    subst this
    rw[←vfyR_pair];exact runw b D hp.1 hp.2.1 _ _ _ _ hi.2.1.1 hi.2.1.2 hp.2.2.1
   ·cases h
  ·split at h
   rename_i b hb
   ·split at h<;>cases h
    rename_i D hD
    have:=cB32.ok _ _ hb
    subst this
    have:=cB80.ok _ _ hD
    subst this
    rw[←vfyR_pair];exact runv b D hp.1 hp.2.1 _
   ·cases h
  ·cases h)
end rvfy
end Go.Proofs.YtbfndladaldajaaGreatDoor

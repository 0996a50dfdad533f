/- Packages wire, keyring and their references: what is signed of a root, SignRoot, CheckRoot: walks, contracts. -/
import Derived.Test.YtbfndladaldajaaGreatDoorIKeyK
namespace Go.Proofs.YtbfndladaldajaaGreatDoor
open Go Go.Eng Go.RowKit
set_option linter.unusedVariables false
set_option linter.unusedSimpArgs false
set_option maxRecDepth 100000
def mstRes (ls:List (List Int)):SV:= .o (.a (.sld 0 0 0 (encT ls) (encT ls)))
namespace mst
noncomputable abbrev fn:=Tryz.f150
noncomputable def body:Code:=bH fn
noncomputable def Γ {G:Glob}:Cons Tryz.prog G:=[enc.k7.con]
noncomputable def e (G:Glob) (y1:List Int) (n1:Nat) (t1:TypeId) (y2:List Int) (n2:Nat) (t2:TypeId) (y3:List Int) (n3:Nat) (t3:TypeId) (y4:List Int) (n4:Nat) (t4:TypeId) (y5:List Int) (n5:Nat) (t5:TypeId) (y6:List Int) (n6:Nat) (t6:TypeId) (y7:List Int) (n7:Nat) (t7:TypeId) (ty:TypeId):St:=outS (Γ (G:=G)) tys 200 body ⟨aD fn [.o (.a (.slc 0 0 7 7))],[⟨false,ty,.lit [.slg 1 n1,.slg 2 n2,.slg 3 n3,.slg 4 n4,.slg 5 n5,.slg 6 n6,.slg 7 n7]⟩,⟨false,t1,.pre .u8 y1⟩,⟨false,t2,.pre .u8 y2⟩,⟨false,t3,.pre .u8 y3⟩,⟨false,t4,.pre .u8 y4⟩,⟨false,t5,.pre .u8 y5⟩,⟨false,t6,.pre .u8 y6⟩,⟨false,t7,.pre .u8 y7⟩],[]⟩
section
variable {G:Glob} (y1:List Int) (n1:Nat) (t1:TypeId) (y2:List Int) (n2:Nat) (t2:TypeId) (y3:List Int) (n3:Nat) (t3:TypeId) (y4:List Int) (n4:Nat) (t4:TypeId) (y5:List Int) (n5:Nat) (t5:TypeId) (y6:List Int) (n6:Nat) (t6:TypeId) (y7:List Int) (n7:Nat) (t7:TypeId) (ty:TypeId)
theorem ex:exec (Γ (G:=G)) tys 200 body ⟨aD fn [.o (.a (.slc 0 0 7 7))],[⟨false,ty,.lit [.slg 1 n1,.slg 2 n2,.slg 3 n3,.slg 4 n4,.slg 5 n5,.slg 6 n6,.slg 7 n7]⟩,⟨false,t1,.pre .u8 y1⟩,⟨false,t2,.pre .u8 y2⟩,⟨false,t3,.pre .u8 y3⟩,⟨false,t4,.pre .u8 y4⟩,⟨false,t5,.pre .u8 y5⟩,⟨false,t6,.pre .u8 y6⟩,⟨false,t7,.pre .u8 y7⟩],[]⟩=some (.ret,⟨(e G y1 n1 t1 y2 n2 t2 y3 n3 t3 y4 n4 t4 y5 n5 t5 y6 n6 t6 y7 n7 t7 ty ).tm,(e G y1 n1 t1 y2 n2 t2 y3 n3 t3 y4 n4 t4 y5 n5 t5 y6 n6 t6 y7 n7 t7 ty ).mem,(e G y1 n1 t1 y2 n2 t2 y3 n3 t3 y4 n4 t4 y5 n5 t5 y6 n6 t6 y7 n7 t7 ty ).orc⟩,[0+n1≤y1.length,0+n2≤y2.length,0+n3≤y3.length,0+n4≤y4.length,0+n5≤y5.length,0+n6≤y6.length,0+n7≤y7.length,encT [(y1.drop 0).take n1,(y2.drop 0).take n2,(y3.drop 0).take n3,(y4.drop 0).take n4,(y5.drop 0).take n5,(y6.drop 0).take n6,(y7.drop 0).take n7]≤1048576]):=by kernel_rfl
theorem res:eRes tys (e G y1 n1 t1 y2 n2 t2 y3 n3 t3 y4 n4 t4 y5 n5 t5 y6 n6 t6 y7 n7 t7 ty ).tm (fun k=>(e G y1 n1 t1 y2 n2 t2 y3 n3 t3 y4 n4 t4 y5 n5 t5 y6 n6 t6 y7 n7 t7 ty ).mem[k]?) fn.results.toList=some [.a (.sld 8 0 0 (encT [(y1.drop 0).take n1,(y2.drop 0).take n2,(y3.drop 0).take n3,(y4.drop 0).take n4,(y5.drop 0).take n5,(y6.drop 0).take n6,(y7.drop 0).take n7]) (encT [(y1.drop 0).take n1,(y2.drop 0).take n2,(y3.drop 0).take n3,(y4.drop 0).take n4,(y5.drop 0).take n5,(y6.drop 0).take n6,(y7.drop 0).take n7]))]:=by kernel_rfl
theorem row:(e G y1 n1 t1 y2 n2 t2 y3 n3 t3 y4 n4 t4 y5 n5 t5 y6 n6 t6 y7 n7 t7 ty ).mem[8]? =some ⟨true,5,.run .u8 (encB [(y1.drop 0).take n1,(y2.drop 0).take n2,(y3.drop 0).take n3,(y4.drop 0).take n4,(y5.drop 0).take n5,(y6.drop 0).take n6,(y7.drop 0).take n7])⟩:=by kernel_rfl
theorem run (h1:y1.length=n1) (h2:y2.length=n2) (h3:y3.length=n3) (h4:y4.length=n4) (h5:y5.length=n5) (h6:y6.length=n6) (h7:y7.length=n7) (hT:encT [y1,y2,y3,y4,y5,y6,y7]≤1048576):aB Tryz.prog G 8 body (aD fn [.o (.a (.slc 0 0 7 7))]) [⟨false,ty,.lit [.slg 1 n1,.slg 2 n2,.slg 3 n3,.slg 4 n4,.slg 5 n5,.slg 6 n6,.slg 7 n7]⟩,⟨false,t1,.pre .u8 y1⟩,⟨false,t2,.pre .u8 y2⟩,⟨false,t3,.pre .u8 y3⟩,⟨false,t4,.pre .u8 y4⟩,⟨false,t5,.pre .u8 y5⟩,⟨false,t6,.pre .u8 y6⟩,⟨false,t7,.pre .u8 y7⟩] (aH tys fn (aX (mstRes [y1,y2,y3,y4,y5,y6,y7]) (.new 5 (.run .u8 (encB [y1,y2,y3,y4,y5,y6,y7]))))):=by
 have hL:[(y1.drop 0).take n1,(y2.drop 0).take n2,(y3.drop 0).take n3,(y4.drop 0).take n4,(y5.drop 0).take n5,(y6.drop 0).take n6,(y7.drop 0).take n7]=[y1,y2,y3,y4,y5,y6,y7]:=by rw[dt0 y1 n1 h1,dt0 y2 n2 h2,dt0 y3 n3 h3,dt0 y4 n4 h4,dt0 y5 n5 h5,dt0 y6 n6 h6,dt0 y7 n7 h7]
 refine Runs.aA ah mixed (ex y1 n1 t1 y2 n2 t2 y3 n3 t3 y4 n4 t4 y5 n5 t5 y6 n6 t6 y7 n7 t7 ty ) ⟨by omega,by omega,by omega,by omega,by omega,by omega,by omega,by rw[hL];exact hT,trivial⟩ (aH.ret (res y1 n1 t1 y2 n2 t2 y3 n3 t3 y4 n4 t4 y5 n5 t5 y6 n6 t6 y7 n7 t7 ty ) ⟨8,?_,?_⟩)
 ·rw[hL];rfl
 ·rw[row,hL]
end
theorem good (ls:List (List Int)):match (LEff.new 5 (.run .u8 (encB ls))) with | .none=>(mstRes ls).ids=[] | .new _ row=>row.ids=[] | .upd _ _=>False:=rfl
def D:Dec Tryz.prog LstA:=Dec.list Tryz.prog .u8 [true,true,true,true,true,true,true] mstRes (fun ls=> .new 5 (.run .u8 (encB ls))) (fun ls=>[encT ls≤1048576]) good
noncomputable def con {G:Glob}:Con Tryz.prog G:=Con.hand ah 150 fn Tryz.func150 (by kernel_rfl) (c:=body) (by kernel_rfl) D
 (fun x hc hi=>by
  obtain⟨its,m,ty⟩:=x
  obtain⟨hs,hn,hy⟩:=hi
  have hp:=(aL hc).2.1
  simp only at hs hn hy hp
  obtain⟨a1,t1,rfl,q1⟩:=cu hs
  obtain⟨a2,t2,rfl,q2⟩:=cu q1
  obtain⟨a3,t3,rfl,q3⟩:=cu q2
  obtain⟨a4,t4,rfl,q4⟩:=cu q3
  obtain⟨a5,t5,rfl,q5⟩:=cu q4
  obtain⟨a6,t6,rfl,q6⟩:=cu q5
  obtain⟨a7,t7,rfl,q7⟩:=cu q6
  obtain rfl:=shp_nil q7
  have hn:m=7:=hn
  subst hn
  exact run a1.ys a1.n a1.ty a2.ys a2.n a2.ty a3.ys a3.n a3.ty a4.ys a4.n a4.ty a5.ys a5.n a5.ty a6.ys a6.n a6.ty a7.ys a7.n a7.ty ty (hy a1 (by simp[bG])) (hy a2 (by simp[bG])) (hy a3 (by simp[bG])) (hy a4 (by simp[bG])) (hy a5 (by simp[bG])) (hy a6 (by simp[bG])) (hy a7 (by simp[bG])) hp)
end mst
def wRoot:List Int:=[114,111,111,116]
def rootL (r:Root):List (List Int):=[wRoot,num8 r.ep,num8 r.kind,num8 r.gen,r.prev.to,r.hash.to,r.link.to]
def rootM (r:Root):List Int:=encB (rootL r)
theorem rootT (r:Root):encT (rootL r)=156:=rfl
theorem rootM_len (r:Root):(rootM r).length=156:=by
 unfold rootM
 rw[encB_len]
 rfl
theorem rootM_dt (r:Root):((rootM r).drop 0).take (encT (rootL r))=rootM r:=dt0 _ _ (rootM_len r)
def RK (r:Root):Prop:=U64 r.ep∧U64 r.kind∧U64 r.gen
namespace rbt
noncomputable abbrev fn:=Tryz.f94
noncomputable def body:Code:=bH fn
noncomputable def Γ {G:Glob}:Cons Tryz.prog G:=[num_con,mst.con]
noncomputable def e (G:Glob) (r:Root):St:=outS (Γ (G:=G)) tys 200 body ⟨aD fn [aW.enc r],[],[]⟩
def L (r:Root):List (List Int):=[([114,111,111,116].drop 0).take 4,((b4 (numH r.ep)++b4 (numL r.ep)).drop 0).take 8,((b4 (numH r.kind)++b4 (numL r.kind)).drop 0).take 8,((b4 (numH r.gen)++b4 (numL r.gen)).drop 0).take 8,((r.prev.to++(r.hash.to++(r.link.to++r.sig.to))).drop 0).take 32,((r.hash.to++(r.link.to++r.sig.to)).drop 0).take 32,((r.link.to++r.sig.to).drop 0).take 32]
theorem ex {G:Glob} (r:Root):exec (Γ (G:=G)) tys 200 body ⟨aD fn [aW.enc r],[],[]⟩=some (.ret,⟨(e G r).tm,(e G r).mem,(e G r).orc⟩,[0+4≤4,0+8≤((b4 (numH r.ep)++b4 (numL r.ep))).length,0+8≤((b4 (numH r.kind)++b4 (numL r.kind))).length,0+8≤((b4 (numH r.gen)++b4 (numL r.gen))).length,0+32≤(r.prev.to++(r.hash.to++(r.link.to++r.sig.to))).length,0+32≤(r.hash.to++(r.link.to++r.sig.to)).length,0+32≤(r.link.to++r.sig.to).length,encT (L r)≤1048576]):=by kernel_rfl
theorem res {G:Glob} (r:Root):eRes tys (e G r).tm (fun k=>(e G r).mem[k]?) fn.results.toList=some [.a (.sld 6 0 0 (encT (L r)) (encT (L r)))]:=by kernel_rfl
theorem row {G:Glob} (r:Root):(e G r).mem[6]? =some ⟨true,5,.run .u8 (encB (L r))⟩:=by kernel_rfl
theorem L_eq (r:Root) (h:RK r):L r=rootL r:=by
 have e1:(b4 (numH r.ep)++b4 (numL r.ep))=num8 r.ep:=num8_eq h.1.1 h.1.2
 have e2:(b4 (numH r.kind)++b4 (numL r.kind))=num8 r.kind:=num8_eq h.2.1.1 h.2.1.2
 have e3:(b4 (numH r.gen)++b4 (numL r.gen))=num8 r.gen:=num8_eq h.2.2.1 h.2.2.2
 unfold L rootL
 rw[e1,e2,e3,dt0 (num8 r.ep) 8 rfl,dt0 (num8 r.kind) 8 rfl,dt0 (num8 r.gen) 8 rfl]
 rfl
theorem run {G:Glob} (r:Root) (h:RK r):aB Tryz.prog G 0 body (aD fn [aW.enc r]) [] (aH tys fn (aX (.o (.a (.sld 0 0 0 (encT (rootL r)) (encT (rootL r))))) (.new 5 (.run .u8 (rootM r))))):=by
 have hL:=L_eq r h
 refine Runs.aA ah mixed (ex r) ⟨by omega,by show 8≤8;omega,by show 8≤8;omega,by show 8≤8;omega,by show 32≤160;omega,by show 32≤128;omega,by show 32≤96;omega,by rw[hL];show 156≤1048576;omega,trivial⟩ (aH.ret (res r) ⟨6,?_,?_⟩)
 ·rw[hL];rfl
 ·rw[row,hL];rfl
def spec:List PArg→Option (SV × LEff × Cst)
 | [.val v]=>match aW.dec v with
  | some r=>some (.o (.a (.sld 0 0 0 (encT (rootL r)) (encT (rootL r)))),.new 5 (.run .u8 (rootM r)),[RK r])
  | none=>none
 | _=>none
noncomputable def con {G:Glob}:Con Tryz.prog G:=Con.parts ah 94 fn Tryz.func94 (by kernel_rfl) (c:=body) (by kernel_rfl) [.val] spec
 (fun ps r e p h hp=>by
  unfold spec at h
  split at h
  ·split at h<;>cases h
   exact⟨rfl,fun b hb=>by cases hb⟩
  ·cases h)
 (fun ps r e p cap h hp hi=>by
  unfold spec at h
  split at h
  ·split at h<;>cases h
   rename_i c hc
   have:=aW.ok _ _ hc
   subst this
   exact run c hp.1
  ·cases h)
end rbt
namespace rrbt
noncomputable abbrev fn:=Tryz.f95
noncomputable def body:Code:=bH fn
noncomputable def Γ {G:Glob}:Cons Tryz.prog G:=[rnum_con,renc.k7.con]
noncomputable def e (G:Glob) (r:Root):St:=outS (Γ (G:=G)) tys 200 body ⟨aD fn [aW.enc r],[],[]⟩
def L (r:Root):List (List Int):=[([114,111,111,116].drop 0).take 4,((num8 r.ep).drop 0).take 8,((num8 r.kind).drop 0).take 8,((num8 r.gen).drop 0).take 8,((r.prev.to++(r.hash.to++(r.link.to++r.sig.to))).drop 0).take 32,((r.hash.to++(r.link.to++r.sig.to)).drop 0).take 32,((r.link.to++r.sig.to).drop 0).take 32]
theorem ex {G:Glob} (r:Root):exec (Γ (G:=G)) tys 200 body ⟨aD fn [aW.enc r],[],[]⟩=some (.ret,⟨(e G r).tm,(e G r).mem,(e G r).orc⟩,[0+4≤4,0+8≤((num8 r.ep)).length,0+8≤((num8 r.kind)).length,0+8≤((num8 r.gen)).length,0+32≤(r.prev.to++(r.hash.to++(r.link.to++r.sig.to))).length,0+32≤(r.hash.to++(r.link.to++r.sig.to)).length,0+32≤(r.link.to++r.sig.to).length,encT (L r)≤1048576]):=by kernel_rfl
theorem res {G:Glob} (r:Root):eRes tys (e G r).tm (fun k=>(e G r).mem[k]?) fn.results.toList=some [.a (.slg 6 (encT (L r)))]:=by kernel_rfl
theorem row {G:Glob} (r:Root):(e G r).mem[6]? =some ⟨true,5,.gro .u8 (encB (L r)) (encT (L r)) none⟩:=by kernel_rfl
theorem L_eq (r:Root):L r=rootL r:=by
 have e1:(num8 r.ep)=num8 r.ep:=rfl
 have e2:(num8 r.kind)=num8 r.kind:=rfl
 have e3:(num8 r.gen)=num8 r.gen:=rfl
 unfold L rootL
 rw[e1,e2,e3,dt0 (num8 r.ep) 8 rfl,dt0 (num8 r.kind) 8 rfl,dt0 (num8 r.gen) 8 rfl]
 rfl
theorem run {G:Glob} (r:Root):aB Tryz.prog G 0 body (aD fn [aW.enc r]) [] (aH tys fn (aX (.o (.a (.slg 0 (encT (rootL r))))) (.new 5 (.gro .u8 (rootM r) (encT (rootL r)) none)))):=by
 have hL:=L_eq r
 refine Runs.aA ah mixed (ex r) ⟨by omega,by show 8≤8;omega,by show 8≤8;omega,by show 8≤8;omega,by show 32≤160;omega,by show 32≤128;omega,by show 32≤96;omega,by rw[hL];show 156≤1048576;omega,trivial⟩ (aH.ret (res r) ⟨6,?_,?_⟩)
 ·rw[hL];rfl
 ·rw[row,hL];rfl
def spec:List PArg→Option (SV × LEff × Cst)
 | [.val v]=>match aW.dec v with
  | some r=>some (.o (.a (.slg 0 (encT (rootL r)))),.new 5 (.gro .u8 (rootM r) (encT (rootL r)) none),[RK r])
  | none=>none
 | _=>none
noncomputable def con {G:Glob}:Con Tryz.prog G:=Con.parts ah 95 fn Tryz.func95 (by kernel_rfl) (c:=body) (by kernel_rfl) [.val] spec
 (fun ps r e p h hp=>by
  unfold spec at h
  split at h
  ·split at h<;>cases h
   exact⟨rfl,fun b hb=>by cases hb⟩
  ·cases h)
 (fun ps r e p cap h hp hi=>by
  unfold spec at h
  split at h
  ·split at h<;>cases h
   rename_i c hc
   have:=aW.ok _ _ hc
   subst this
   exact run c
  ·cases h)
end rrbt
noncomputable def srV (b:B32) (r:Root):Root:={ r with sig:=sigV (seedS b) (rootM r) }
noncomputable def crV (k:Keys) (r:Root):Int:=bif !(r.gen==k.gen) then 1 else verV k.sg (rootM r) r.sig
theorem sr_ex (Z:B32→List Int→B64) (hZ:Z=sigV) (b s:B32) (r:Root) (D:B64):runOut ([kseed_con,rbt.con,(sgn.con Z hZ).lift g2_g3]:Cons Tryz.prog G3) tys Tryz.f43 100 [cB32.enc b,aW.enc r] [(6,[.s (cB32.enc s)]),(9,[.s (cB64.enc D)])]=some (aW.enc { r with sig:=D },[cB32.enc (seedS b)=cB32.enc s,RK r,0+(encT (rootL r))≤(rootM r).length,(encT (rootL r))≤(encT (rootL r)),(encT (rootL r))≤140737488353900,cB64.enc (Z s (((rootM r).drop 0).take (encT (rootL r))))=cB64.enc D]):=by kernel_rfl
theorem sr_fn (b:B32) (r:Root) (hr:RK r):FnOk Tryz.prog G3 43 [cB32.enc b,aW.enc r] (aW.enc (srV b r)):=by
 have hl:=rootM_len r
 have hT:=rootT r
 exact FnOk.av ah mixed Tryz.func43 (sr_ex sigV rfl b (seedS b) r (sigV (seedS b) (rootM r))) ⟨rfl,hr,by omega,by omega,by omega,by rw[rootM_dt],trivial⟩ (aW.ids _) rfl
noncomputable def sr_con (S:B32→Root→Root) (hS:S=srV):Con Tryz.prog G3:=con2 43 Tryz.f43 Tryz.func43 (by kernel_rfl) (by kernel_rfl) cB32 aW (fun b r=>aW.enc (S b r)) (fun b r=>[RK r]) (fun _ _=>aW.ids _) (fun b r h=>by subst hS;exact sr_fn b r h.1)
theorem cr_ex1 (V:B32→List Int→B64→Int) (hV:V=verV) (k:Keys) (r:Root):runOut ([rbt.con,(ver.con V hV).lift g2_g3]:Cons Tryz.prog G3) tys Tryz.f45 100 [bA.enc k,aW.enc r] [(9,[.b true])]=some ((cInt .i64).enc 1,[(!(r.gen==k.gen))=true]):=by kernel_rfl
theorem cr_ex2 (V:B32→List Int→B64→Int) (hV:V=verV) (k:Keys) (r:Root) (x:Int):runOut ([rbt.con,(ver.con V hV).lift g2_g3]:Cons Tryz.prog G3) tys Tryz.f45 100 [bA.enc k,aW.enc r] [(9,[.b false]),(16,[.s ((cInt .i64).enc x)])]=some ((cInt .i64).enc x,[(!(r.gen==k.gen))=false,RK r,0+(encT (rootL r))≤(rootM r).length,(encT (rootL r))≤(encT (rootL r)),∀i,0≤(hi64 r.sig).at i∧(hi64 r.sig).at i<256,(encT (rootL r))≤140737488353900,(cInt .i64).enc (V k.sg (((rootM r).drop 0).take (encT (rootL r))) r.sig)=(cInt .i64).enc x]):=by kernel_rfl
theorem cr_fn (k:Keys) (r:Root) (hr:RK r) (hs:BOk (hi64 r.sig)):FnOk Tryz.prog G3 45 [bA.enc k,aW.enc r] ((cInt .i64).enc (crV k r)):=by
 have hl:=rootM_len r
 have hT:=rootT r
 unfold crV
 cases h:(!(r.gen==k.gen)) with
 | true=>
  rw[cond_true]
  exact FnOk.av ah mixed Tryz.func45 (cr_ex1 verV rfl k r) ⟨h,trivial⟩ rfl rfl
 | false=>
  rw[cond_false]
  exact FnOk.av ah mixed Tryz.func45 (cr_ex2 verV rfl k r (verV k.sg (rootM r) r.sig)) ⟨h,hr,by omega,by omega,hs,by omega,by rw[rootM_dt],trivial⟩ rfl rfl
noncomputable def cr_con (V:Keys→Root→Int) (hV:V=crV):Con Tryz.prog G3:=con2 45 Tryz.f45 Tryz.func45 (by kernel_rfl) (by kernel_rfl) bA aW (fun k r=>(cInt .i64).enc (V k r)) (fun k r=>[RK r,BOk (hi64 r.sig)]) (fun _ _=>rfl) (fun k r h=>by subst hV;exact cr_fn k r h.1 h.2.1)
theorem rsr_ex (Z:B32→List Int→B64) (hZ:Z=sigV) (b s:B32) (r:Root) (D:B64):runOut ([rkseed_con,rrbt.con,(rsgn.con Z hZ).lift g2_g3]:Cons Tryz.prog G3) tys Tryz.f44 100 [cB32.enc b,aW.enc r] [(6,[.s (cB32.enc s)]),(9,[.s (cB64.enc D)])]=some (aW.enc { r with sig:=D },[BOk b,cB32.enc (seedS b)=cB32.enc s,RK r,0+(encT (rootL r))≤(rootM r).length,(encT (rootL r))≤(encT (rootL r)),(encT (rootL r))≤140737488353900,cB64.enc (Z s (((rootM r).drop 0).take (encT (rootL r))))=cB64.enc D]):=by kernel_rfl
theorem rsr_fn (b:B32) (r:Root) (hb:BOk b) (hr:RK r):FnOk Tryz.prog G3 44 [cB32.enc b,aW.enc r] (aW.enc (srV b r)):=by
 have hl:=rootM_len r
 have hT:=rootT r
 exact FnOk.av ah mixed Tryz.func44 (rsr_ex sigV rfl b (seedS b) r (sigV (seedS b) (rootM r))) ⟨hb,rfl,hr,by omega,by omega,by omega,by rw[rootM_dt],trivial⟩ (aW.ids _) rfl
noncomputable def rsr_con (S:B32→Root→Root) (hS:S=srV):Con Tryz.prog G3:=con2 44 Tryz.f44 Tryz.func44 (by kernel_rfl) (by kernel_rfl) cB32 aW (fun b r=>aW.enc (S b r)) (fun b r=>[BOk b,RK r]) (fun _ _=>aW.ids _) (fun b r h=>by subst hS;exact rsr_fn b r h.1 h.2.1)
theorem rcr_ex1 (V:B32→List Int→B64→Int) (hV:V=verV) (k:Keys) (r:Root):runOut ([rrbt.con,(rver.con V hV).lift g2_g3]:Cons Tryz.prog G3) tys Tryz.f46 100 [bA.enc k,aW.enc r] [(9,[.b true])]=some ((cInt .i64).enc 1,[(!(r.gen==k.gen))=true]):=by kernel_rfl
theorem rcr_ex2 (V:B32→List Int→B64→Int) (hV:V=verV) (k:Keys) (r:Root) (x:Int):runOut ([rrbt.con,(rver.con V hV).lift g2_g3]:Cons Tryz.prog G3) tys Tryz.f46 100 [bA.enc k,aW.enc r] [(9,[.b false]),(16,[.s ((cInt .i64).enc x)])]=some ((cInt .i64).enc x,[(!(r.gen==k.gen))=false,RK r,0+(encT (rootL r))≤(rootM r).length,(encT (rootL r))≤(encT (rootL r)),BOk k.sg,BOk (hi64 r.sig),(encT (rootL r))≤140737488353900,(cInt .i64).enc (V k.sg (((rootM r).drop 0).take (encT (rootL r))) r.sig)=(cInt .i64).enc x]):=by kernel_rfl
theorem rcr_fn (k:Keys) (r:Root) (hk:BOk k.sg) (hr:RK r) (hs:BOk (hi64 r.sig)):FnOk Tryz.prog G3 46 [bA.enc k,aW.enc r] ((cInt .i64).enc (crV k r)):=by
 have hl:=rootM_len r
 have hT:=rootT r
 unfold crV
 cases h:(!(r.gen==k.gen)) with
 | true=>
  rw[cond_true]
  exact FnOk.av ah mixed Tryz.func46 (rcr_ex1 verV rfl k r) ⟨h,trivial⟩ rfl rfl
 | false=>
  rw[cond_false]
  exact FnOk.av ah mixed Tryz.func46 (rcr_ex2 verV rfl k r (verV k.sg (rootM r) r.sig)) ⟨h,hr,by omega,by omega,hk,hs,by omega,by rw[rootM_dt],trivial⟩ rfl rfl
noncomputable def rcr_con (V:Keys→Root→Int) (hV:V=crV):Con Tryz.prog G3:=con2 46 Tryz.f46 Tryz.func46 (by kernel_rfl) (by kernel_rfl) bA aW (fun k r=>(cInt .i64).enc (V k r)) (fun k r=>[BOk k.sg,RK r,BOk (hi64 r.sig)]) (fun _ _=>rfl) (fun k r h=>by subst hV;exact rcr_fn k r h.1 h.2.1 h.2.2.1)
theorem flat_root:FlatEq Tryz.prog 67 (.u64:: .u64:: .u64::List.replicate 160 .u8):=FlatEq.of Tryz.underlying67 (by kernel_rfl) (by kernel_rfl) (by kernel_rfl)
end Go.Proofs.YtbfndladaldajaaGreatDoor

/- Chain and SameCerts of a nil list; the law KeyringKeeps: walked (no certificate). -/
import Derived.Test.YthlmepolmemejaaGreatDoorKFo
import Derived.Test.YthlmepolmemejaaGreatDoorKKKp
set_option linter.unusedSimpArgs false
set_option linter.unusedVariables false
namespace Go.Proofs.YthlmepolmemejaaGreatDoor
open Go Go.Eng Go.RowKit
set_option maxRecDepth 100000
namespace rch
namespace nl
def m (k:Keys) (a:Option Addr):List Blk:=[⟨true,28,.lit k.row⟩,⟨true,28,.lit k.row⟩]
def M0 (a:Option Addr):List (Option SV):=aH 62 0 [(1,.o (.a (.v (.slice a 0 0)))),(6,.o (.a (.slc 1 0 1 1)))]
def M1 (a:Option Addr):List (Option SV):=aH 62 0 [(1,.o (.a (.v (.slice a 0 0)))),(6,.o (.a (.slc 1 0 1 1))),(12,.o (.a (aP .i64 0))),(13,.o (.a (aP .i64 0)))]
def M2 (a:Option Addr):List (Option SV):=aH 62 0 [(6,.o (.a (.slc 1 0 1 1)))]
def M3 (a:Option Addr):List (Option SV):=aH 62 0 [(4,.o (.a (.slc 1 0 1 1))),(5,.o (.a (aP .i64 0)))]
section
variable (k:Keys) (a:Option Addr)
theorem i0:oI (M0 a) (m k a):=by delta oI;kernel_rfl
theorem i1:oI (M1 a) (m k a):=by delta oI;kernel_rfl
theorem i2:oI (M2 a) (m k a):=by delta oI;kernel_rfl
theorem i3:oI (M3 a) (m k a):=by delta oI;kernel_rfl
theorem s0:oX ([]:Cons Tryz.prog G3) 300 (dY 2 body) (aF fn [aT.enc k,.o (.a (.v (.slice a 0 0)))]) [] [] .normal (M0 a) (m k a) []:=by delta oX;kernel_rfl
theorem a1 (g:Nat→SV):oX ([]:Cons Tryz.prog G3) 300 A1 (fill g 0 (M0 a )) (m k a) [] .normal (M1 a) (m k a) []:=by delta oX;kernel_rfl
theorem o (g:Nat→SV):oX ([]:Cons Tryz.prog G3) 300 L (fill g 0 (M1 a )) (m k a) [] (.exit 0) (M2 a) (m k a) []:=by delta oX;kernel_rfl
theorem fin (g:Nat→SV):oX ([]:Cons Tryz.prog G3) 300 D (fill g 0 (M2 a )) (m k a) [] .ret (M3 a) (m k a) []:=by delta oX;kernel_rfl
theorem zr (g:Nat→SV):eRes tys (fill g 0 (M3 a )) (fun k'=>(m k a )[k']?) fn.results.toList=some [.a (.slc 1 0 1 1),.a (aP .i64 0)]:=by kernel_rfl
theorem run:aL Tryz.prog G3 0 body (aF fn [aT.enc k,.o (.a (.v (.slice a 0 0)))]) [] (aM tys fn (bF chZ (.new 28 (.lit k.row)))):=by
 refine Runs.bV ah mixed 2 (s0 k a) trivial (i0 k a) rfl fun g=> ?_
 rw[fZ]
 refine Runs.seq (Runs.seq (Runs.au ah mixed (a1 k a g) trivial (i1 k a) rfl fun g=> ?_))
 refine Runs.block ?_
 refine Runs.dL (fun(_:Unit)=>M1 a) (fun _=>m k a) (fun _=>True) (fun _=>0) ?_ () trivial g
 rintro _ g _
 refine Runs.au ah mixed (o k a g) trivial (i2 k a) rfl fun g=> ?_
 show aL _ _ _ _ _ _ _
 exact Runs.au ah mixed (fin k a g) trivial (i3 k a) rfl fun g=>aM.ret (zr k a g) ⟨1,rfl,rfl⟩
end
end nl
def specN:List aW→Option (SV × dx × Cst)
 | [.val v,.val (.o (.a (.v (.slice a 0 0))))]=>match aT.dec v with
  | some k=>some (chZ,.new 28 (.lit k.row),[])
  | none=>none
 | _=>none
noncomputable def conN:Con Tryz.prog G3:=Con.parts ah 11 fn Tryz.func11 (by kernel_rfl) (c:=body) (by kernel_rfl) [.val,.winv 130] specN
 (fun ps r e p h hp=>by
  unfold specN at h
  split at h
  ·split at h<;>cases h
   exact⟨rfl,fun b hb=>by simp[bI,aW.blk] at hb⟩
  ·cases h)
 (fun ps r e p cap h hp hi=>by
  unfold specN at h
  split at h
  ·split at h<;>cases h
   rename_i k hk
   have:=aT.ok _ _ hk
   subst this
   exact nl.run k _
  ·cases h)
end rch
namespace smc
namespace nl
def m (vs:List Value) (c:Nat) (ty:TypeId) (a:Option Addr):List Blk:=[⟨false,ty,.prv vs⟩]
def M0 (c:Nat) (a:Option Addr):List (Option SV):=aH 26 0 [(0,.o (.a (.sld 0 0 0 0 c))),(1,.o (.a (.v (.slice a 0 0))))]
def M1 (c:Nat) (a:Option Addr):List (Option SV):=aH 26 0 [(0,.o (.a (.sld 0 0 0 0 c))),(1,.o (.a (.v (.slice a 0 0)))),(12,.o (.a (aP .i64 0))),(13,.o (.a (aP .i64 0)))]
def M2:List (Option SV):=aH 26 0 []
def M3 (a:Option Addr):List (Option SV):=aH 26 0 [(4,.o (.a (ig true)))]
section
variable (vs:List Value) (c:Nat) (ty:TypeId) (a:Option Addr)
theorem i0:oI (M0 c a) (m vs c ty a):=by delta oI;kernel_rfl
theorem i1:oI (M1 c a) (m vs c ty a):=by delta oI;kernel_rfl
theorem i2:oI (M2) (m vs c ty a):=by delta oI;kernel_rfl
theorem i3:oI (M3 a) (m vs c ty a):=by delta oI;kernel_rfl
theorem s0:oX ([]:Cons Tryz.prog G3) 300 (dY 2 body) (aF fn [.o (.a (.sld 0 0 0 0 c)),.o (.a (.v (.slice a 0 0)))]) (m vs c ty a) [] .normal (M0 c a) (m vs c ty a) []:=by delta oX;kernel_rfl
theorem a1 (g:Nat→SV):oX ([]:Cons Tryz.prog G3) 300 A1 (fill g 0 (M0 c a )) (m vs c ty a) [] .normal (M1 c a) (m vs c ty a) []:=by delta oX;kernel_rfl
theorem o (g:Nat→SV):oX ([]:Cons Tryz.prog G3) 300 L (fill g 0 (M1 c a )) (m vs c ty a) [] (.exit 0) (M2) (m vs c ty a) []:=by delta oX;kernel_rfl
theorem fin (g:Nat→SV):oX ([]:Cons Tryz.prog G3) 300 D (fill g 0 (M2 )) (m vs c ty a) [] .ret (M3 a) (m vs c ty a) []:=by delta oX;kernel_rfl
end
theorem zr (vs:List Value) (c:Nat) (ty:TypeId) (a:Option Addr) (g:Nat→SV):eRes tys (fill g 0 (M3 a )) (fun k'=>(m vs c ty a )[k']?) fn.results.toList=some [.a (ig true)]:=by kernel_rfl
theorem run (vs:List Value) (c:Nat) (ty:TypeId) (a:Option Addr):aL Tryz.prog G3 1 body (aF fn [.o (.a (.sld 0 0 0 0 c)),.o (.a (.v (.slice a 0 0)))]) [⟨false,ty,.prv vs⟩] (aM tys fn (bF (aV.enc true) .none)):=by
 refine Runs.bV ah mixed 2 (s0 vs c ty a ) trivial (i0 vs c ty a ) rfl fun g=> ?_
 rw[fZ]
 refine Runs.seq (Runs.seq (Runs.au ah mixed (a1 vs c ty a g) trivial (i1 vs c ty a ) rfl fun g=> ?_))
 refine Runs.block ?_
 refine Runs.dL (fun(_:Unit)=>M1 c a ) (fun _=>m vs c ty a ) (fun _=>True) (fun _=>0) ?_ () trivial g
 rintro _ g _
 refine Runs.au ah mixed (o vs c ty a g) trivial (i2 vs c ty a ) rfl fun g=> ?_
 show aL _ _ _ _ _ _ _
 exact Runs.au ah mixed (fin vs c ty a g) trivial (i3 vs c ty a ) rfl fun g=>aM.ret (zr vs c ty a g) rfl
end nl
def specN:List aW→Option (SV × dx × Cst)
 | [.winv _ vs n ty,.val (.o (.a (.v (.slice a 0 0))))]=>some (aV.enc true,.none,[n=0])
 | _=>none
noncomputable def conN:Con Tryz.prog G3:=Con.parts ah 13 fn Tryz.func13 (by kernel_rfl) (c:=body) (by kernel_rfl) [.winv 130,.winv 130] specN
 (fun ps r e p h hp=>by
  unfold specN at h
  split at h<;>cases h
  exact⟨rfl,fun b hb=>by simp only[bI,aW.blk,List.append_nil,List.mem_singleton] at hb;rw[hb]⟩)
 (fun ps r e p cap h hp hi=>by
  unfold specN at h
  split at h<;>cases h
  obtain⟨p1,_⟩:=hp
  subst p1
  exact nl.run _ (cap 0) _ _)
end smc
namespace lkp
namespace z
def m3 (S:List B32) (ty:TypeId) (E:List Int) (ty':TypeId) (F:Keys):List Blk:=[⟨false,ty,.prv (bG S)⟩,⟨false,ty',.pre .u8 E⟩,⟨true,28,.lit F.row⟩]
def M3:List (Option SV):=aH 107 0 [(5,.o (.a (.ptr 2 0))),(6,.o (.a (.v (.slice none 0 0))))]
theorem i3 (S:List B32) (ty:TypeId) (E:List Int) (ty':TypeId) (F:Keys):oI (M3) (m3 S ty E ty' F):=by delta oI;kernel_rfl
def m4 (S:List B32) (ty:TypeId) (E:List Int) (ty':TypeId) (F:Keys) (us:List Value):List Blk:=[⟨false,ty,.prv (bG S)⟩,⟨false,ty',.pre .u8 E⟩,⟨true,28,.lit F.row⟩,⟨true,39,.grv 130 us 1 none⟩]
def M4:List (Option SV):=aH 107 0 [(5,.o (.a (.ptr 2 0))),(6,.o (.a (.v (.slice none 0 0)))),(7,.o (.a (.slg 3 1)))]
section
variable (S:List B32) (ty:TypeId) (E:List Int) (ty':TypeId) (F:Keys)
theorem i4 (us:List Value):oI (M4) (m4 S ty E ty' F us):=by delta oI;kernel_rfl
theorem r4 (g:Nat→SV):oN [0,1,2,5] ([kcp.conZ]:Cons Tryz.prog G3) 100 R4 (fill g 0 (M3 )) (m3 S ty E ty' F) [] .normal (M4) (m4 S ty E ty' F c77.vals) [0+0+1*130≤130,0<1,Room Tryz.prog 39 1]:=by delta oN;kernel_rfl
def m5 (us:List Value) (x:Keys):List Blk:=[⟨false,ty,.prv (bG S)⟩,⟨false,ty',.pre .u8 E⟩,⟨true,39,.grv 130 us 1 none⟩,⟨true,28,.lit x.row⟩,⟨true,28,.lit F.row⟩,⟨true,28,.lit F.row⟩]
def m6 (us:List Value) (ta:List Value) (r:Nat) (hi:Option Nat):List Blk:=[⟨false,ty,.prv (bG S)⟩,⟨false,ty',.pre .u8 E⟩,⟨true,39,.grv 130 us 1 none⟩,⟨true,28,.grv 65 ta r hi⟩,⟨true,28,.lit F.row⟩,⟨true,28,.lit F.row⟩]
end
def M5:List (Option SV):=aH 107 0 [(6,.o (.a (.v (.slice none 0 0)))),(7,.o (.a (.slg 2 1))),(8,.o (.a (.slg 2 0))),(9,.o (.a (.slc 3 0 1 1))),(11,.o (.a (.slc 4 0 1 1))),(13,.o (.a (.slc 5 0 1 1)))]
def M6 (j:Int):List (Option SV):=aH 107 0 [(6,.o (.a (.v (.slice none 0 0)))),(7,.o (.a (.slg 2 1))),(8,.o (.a (.slg 2 0))),(9,.o (.a (.slc 3 0 1 1))),(11,.o (.a (.slc 4 0 1 1))),(13,.o (.a (.slc 5 0 1 1))),(56,.o (.a (aP .i64 1))),(57,.o (.a (aP .i64 j)))]
def M7z:List (Option SV):=aH 107 0 [(6,.o (.a (.v (.slice none 0 0)))),(7,.o (.a (.slg 2 1))),(8,.o (.a (.slg 2 0))),(9,.o (.a (.slc 3 0 1 1))),(11,.o (.a (.slc 4 0 1 1))),(13,.o (.a (.slc 5 0 1 1))),(65,.o (.a (aP .i64 0)))]
def M7 (r:Nat) (j:Int):List (Option SV):=aH 107 0 [(6,.o (.a (.v (.slice none 0 0)))),(7,.o (.a (.slg 2 1))),(8,.o (.a (.slg 2 0))),(9,.o (.a (.slg 3 r))),(11,.o (.a (.slc 4 0 1 1))),(13,.o (.a (.slc 5 0 1 1))),(65,.o (.a (aP .i64 j)))]
def M8:List (Option SV):=aH 107 0 [(6,.o (.a (.v (.slice none 0 0)))),(7,.o (.a (.slg 2 1))),(8,.o (.a (.slg 2 0))),(11,.o (.a (.slc 4 0 1 1))),(13,.o (.a (.slc 5 0 1 1)))]
def M9 (j:Int):List (Option SV):=aH 107 0 [(11,.o (.a (.slc 4 0 1 1))),(13,.o (.a (.slc 5 0 1 1))),(93,.o (.a (aP .i64 1))),(94,.o (.a (aP .i64 j)))]
def MD:List (Option SV):=aH 107 0 []
section
variable (S:List B32) (ty:TypeId) (E:List Int) (ty':TypeId) (F:Keys) (us:List Value)
theorem i5 (x:Keys):oI (M5) (m5 S ty E ty' F us x):=by delta oI;kernel_rfl
theorem i6 (x:Keys) (j:Int):oI (M6 j) (m5 S ty E ty' F us x):=by delta oI;kernel_rfl
theorem i7z (x:Keys):oI (M7z) (m5 S ty E ty' F us x):=by delta oI;kernel_rfl
theorem i7 (ta:List Value) (r:Nat) (hi:Option Nat) (s:Nat) (j:Int):oI (M7 s j) (m6 S ty E ty' F us (ta) (r) (hi)):=by delta oI;kernel_rfl
theorem i8 (ta:List Value) (r:Nat) (hi:Option Nat):oI (M8) (m6 S ty E ty' F us (ta) (r) (hi)):=by delta oI;kernel_rfl
theorem i9 (ta:List Value) (r:Nat) (hi:Option Nat) (j:Int):oI (M9 j) (m6 S ty E ty' F us (ta) (r) (hi)):=by delta oI;kernel_rfl
theorem iD (ta:List Value) (r:Nat) (hi:Option Nat):oI (MD) (m6 S ty E ty' F us (ta) (r) (hi)):=by delta oI;kernel_rfl
end
theorem f5 (V:Keys→Cert→Int) (hV:V=ccV) (S:List B32) (ty:TypeId) (E:List Int) (ty':TypeId) (F:Keys) (us:List Value) (g:Nat→SV):oN [0,1,3,4,5,6] ([kch.conZ V hV [],rch.conN,kat.con []]:Cons Tryz.prog G3) 100 (dY 5 B5) (fill g 0 (M4 )) (m4 S ty E ty' F us) [] .normal (M5) (m5 S ty E ty' F us F) [(0:Int)≤0,(0:Int)≤1,0+0+0*130≤us.length,0≤1,((us.drop (0+0)).take (0*130))=aK [],([]:List Cert).length=0,0≤1000000,∀i,i<0→COk (([]:List Cert).getD i zc),0=0,0+0+0*130≤us.length,0≤1,((us.drop (0+0)).take (0*130))=aK [],([]:List Cert).length=0,0≤1000000,∀i,i<0→COk (([]:List Cert).getD i zc),0=0,0+0+0*130≤us.length,0≤1,((us.drop (0+0)).take (0*130))=aK [],([]:List Cert).length=0,0<9223372036854775807]:=by delta oN;kernel_rfl
section
variable (S:List B32) (ty:TypeId) (E:List Int) (ty':TypeId) (F:Keys) (us:List Value)
theorem a10 (x:Keys) (g:Nat→SV):oX ([]:Cons Tryz.prog G3) 300 A10 (fill g 0 (M5 )) (m5 S ty E ty' F us x) [] .normal (M6 0) (m5 S ty E ty' F us x) []:=by delta oX;kernel_rfl
theorem t1 (x:Keys) (g:Nat→SV):oX ([]:Cons Tryz.prog G3) 300 L1 (fill g 0 (M6 0)) (m5 S ty E ty' F us x) [] .normal (M6 1) (m5 S ty E ty' F us ⟨777,x.sg,x.vr⟩) []:=by delta oX;kernel_rfl
theorem o1 (x:Keys) (g:Nat→SV):oX ([]:Cons Tryz.prog G3) 300 L1 (fill g 0 (M6 1)) (m5 S ty E ty' F us x) [] (.exit 0) (M5) (m5 S ty E ty' F us x) []:=by delta oX;kernel_rfl
theorem a15 (x:Keys) (g:Nat→SV):oX ([]:Cons Tryz.prog G3) 300 A15 (fill g 0 (M5 )) (m5 S ty E ty' F us x) [] .normal (M7z) (m5 S ty E ty' F us x) []:=by delta oX;kernel_rfl
theorem z2 (x:Keys) (g:Nat→SV):oN [0,1,2,7,4,5] ([]:Cons Tryz.prog G3) 100 L2 (fill g 0 (M7z )) (m5 S ty E ty' F us x) [] .normal (M7 2 1) (m6 S ty E ty' F us (x.vals++zk.vals) (2) (none)) [0+0+1*65≤65,65≤x.row.length,1<2,Room Tryz.prog 28 2]:=by delta oN;kernel_rfl
theorem g2 (ta:List Value) (r:Nat) (j j':Int) (g:Nat→SV):oX ([]:Cons Tryz.prog G3) 300 L2 (fill g 0 (M7 r j)) (m6 S ty E ty' F us (ta) (r+1) (none)) [(66,[.b true]),(70,[.dyn]),(71,[.n j'])] .normal (M7 (r+1) j') (m6 S ty E ty' F us (ta++zk.vals) (r+1) (none)) [decide (j<9)=true,0+0+1*65≤65,r*65=ta.length,r+1≤r+1,∀v∈zk.vals,v.oneCell'=true,IntKind.i64.wrap (j+1)=j']:=by delta oX;kernel_rfl
theorem r2 (ta:List Value) (r lo:Nat) (j j':Int) (g:Nat→SV):oN [0,1,2,7,4,5] ([]:Cons Tryz.prog G3) 100 L2 (fill g 0 (M7 r j)) (m6 S ty E ty' F us (ta) (lo) (some (r+1))) [(66,[.b true]),(70,[.dyn]),(71,[.n j'])] .normal (M7 (r+1) j') (m6 S ty E ty' F us (ta++zk.vals) (r+1) (none)) [decide (j<9)=true,0+0+1*65≤65,r*65=ta.length,r+1≤r+1,Room Tryz.prog 28 (r+1),IntKind.i64.wrap (j+1)=j']:=by delta oN;kernel_rfl
theorem o2 (ta:List Value) (r lo:Nat) (j:Int) (g:Nat→SV):oX ([]:Cons Tryz.prog G3) 300 L2 (fill g 0 (M7 r j)) (m6 S ty E ty' F us (ta) (lo) (none)) [(66,[.b false])] (.exit 2) (M8) (m6 S ty E ty' F us (ta) (lo) (none)) [decide (j<9)=false]:=by delta oX;kernel_rfl
theorem c19 (ta:List Value) (lo:Nat) (g:Nat→SV):oX ([smc.conN]:Cons Tryz.prog G3) 300 C19 (fill g 0 (M8 )) (m6 S ty E ty' F us (ta) (lo) (none)) [(83,[.ds (.o (.a (aP .u64 77)))]),(89,[.s (aV.enc true)])] .normal (M8) (m6 S ty E ty' F us (ta) (lo) (none)) [(0:Int)≤0,(0:Int)<1,0+(aS 0 0 130+65)<us.length,SV.o (.a (.v (us.getD (0+(aS 0 0 130+65)) undef)))= .o (.a (aP .u64 77)),0+0+0*130≤us.length,0≤1,0=0,aV.enc true=aV.enc true]:=by delta oX;kernel_rfl
theorem a21 (ta:List Value) (lo:Nat) (g:Nat→SV):oX ([]:Cons Tryz.prog G3) 300 A21 (fill g 0 (M8 )) (m6 S ty E ty' F us (ta) (lo) (none)) [] .normal (M9 0) (m6 S ty E ty' F us (ta) (lo) (none)) []:=by delta oX;kernel_rfl
theorem t3 (ta:List Value) (lo:Nat) (g:Nat→SV):oX ([]:Cons Tryz.prog G3) 300 L3 (fill g 0 (M9 0)) (m6 S ty E ty' F us (ta) (lo) (none)) [(105,[.b false])] .normal (M9 1) (m6 S ty E ty' F us (ta) (lo) (none)) [qL Tryz.prog 28 (.u64::List.replicate 64 .u8),(!(sameK F.to))=false]:=by delta oX;kernel_rfl
theorem o3 (ta:List Value) (lo:Nat) (g:Nat→SV):oX ([]:Cons Tryz.prog G3) 300 L3 (fill g 0 (M9 1)) (m6 S ty E ty' F us (ta) (lo) (none)) [] (.exit 4) (MD) (m6 S ty E ty' F us (ta) (lo) (none)) []:=by delta oX;kernel_rfl
theorem fin (ta:List Value) (lo:Nat) (g:Nat→SV):oN [0,1] ([]:Cons Tryz.prog G3) 100 D (fill g 0 (MD )) (m6 S ty E ty' F us (ta) (lo) (none)) [] .ret MR ([⟨false,ty,.prv (bG S)⟩,⟨false,ty',.pre .u8 E⟩]:List Blk) []:=by delta oN;kernel_rfl
end
theorem mid (V:Keys→Cert→Int) (hV:V=ccV) (S:List B32) (ty:TypeId) (E:List Int) (ty':TypeId) (F:Keys) (g:Nat→SV):aL Tryz.prog G3 2 (bU 3 body) (fill g 0 (M3)) (m3 S ty E ty' F) (aM tys fn (bF (aV.enc true) .none)):=by
 have wr:∀i:Nat,i≤100→IntKind.i64.wrap ((i:Int)+1)=((i+1:Nat):Int):=fun i h=>by rw[IntKind.wrap_i64];omega
 rw[body3]
 refine Runs.seq (Runs.bS ah mixed [0,1,2,5] (r4 S ty E ty' F g) ⟨by decide,by decide,kcp.tH 1 (by omega),trivial⟩ (i4 S ty E ty' F _) (by kernel_rfl) fun g=> ?_)
 refine Runs.qB ah mixed 5 [0,1,3,4,5,6] (f5 V hV S ty E ty' F _ g) ⟨by decide,by decide,Nat.zero_le _,by decide,rfl,rfl,by decide,fun _ h=>absurd h (Nat.not_lt_zero _),rfl,Nat.zero_le _,by decide,rfl,rfl,by decide,fun _ h=>absurd h (Nat.not_lt_zero _),rfl,Nat.zero_le _,by decide,rfl,rfl,by decide,trivial⟩ (i5 S ty E ty' F _ _) (by kernel_rfl) fun g=> ?_
 rw[body9]
 refine Runs.seq (Runs.seq (Runs.au ah mixed (a10 S ty E ty' F _ _ g) trivial (i6 S ty E ty' F _ _ 0) rfl fun g=> ?_))
 refine Runs.block ?_
 refine Runs.dL (fun(i:Nat)=>M6 (i:Int)) (fun i=>m5 S ty E ty' F c77.vals (match i with | 0=>F | _=>⟨777,F.sg,F.vr⟩)) (fun i=>i≤1) (fun i=>1-i) ?_ 0 (by omega) g
 rintro i g hi
 obtain rfl | rfl:i=0∨i=1:=by omega
 ·exact Runs.au ah mixed (t1 S ty E ty' F _ F g) trivial (i6 S ty E ty' F _ _ _) rfl fun g=>⟨1,g,rfl,rfl,by omega,by omega⟩
 refine Runs.au ah mixed (o1 S ty E ty' F _ (⟨777,F.sg,F.vr⟩:Keys) g) trivial (i5 S ty E ty' F _ _) rfl fun g=> ?_
 show aL _ _ _ _ _ _ _
 refine Runs.seq (Runs.seq (Runs.au ah mixed (a15 S ty E ty' F _ _ g) trivial (i7z S ty E ty' F _ _) rfl fun g=> ?_))
 refine Runs.block ?_
 refine Runs.dL (fun(s:Nat × List Value)=>match s.1 with | 0=>M7z | i+1=>M7 (1+(i+1)) ((i+1:Nat):Int)) (fun s=>match s.1 with | 0=>m5 S ty E ty' F c77.vals ⟨777,F.sg,F.vr⟩ | i+1=>m6 S ty E ty' F c77.vals s.2 (1+(i+1)) none) (fun s=>s.1≤9∧(0<s.1→s.2.length=(1+s.1)*65)) (fun s=>9-s.1) ?_ (0,[]) ⟨by show 0≤9;omega,fun h=>absurd h (Nat.lt_irrefl 0)⟩ g
 rintro⟨j,tb⟩ g ⟨hj,htb⟩
 have hj:j≤9:=hj
 rcases j with _ | j
 ·exact Runs.bS ah mixed [0,1,2,7,4,5] (z2 S ty E ty' F _ (⟨777,F.sg,F.vr⟩:Keys) g) ⟨by decide,Nat.le_refl 65,by decide,roomK 2 (by omega),trivial⟩ (i7 S ty E ty' F _ _ _ _ _ _) rfl fun g=>⟨(1,_),g,rfl,rfl,⟨by show 1≤9;omega,fun _=>by show((⟨777,F.sg,F.vr⟩:Keys).vals++zk.vals).length=_;rw[List.length_append,Keys.iM,Keys.iM];rfl⟩,by show 9-1<9-0;omega⟩
 have htb:tb.length=(1+(j+1))*65:=htb (Nat.succ_pos _)
 show aL _ _ _ _ (fill g 0 (M7 (1+(j+1)) ((j+1:Nat):Int))) (m6 S ty E ty' F c77.vals tb (1+(j+1)) none) _
 by_cases hjn:j+1=9
 ·refine Runs.au ah mixed (o2 S ty E ty' F _ tb _ _ ((j+1:Nat):Int) g) ⟨decide_eq_false (by omega),trivial⟩ (i8 S ty E ty' F _ _ _ _) rfl fun g=> ?_
  show aL _ _ _ _ _ _ _
  refine Runs.seq (Runs.au ah mixed (c19 S ty E ty' F c77.vals tb _ g) ⟨by decide,by decide,by rw[show c77.vals.length=130 from rfl];decide,by kernel_rfl,Nat.zero_le _,by decide,rfl,rfl,trivial⟩ (i8 S ty E ty' F _ _ _ _) rfl fun g=> ?_)
  refine Runs.seq (Runs.seq (Runs.au ah mixed (a21 S ty E ty' F _ tb _ g) trivial (i9 S ty E ty' F _ _ _ _ 0) rfl fun g=> ?_))
  refine Runs.block ?_
  refine Runs.dL (fun(k:Nat)=>M9 (k:Int)) (fun _=>m6 S ty E ty' F c77.vals tb (1+(j+1)) none) (fun k=>k≤1) (fun k=>1-k) ?_ 0 (by omega) g
  rintro k g hk
  obtain rfl | rfl:k=0∨k=1:=by omega
  ·exact Runs.au ah mixed (t3 S ty E ty' F _ tb _ g) ⟨flat_keys,by rw[vL];rfl,trivial⟩ (i9 S ty E ty' F _ _ _ _ _) rfl fun g=>⟨1,g,rfl,rfl,by omega,by omega⟩
  refine Runs.au ah mixed (o3 S ty E ty' F _ tb _ g) trivial (iD S ty E ty' F _ _ _ _) rfl fun g=> ?_
  show aL _ _ _ _ _ _ _
  exact Runs.bS ah mixed [0,1] (fin S ty E ty' F _ tb _ g) trivial (by kernel_rfl) rfl fun g=>aM.ret (zr g _) rfl
 ·have hl:(tb++zk.vals).length=(1+(j+1+1))*65:=by rw[List.length_append,htb,show zk.vals.length=65 from rfl];omega
  have er:1+(j+1)+1=1+(j+1+1):=by omega
  refine Runs.roomV 3 (1+(j+1)+1) (own:=true) (ty:=28) (s:=65) (vs:=tb) (lo:=1+(j+1)) rfl ?_ ?_
  ·exact Runs.au ah mixed (g2 S ty E ty' F _ tb (1+(j+1)) ((j+1:Nat):Int) ((j+1+1:Nat):Int) g) ⟨decide_eq_true (by omega),by decide,by omega,Nat.le_refl _,oneV zk,wr (j+1) (by omega),trivial⟩ (i7 S ty E ty' F _ _ _ _ _ _) rfl fun g=>⟨(j+1+1,tb++zk.vals),g,by rw[er],by rw[er],⟨by show j+1+1≤9;omega,fun _=>hl⟩,by show 9-(j+1+1)<9-(j+1);omega⟩
  ·exact Runs.bS ah mixed [0,1,2,7,4,5] (r2 S ty E ty' F _ tb (1+(j+1)) (1+(j+1)) ((j+1:Nat):Int) ((j+1+1:Nat):Int) g) ⟨decide_eq_true (by omega),by decide,by omega,Nat.le_refl _,roomK _ (by omega),wr (j+1) (by omega),trivial⟩ (i7 S ty E ty' F _ _ _ _ _ _) rfl fun g=>⟨(j+1+1,tb++zk.vals),g,by rw[er],by rw[er],⟨by show j+1+1≤9;omega,fun _=>hl⟩,by show 9-(j+1+1)<9-(j+1);omega⟩
end z
namespace zww
theorem s (C:B32→Keys→Int→Cert) (hC:C=bL) (V:Keys→Cert→Int) (hV:V=ccV) (S:List B32) (n c:Nat) (ty:TypeId) (E:List Int) (m d:Nat) (ty':TypeId) (F:Keys):oN [0,1,2] ([ru,mad.conZ C hC S F]:Cons Tryz.prog G3) 100 (dY 3 body) (aF fn [.o (.a (.sld 0 0 0 n c)),.o (.a (.sld 1 0 0 m d))]) ([⟨false,ty,.prv (bG S)⟩,⟨false,ty',.pre .u8 E⟩]:List Blk) [] .normal (z.M3) (z.m3 S ty E ty' F) [0+0+n*32≤(bG S).length,n≤c,0+0+m≤E.length,m≤d,(((bG S).drop (0+0)).take (n*32))=bG S,S.length=n,n≤9223372036854775807,∀i,i<n→BOk (S.getD i aG),F=bA (S.getD 0 aG) 0,BOk aG,mkN n=0]:=by delta oN;kernel_rfl
theorem run (C:B32→Keys→Int→Cert) (hC:C=bL) (V:Keys→Cert→Int) (hV:V=ccV) (S:List B32) (n c:Nat) (ty:TypeId) (E:List Int) (m d:Nat) (ty':TypeId) (F:Keys) (hn:S.length=n) (hc:n≤c) (hm:n≤9223372036854775807) (hS:∀i,i<n→BOk (S.getD i aG)) (hq:mkN n=0) (hF:F=bA (S.getD 0 aG) 0) (hE:E.length=m) (hd:m≤d) (hz:BOk aG):aL Tryz.prog G3 2 body (aF fn [.o (.a (.sld 0 0 0 n c)),.o (.a (.sld 1 0 0 m d))]) [⟨false,ty,.prv (bG S)⟩,⟨false,ty',.pre .u8 E⟩] (aM tys fn (bF (aV.enc true) .none)):=
 Runs.qB ah mixed 3 [0,1,2] (s C hC V hV S n c ty E m d ty' F ) ⟨by rw[show(bG S).length=n*32 from by rw[←hn];exact fQ jO S];omega,hc,by omega,hd,wu _ (by rw[←hn];exact fQ jO S),hn,hm,hS,hF,hz,hq,trivial⟩ (z.i3 S ty E ty' F ) (by kernel_rfl) fun g=>z.mid V hV S ty E ty' F g
end zww
namespace zwv
theorem s (C:B32→Keys→Int→Cert) (hC:C=bL) (V:Keys→Cert→Int) (hV:V=ccV) (S:List B32) (n c:Nat) (ty:TypeId) (a:Option Addr) (ty':TypeId) (F:Keys):oN [0,1,2] ([ru,mad.conZ C hC S F]:Cons Tryz.prog G3) 100 (dY 3 body) (aF fn [.o (.a (.sld 0 0 0 n c)),.o (.a (.v (.slice a 0 0)))]) ([⟨false,ty,.prv (bG S)⟩,⟨false,ty',.pre .u8 []⟩]:List Blk) [] .normal (z.M3) (z.m3 S ty [] ty' F) [0+0+n*32≤(bG S).length,n≤c,(((bG S).drop (0+0)).take (n*32))=bG S,S.length=n,n≤9223372036854775807,∀i,i<n→BOk (S.getD i aG),F=bA (S.getD 0 aG) 0,BOk aG,mkN n=0]:=by delta oN;kernel_rfl
theorem run (C:B32→Keys→Int→Cert) (hC:C=bL) (V:Keys→Cert→Int) (hV:V=ccV) (S:List B32) (n c:Nat) (ty:TypeId) (a:Option Addr) (ty':TypeId) (F:Keys) (hn:S.length=n) (hc:n≤c) (hm:n≤9223372036854775807) (hS:∀i,i<n→BOk (S.getD i aG)) (hq:mkN n=0) (hF:F=bA (S.getD 0 aG) 0) (hz:BOk aG):aL Tryz.prog G3 2 body (aF fn [.o (.a (.sld 0 0 0 n c)),.o (.a (.v (.slice a 0 0)))]) [⟨false,ty,.prv (bG S)⟩,⟨false,ty',.pre .u8 []⟩] (aM tys fn (bF (aV.enc true) .none)):=
 Runs.qB ah mixed 3 [0,1,2] (s C hC V hV S n c ty a ty' F ) ⟨by rw[show(bG S).length=n*32 from by rw[←hn];exact fQ jO S];omega,hc,wu _ (by rw[←hn];exact fQ jO S),hn,hm,hS,hF,hz,hq,trivial⟩ (z.i3 S ty [] ty' F ) (by kernel_rfl) fun g=>z.mid V hV S ty [] ty' F g
end zwv
namespace zvw
theorem s (C:B32→Keys→Int→Cert) (hC:C=bL) (V:Keys→Cert→Int) (hV:V=ccV) (b:Option Addr) (ty:TypeId) (E:List Int) (m d:Nat) (ty':TypeId) (F:Keys):oN [0,1,2] ([ru,mad.conZ C hC [] F]:Cons Tryz.prog G3) 100 (dY 3 body) (aF fn [.o (.a (.v (.slice b 0 0))),.o (.a (.sld 1 0 0 m d))]) ([⟨false,ty,.prv (bG [])⟩,⟨false,ty',.pre .u8 E⟩]:List Blk) [] .normal (z.M3) (z.m3 [] ty E ty' F) [0+0+m≤E.length,m≤d,F=bA aG 0,BOk aG]:=by delta oN;kernel_rfl
theorem run (C:B32→Keys→Int→Cert) (hC:C=bL) (V:Keys→Cert→Int) (hV:V=ccV) (b:Option Addr) (ty:TypeId) (E:List Int) (m d:Nat) (ty':TypeId) (F:Keys) (hF:F=bA aG 0) (hE:E.length=m) (hd:m≤d) (hz:BOk aG):aL Tryz.prog G3 2 body (aF fn [.o (.a (.v (.slice b 0 0))),.o (.a (.sld 1 0 0 m d))]) [⟨false,ty,.prv (bG [])⟩,⟨false,ty',.pre .u8 E⟩] (aM tys fn (bF (aV.enc true) .none)):=
 Runs.qB ah mixed 3 [0,1,2] (s C hC V hV b ty E m d ty' F ) ⟨by omega,hd,hF,hz,trivial⟩ (z.i3 [] ty E ty' F ) (by kernel_rfl) fun g=>z.mid V hV [] ty E ty' F g
end zvw
namespace zvv
theorem s (C:B32→Keys→Int→Cert) (hC:C=bL) (V:Keys→Cert→Int) (hV:V=ccV) (b:Option Addr) (ty:TypeId) (a:Option Addr) (ty':TypeId) (F:Keys):oN [0,1,2] ([ru,mad.conZ C hC [] F]:Cons Tryz.prog G3) 100 (dY 3 body) (aF fn [.o (.a (.v (.slice b 0 0))),.o (.a (.v (.slice a 0 0)))]) ([⟨false,ty,.prv (bG [])⟩,⟨false,ty',.pre .u8 []⟩]:List Blk) [] .normal (z.M3) (z.m3 [] ty [] ty' F) [F=bA aG 0,BOk aG]:=by delta oN;kernel_rfl
theorem run (C:B32→Keys→Int→Cert) (hC:C=bL) (V:Keys→Cert→Int) (hV:V=ccV) (b:Option Addr) (ty:TypeId) (a:Option Addr) (ty':TypeId) (F:Keys) (hF:F=bA aG 0) (hz:BOk aG):aL Tryz.prog G3 2 body (aF fn [.o (.a (.v (.slice b 0 0))),.o (.a (.v (.slice a 0 0)))]) [⟨false,ty,.prv (bG [])⟩,⟨false,ty',.pre .u8 []⟩] (aM tys fn (bF (aV.enc true) .none)):=
 Runs.qB ah mixed 3 [0,1,2] (s C hC V hV b ty a ty' F ) ⟨hF,hz,trivial⟩ (z.i3 [] ty [] ty' F ) (by kernel_rfl) fun g=>z.mid V hV [] ty [] ty' F g
end zvv
end lkp
end Go.Proofs.YthlmepolmemejaaGreatDoor

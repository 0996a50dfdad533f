/- Package tree: Around: facts of the walk. -/
import Derived.Test.YtdccehmekkcheaaDoorCFo
import Derived.Test.YtdccehmekkcheaaDoorCMTC
set_option linter.unusedSimpArgs false
set_option linter.unusedVariables false
namespace Go.Proofs.YtdccehmekkcheaaDoor
open Go Go.Eng Go.RowKit
set_option maxRecDepth 100000
def aO:List Value→List B32
 | []=>[]
 | v::r=>match ay.dec (.o (.g ((v::r.take 31).map Atom.v))) with
  | some n=>n::aO (r.drop 31)
  | none=>[]
 termination_by l=>l.length
 decreasing_by simp only[List.length_drop,List.length_cons];omega
theorem nD:∀l:List B32,aO (aJ l)=l
 | []=>by rw[show aJ []=[] from rfl,aO]
 | n::r=>by
  have e:aJ (n::r)=fu n++aJ r:=by simp[aJ]
  rw[e]
  have e2:fu n++aJ r= .int .u8 n.b0::((n.to.tail.map (Value.int .u8))++aJ r):=rfl
  have hl:(n.to.tail.map (Value.int .u8)).length=31:=rfl
  rw[e2,aO,List.take_append_of_le_length (by rw[hl];omega),List.take_of_length_le (by rw[hl];omega),List.drop_append,hl,Nat.sub_self,List.drop_zero,List.drop_eq_nil_of_le (by rw[hl];omega),List.nil_append]
  have e3:(Value.int .u8 n.b0::n.to.tail.map (Value.int .u8)).map Atom.v=ay.row n:=rfl
  rw[e3,cB32_dec]
  simp only
  rw[nD r]
def gq (l:List B32):Prop:=∀x∈l,BOk x
def cK (H:Nd→Nd→B32) (own:Bool) (l:List Nd) (ks:List B32):List Nd:=aroF H own l.length l ks
def bT (H:Nd→Nd→B32) (own:Bool) (l:List Nd) (ks:List B32):List Nd:=witF H own l.length l ks
namespace tar
noncomputable abbrev fn:=Tryd.f69
noncomputable def body:Code:=d9 fn
noncomputable def S4:Code:=bM 4 body
noncomputable def A1:Code:=cs1 (cs1 S4)
noncomputable def L:Code:=cL (cB (cs2 (cs1 S4)))
noncomputable def B2:Code:=cs1 (cs2 S4)
noncomputable def R16:Code:=cs1 (cs2 (cs2 S4))
noncomputable def R17:Code:=cs1 (cs2 (cs2 (cs2 S4)))
noncomputable def Z:Code:=cs2 (cs2 (cs2 (cs2 S4)))
noncomputable def i17:Nat:=match R17 with | .region i _ _=>i | _=>0
noncomputable def Qa (r:List Nd) (v:SV) (m:List Blk):Prop:=(r=[]∧bJ (.o (.a (.v (.slice none 0 0)))) .none v m)∨(r≠[]∧bJ (.o (.a (.slg 0 r.length))) (.new 33 (.grv 65 (ah r) r.length none)) v m)
def IH (H:Nd→Nd→B32) (N:Nat):Prop:=∀(l:List Nd) (n c:Nat) (ty:TypeId) (ks:List B32) (m mc:Nat) (ty2:TypeId) (own:Bool),l.length=n→n<N→n≤c→bg l→bC l=true→ks.length=m→m≤4000000→m≤mc→gq ks→
 aF Tryd.prog GT 2 body (aK fn [.o (.a (.sld 0 0 0 n c)),.o (.a (.sld 1 0 0 m mc)),.o (.a (.v (.bool own)))]) [⟨false,ty,.prv (ah l)⟩,⟨false,ty2,.prv (aJ ks)⟩] (aH tys fn (fun r mm=>Qa (cK H own l ks) r mm))
theorem dJ:bM 4 body= .seq (.seq A1 (.block 0 (.loop L))) (.seq B2 (.seq R16 (.seq (.region i17 (opsOf R17) false) Z))):=by kernel_rfl
def iW (H:Nd→Nd→B32) (N:Nat):List aU→Option (SV × dH × Cst)
 | [.winv _ vs n ty,.winv _ ws m ty2,.val (.o (.a (.v (.bool own))))]=>some (.o (.a (.slg 0 (cK H own (ak vs) (aO ws)).length)),.new 33 (.grv 65 (ah (cK H own (ak vs) (aO ws))) (cK H own (ak vs) (aO ws)).length none),[vs=ah (ak vs),(ak vs).length=n,n<N,bg (ak vs),bC (ak vs)=true,ws=aJ (aO ws),(aO ws).length=m,m≤4000000,gq (aO ws),(cK H own (ak vs) (aO ws))≠[]])
 | _=>none
def jX (H:Nd→Nd→B32) (N:Nat):List aU→Option (SV × dH × Cst)
 | [.winv _ vs n ty,.winv _ ws m ty2,.val (.o (.a (.v (.bool own))))]=>some (.o (.a (.v (.slice none 0 0))),.none,[vs=ah (ak vs),(ak vs).length=n,n<N,bg (ak vs),bC (ak vs)=true,ws=aJ (aO ws),(aO ws).length=m,m≤4000000,gq (aO ws),(cK H own (ak vs) (aO ws))=[]])
 | _=>none
section
variable (H:Nd→Nd→B32)
noncomputable def conP (N:Nat) (ih:IH H N):Con Tryd.prog GT:=Con.parts aj 69 fn Tryd.func69 (by kernel_rfl) (c:=body) (by kernel_rfl) [.winv 65,.winv 32,.val] (iW H N)
 (fun ps r e p h hp=>by
  unfold iW at h
  split at h<;>cases h
  exact⟨rfl,fun b hb=>by simp only[bf,aU.blk,List.append_nil,List.nil_append,List.cons_append,List.mem_cons,List.not_mem_nil,or_false] at hb;rcases hb with rfl | rfl<;>rfl⟩)
 (fun ps r e p cap h hp hi=>by
  unfold iW at h
  split at h<;>cases h
  rename_i s1 vs n ty s2 ws m ty2 own
  obtain⟨p1,p2,p3,p4,p5,p6,p7,p8,p9,p10,_⟩:=hp
  obtain⟨⟨_,hc1⟩,⟨_,hc2⟩,_⟩:=hi
  have q:=ih (ak vs) n (cap 0) ty (aO ws) m (cap 1) ty2 own p2 p3 hc1 p4 p5 p7 p8 hc2 p9
  rw[←p1,←p6] at q
  refine Runs.mono q fun e t m=>jJ fun r m h=> ?_
  rcases h with⟨h',_⟩ | ⟨_,h⟩
  ·exact absurd h' p10
  ·exact h)
noncomputable def conZ (N:Nat) (ih:IH H N):Con Tryd.prog GT:=Con.parts aj 69 fn Tryd.func69 (by kernel_rfl) (c:=body) (by kernel_rfl) [.winv 65,.winv 32,.val] (jX H N)
 (fun ps r e p h hp=>by
  unfold jX at h
  split at h<;>cases h
  exact⟨rfl,fun b hb=>by simp only[bf,aU.blk,List.append_nil,List.nil_append,List.cons_append,List.mem_cons,List.not_mem_nil,or_false] at hb;rcases hb with rfl | rfl<;>rfl⟩)
 (fun ps r e p cap h hp hi=>by
  unfold jX at h
  split at h<;>cases h
  rename_i s1 vs n ty s2 ws m ty2 own
  obtain⟨p1,p2,p3,p4,p5,p6,p7,p8,p9,p10,_⟩:=hp
  obtain⟨⟨_,hc1⟩,⟨_,hc2⟩,_⟩:=hi
  have q:=ih (ak vs) n (cap 0) ty (aO ws) m (cap 1) ty2 own p2 p3 hc1 p4 p5 p7 p8 hc2 p9
  rw[←p1,←p6] at q
  refine Runs.mono q fun e t m=>jJ fun r m h=> ?_
  rcases h with⟨_,h⟩ | ⟨h',_⟩
  ·exact h
  ·exact absurd p10 h')
noncomputable def ΓB (hH:H=hV):Cons Tryd.prog GT:=[spl.con,tjn.conF H hH,tholds.con]
noncomputable def ΓP (N:Nat) (ih:IH H N):Cons Tryd.prog GT:=[conP H N ih]
noncomputable def ΓZ (N:Nat) (ih:IH H N):Cons Tryd.prog GT:=[conZ H N ih]
end
section
variable (l:List Nd) (ty:TypeId) (ks:List B32) (ty2:TypeId)
def m0:List Blk:=[⟨false,ty,.prv (ah l)⟩,⟨false,ty2,.prv (aJ ks)⟩]
def m2 (x:Nd):List Blk:=[⟨false,ty,.prv (ah l)⟩,⟨false,ty2,.prv (aJ ks)⟩,⟨true,33,.lit (Nd.row x)⟩]
def m3 (x:Nd) (vs:List Value) (lo:Nat) (hi:Option Nat):List Blk:=[⟨false,ty,.prv (ah l)⟩,⟨false,ty2,.prv (aJ ks)⟩,⟨true,33,.lit (Nd.row x)⟩,⟨true,24,.grv 32 vs lo hi⟩]
def m4 (vs:List Value) (lo:Nat) (hi:Option Nat):List Blk:=[⟨false,ty,.prv (ah l)⟩,⟨false,ty2,.prv (aJ ks)⟩,⟨true,24,.grv 32 vs lo hi⟩]
def m5 (vs:List Value) (lo:Nat) (hi:Option Nat) (us:List Value) (u:Nat) (v:Option Nat):List Blk:=[⟨false,ty,.prv (ah l)⟩,⟨false,ty2,.prv (aJ ks)⟩,⟨true,24,.grv 32 vs lo hi⟩,⟨true,33,.grv 65 us u v⟩]
def mr (us:List Value) (u:Nat):List Blk:=[⟨false,ty,.prv (ah l)⟩,⟨false,ty2,.prv (aJ ks)⟩,⟨true,33,.grv 65 us u none⟩]
end
def MN:List (Option SV):=aD 64 0 [(6,.o (.a (.v (.slice none 0 0))))]
def MR (r:Nat):List (Option SV):=aD 64 0 [(6,.o (.a (.slg 2 r)))]
section
variable (n c:Nat) (m mc:Nat) (own:Bool)
def M0:List (Option SV):=aD 64 0 [(0,.o (.a (.sld 0 0 0 n c))),(1,.o (.a (.sld 1 0 0 m mc))),(2,.o (.a (.v (.bool own)))),(7,.o (.a (.ptr 2 0))),(8,.o (.a (.v (.slice none 0 0))))]
def MZ (j:Int):List (Option SV):=aD 64 0 [(0,.o (.a (.sld 0 0 0 n c))),(1,.o (.a (.sld 1 0 0 m mc))),(2,.o (.a (.v (.bool own)))),(7,.o (.a (.ptr 2 0))),(8,.o (.a (.v (.slice none 0 0)))),(19,.o (.a (.sld 1 0 0 m mc))),(20,.o (.a (aG .i64 m))),(21,.o (.a (aG .i64 j)))]
def MP (j:Int) (h:Nat):List (Option SV):=aD 64 0 [(0,.o (.a (.sld 0 0 0 n c))),(1,.o (.a (.sld 1 0 0 m mc))),(2,.o (.a (.v (.bool own)))),(7,.o (.a (.ptr 2 0))),(8,.o (.a (.slg 3 h))),(19,.o (.a (.sld 1 0 0 m mc))),(20,.o (.a (aG .i64 m))),(21,.o (.a (aG .i64 j)))]
def MQ (h:Nat):List (Option SV):=aD 64 0 [(0,.o (.a (.sld 0 0 0 n c))),(1,.o (.a (.sld 1 0 0 m mc))),(2,.o (.a (.v (.bool own)))),(7,.o (.a (.ptr 2 0))),(8,.o (.a (.slg 3 h)))]
end
def M3 (n c:Nat) (own:Bool) (h:Nat):List (Option SV):=aD 64 0 [(0,.o (.a (.sld 0 0 0 n c))),(2,.o (.a (.v (.bool own)))),(8,.o (.a (.slg 2 h)))]
def M4 (n c:Nat) (own:Bool) (h k o:Nat):List (Option SV):=aD 64 0 [(2,.o (.a (.v (.bool own)))),(8,.o (.a (.slg 2 h))),(11,.o (.a (.sld 0 0 0 k c))),(12,.o (.a (.sld 0 0 o (n-k) (c-k))))]
def MVZ (n c:Nat) (own:Bool) (h k o:Nat):List (Option SV):=aD 64 0 [(2,.o (.a (.v (.bool own)))),(8,.o (.a (.slg 2 h))),(12,.o (.a (.sld 0 0 o (n-k) (c-k)))),(58,.o (.a (.v (.slice none 0 0))))]
def MVP (n c:Nat) (own:Bool) (h k o u:Nat):List (Option SV):=aD 64 0 [(2,.o (.a (.v (.bool own)))),(8,.o (.a (.slg 2 h))),(12,.o (.a (.sld 0 0 o (n-k) (c-k)))),(58,.o (.a (.slg 3 u)))]
section
variable (l:List Nd)
theorem iN (ty:TypeId) (ks:List B32) (ty2:TypeId):oI (MN) (m0 l ty ks ty2):=by delta oI;kernel_rfl
theorem iR (ty:TypeId) (ks:List B32) (ty2:TypeId) (us:List Value) (u r:Nat):oI (MR r) (mr l ty ks ty2 us u):=by delta oI;kernel_rfl
theorem i0 (n c:Nat) (ty:TypeId) (ks:List B32) (m mc:Nat) (ty2:TypeId) (own:Bool) (x:Nd):oI (M0 n c m mc own) (m2 l ty ks ty2 x):=by delta oI;kernel_rfl
theorem iZ (n c:Nat) (ty:TypeId) (ks:List B32) (m mc:Nat) (ty2:TypeId) (own:Bool) (x:Nd) (j:Int):oI (MZ n c m mc own j) (m2 l ty ks ty2 x):=by delta oI;kernel_rfl
theorem iP (n c:Nat) (ty:TypeId) (ks:List B32) (m mc:Nat) (ty2:TypeId) (own:Bool) (x:Nd) (vs:List Value) (lo:Nat) (hi:Option Nat) (j:Int) (h:Nat):oI (MP n c m mc own j h) (m3 l ty ks ty2 x vs lo hi):=by delta oI;kernel_rfl
theorem iQ (n c:Nat) (ty:TypeId) (ks:List B32) (m mc:Nat) (ty2:TypeId) (own:Bool) (x:Nd) (vs:List Value) (lo:Nat) (hi:Option Nat) (h:Nat):oI (MQ n c m mc own h) (m3 l ty ks ty2 x vs lo hi):=by delta oI;kernel_rfl
theorem i3 (n c:Nat) (ty:TypeId) (ks:List B32) (ty2:TypeId) (own:Bool) (vs:List Value) (lo:Nat) (hi:Option Nat) (h:Nat):oI (M3 n c own h) (m4 l ty ks ty2 vs lo hi):=by delta oI;kernel_rfl
theorem i4 (n c:Nat) (ty:TypeId) (ks:List B32) (ty2:TypeId) (own:Bool) (vs:List Value) (lo:Nat) (hi:Option Nat) (h k o:Nat):oI (M4 n c own h k o) (m4 l ty ks ty2 vs lo hi):=by delta oI;kernel_rfl
theorem iVZ (n c:Nat) (ty:TypeId) (ks:List B32) (ty2:TypeId) (own:Bool) (vs:List Value) (lo:Nat) (hi:Option Nat) (h k o:Nat):oI (MVZ n c own h k o) (m4 l ty ks ty2 vs lo hi):=by delta oI;kernel_rfl
theorem iVP (n c:Nat) (ty:TypeId) (ks:List B32) (ty2:TypeId) (own:Bool) (vs:List Value) (lo:Nat) (hi:Option Nat) (us:List Value) (u:Nat) (v:Option Nat) (h k o r:Nat):oI (MVP n c own h k o r) (m5 l ty ks ty2 vs lo hi us u v):=by delta oI;kernel_rfl
end
section
variable (H:Nd→Nd→B32) (hH:H=hV) (l:List Nd) (n c:Nat) (ty:TypeId) (ks:List B32) (m mc:Nat) (ty2:TypeId)
theorem z0 (own:Bool):oX (ΓB H hH) 300 body (aK fn [.o (.a (.sld 0 0 0 n c)),.o (.a (.sld 1 0 0 m mc)),.o (.a (.v (.bool own)))]) [⟨false,ty,.prv (ah l)⟩,⟨false,ty2,.prv (aJ ks)⟩] [(16,[.b true])] .ret (MN) (m0 l ty ks ty2) [((n:Int)==0)=true]:=by delta oX;kernel_rfl
theorem s0 (own:Bool) (x:Nd):oX (ΓB H hH) 300 (eD 4 body) (aK fn [.o (.a (.sld 0 0 0 n c)),.o (.a (.sld 1 0 0 m mc)),.o (.a (.v (.bool own)))]) [⟨false,ty,.prv (ah l)⟩,⟨false,ty2,.prv (aJ ks)⟩] [(16,[.b false]),(18,[.s (cNd.enc x)])] .normal (M0 n c m mc own) (m2 l ty ks ty2 x) [((n:Int)==0)=false,0+0+n*65≤(ah l).length,n≤c,((ah l).drop (0+0)).take (n*65)=ah (ak (((ah l).drop (0+0)).take (n*65))),(ak (((ah l).drop (0+0)).take (n*65))).length=n,n<bK,1≤n,bg (ak (((ah l).drop (0+0)).take (n*65))),bC (ak (((ah l).drop (0+0)).take (n*65)))=true,cNd.enc (bD H (ak (((ah l).drop (0+0)).take (n*65))))=cNd.enc x]:=by delta oX;kernel_rfl
theorem a1 (own:Bool) (x:Nd) (g:Nat→SV):oX (ΓB H hH) 300 A1 (fill g 0 (M0 n c m mc own )) (m2 l ty ks ty2 x) [] .normal (MZ n c m mc own 0) (m2 l ty ks ty2 x) []:=by delta oX;kernel_rfl
theorem zno (own:Bool) (x:Nd) (j j':Int) (y:B32) (g:Nat→SV):oN [0,1,2] (ΓB H hH) 100 L (fill g 0 (MZ n c m mc own j)) (m2 l ty ks ty2 x) [(22,[.b true]),(24,[.ds (ay.enc y)]),(27,[.s (aI.enc false)]),(32,[.n j'])] .normal (MZ n c m mc own j') (m2 l ty ks ty2 x) [decide (j<m)=true,0≤j,j<m,0+aN 0 j 32+32≤(aJ ks).length,SV.o (.g (bn (aJ ks) (0+aN 0 j 32) 32))=ay.enc y,BOk x.pre,BOk y,aI.enc (holdsV x y)=aI.enc false,IntKind.i64.wrap (j+1)=j']:=by delta oN;kernel_rfl
theorem zyes (own:Bool) (x:Nd) (j j':Int) (y:B32) (g:Nat→SV):oN [0,1,2,5] (ΓB H hH) 100 L (fill g 0 (MZ n c m mc own j)) (m2 l ty ks ty2 x) [(22,[.b true]),(24,[.ds (ay.enc y)]),(27,[.s (aI.enc true)]),(30,[.dyn]),(32,[.n j'])] .normal (MP n c m mc own j' 1) (m3 l ty ks ty2 x (fu y) 1 none) [decide (j<m)=true,0≤j,j<m,0+aN 0 j 32+32≤(aJ ks).length,SV.o (.g (bn (aJ ks) (0+aN 0 j 32) 32))=ay.enc y,BOk x.pre,BOk y,aI.enc (holdsV x y)=aI.enc true,32=1*32,0+0+1*32≤(fu y).length,0<1,Room Tryd.prog 24 1,IntKind.i64.wrap (j+1)=j']:=by delta oN;kernel_rfl
theorem pno (own:Bool) (x:Nd) (j j':Int) (y:B32) (vs:List Value) (lo:Nat) (hi:Option Nat) (h:Nat) (g:Nat→SV):oN [0,1,2,3] (ΓB H hH) 100 L (fill g 0 (MP n c m mc own j h)) (m3 l ty ks ty2 x vs lo hi) [(22,[.b true]),(24,[.ds (ay.enc y)]),(27,[.s (aI.enc false)]),(32,[.n j'])] .normal (MP n c m mc own j' h) (m3 l ty ks ty2 x vs lo hi) [decide (j<m)=true,0≤j,j<m,0+aN 0 j 32+32≤(aJ ks).length,SV.o (.g (bn (aJ ks) (0+aN 0 j 32) 32))=ay.enc y,BOk x.pre,BOk y,aI.enc (holdsV x y)=aI.enc false,IntKind.i64.wrap (j+1)=j']:=by delta oN;kernel_rfl
theorem pyg (own:Bool) (x:Nd) (j j':Int) (y:B32) (vs:List Value) (h:Nat) (g:Nat→SV):oN [0,1,2,3] (ΓB H hH) 100 L (fill g 0 (MP n c m mc own j h)) (m3 l ty ks ty2 x vs (h+1) none) [(22,[.b true]),(24,[.ds (ay.enc y)]),(27,[.s (aI.enc true)]),(30,[.dyn]),(31,[.dyn]),(32,[.n j'])] .normal (MP n c m mc own j' (h+1)) (m3 l ty ks ty2 x (vs++fu y) (h+1) none) [decide (j<m)=true,0≤j,j<m,0+aN 0 j 32+32≤(aJ ks).length,SV.o (.g (bn (aJ ks) (0+aN 0 j 32) 32))=ay.enc y,BOk x.pre,BOk y,aI.enc (holdsV x y)=aI.enc true,32=1*32,0+0+1*32≤(fu y).length,h*32=vs.length,h+1≤h+1,∀v∈fu y,v.oneCell'=true,IntKind.i64.wrap (j+1)=j']:=by delta oN;kernel_rfl
theorem pyr (own:Bool) (x:Nd) (j j':Int) (y:B32) (vs:List Value) (lo:Nat) (h:Nat) (g:Nat→SV):oN [0,1,2,6] (ΓB H hH) 100 L (fill g 0 (MP n c m mc own j h)) (m3 l ty ks ty2 x vs lo (some (h+1))) [(22,[.b true]),(24,[.ds (ay.enc y)]),(27,[.s (aI.enc true)]),(30,[.dyn]),(31,[.dyn]),(32,[.n j'])] .normal (MP n c m mc own j' (h+1)) (m3 l ty ks ty2 x (vs++fu y) (h+1) none) [decide (j<m)=true,0≤j,j<m,0+aN 0 j 32+32≤(aJ ks).length,SV.o (.g (bn (aJ ks) (0+aN 0 j 32) 32))=ay.enc y,BOk x.pre,BOk y,aI.enc (holdsV x y)=aI.enc true,32=1*32,0+0+1*32≤(fu y).length,h*32=vs.length,h+1≤h+1,Room Tryd.prog 24 (h+1),IntKind.i64.wrap (j+1)=j']:=by delta oN;kernel_rfl
theorem outz (own:Bool) (x:Nd) (j:Int) (g:Nat→SV):oX (ΓB H hH) 300 L (fill g 0 (MZ n c m mc own j)) (m2 l ty ks ty2 x) [(22,[.b false])] (.exit 0) (M0 n c m mc own) (m2 l ty ks ty2 x) [decide (j<m)=false]:=by delta oX;kernel_rfl
theorem outp (own:Bool) (x:Nd) (j:Int) (vs:List Value) (lo:Nat) (hi:Option Nat) (h:Nat) (g:Nat→SV):oX (ΓB H hH) 300 L (fill g 0 (MP n c m mc own j h)) (m3 l ty ks ty2 x vs lo hi) [(22,[.b false])] (.exit 0) (MQ n c m mc own h) (m3 l ty ks ty2 x vs lo hi) [decide (j<m)=false]:=by delta oX;kernel_rfl
theorem r1 (own:Bool) (x:Nd) (g:Nat→SV):oN [0,1,3] (ΓB H hH) 100 B2 (fill g 0 (M0 n c m mc own )) (m2 l ty ks ty2 x) [(44,[.dyn])] .ret (MR 1) (mr l ty ks ty2 x.vals 1) [65=1*65]:=by delta oN;kernel_rfl
theorem r2 (x:Nd) (vs:List Value) (lo:Nat) (hi:Option Nat) (h:Nat) (g:Nat→SV):oN [0,1,4] (ΓB H hH) 100 B2 (fill g 0 (MQ n c m mc true h)) (m3 l ty ks ty2 x vs lo hi) [(36,[.b false]),(39,[.b true]),(44,[.dyn])] .ret (MR 1) (mr l ty ks ty2 x.vals 1) [((h:Int)==0)=false,((n:Int)==1)=true,65=1*65]:=by delta oN;kernel_rfl
theorem r3 (x:Nd) (vs:List Value) (lo:Nat) (hi:Option Nat) (h:Nat) (g:Nat→SV):oN [0,1] (ΓB H hH) 100 B2 (fill g 0 (MQ n c m mc false h)) (m3 l ty ks ty2 x vs lo hi) [(36,[.b false]),(39,[.b true]),(48,[.b true])] .ret (MN) (m0 l ty ks ty2) [((h:Int)==0)=false,((n:Int)==1)=true,((n:Int)==1)=true]:=by delta oN;kernel_rfl
theorem r4 (own:Bool) (x:Nd) (vs:List Value) (lo:Nat) (hi:Option Nat) (h:Nat) (g:Nat→SV):oN [0,1,3] (ΓB H hH) 100 B2 (fill g 0 (MQ n c m mc own h)) (m3 l ty ks ty2 x vs lo hi) [(36,[.b false]),(39,[.b false]),(48,[.b false])] .normal (M3 n c own h) (m4 l ty ks ty2 vs lo hi) [((h:Int)==0)=false,((n:Int)==1)=false,((n:Int)==1)=false]:=by delta oN;kernel_rfl
end
section
variable (H:Nd→Nd→B32)
theorem sp (hH:H=hV) (l:List Nd) (n c:Nat) (ty:TypeId) (ks:List B32) (ty2:TypeId) (own:Bool) (vs:List Value) (lo:Nat) (hi:Option Nat) (h k o:Nat) (z:Int) (g:Nat→SV):oX (ΓB H hH) 300 R16 (fill g 0 (M3 n c own h)) (m4 l ty ks ty2 vs lo hi) [(51,[.s (.t [.a (.sld 0 0 0 k c),.a (.sld 0 0 o (n-k) (c-k)),.a (aG .i64 z)])])] .normal (M4 n c own h k o) (m4 l ty ks ty2 vs lo hi) [0+0+n*65≤(ah l).length,n≤c,((ah l).drop (0+0)).take (n*65)=ah (ak (((ah l).drop (0+0)).take (n*65))),(ak (((ah l).drop (0+0)).take (n*65))).length=n,n<bK,2≤n,bg (ak (((ah l).drop (0+0)).take (n*65))),bC (ak (((ah l).drop (0+0)).take (n*65)))=true,SV.t [.a (.sld 0 0 0 (aR (ak (((ah l).drop (0+0)).take (n*65))) (aM (ak (((ah l).drop (0+0)).take (n*65))))) c),.a (.sld 0 0 (0+(0+(aR (ak (((ah l).drop (0+0)).take (n*65))) (aM (ak (((ah l).drop (0+0)).take (n*65)))))*65)) (n-(aR (ak (((ah l).drop (0+0)).take (n*65))) (aM (ak (((ah l).drop (0+0)).take (n*65)))))) (c-(aR (ak (((ah l).drop (0+0)).take (n*65))) (aM (ak (((ah l).drop (0+0)).take (n*65))))))),.a (aG .i64 (aM (ak (((ah l).drop (0+0)).take (n*65))):Nat))]=SV.t [.a (.sld 0 0 0 k c),.a (.sld 0 0 o (n-k) (c-k)),.a (aG .i64 z)]]:=by delta oX;kernel_rfl
theorem c1P (l:List Nd) (n c:Nat) (ty:TypeId) (ks:List B32) (ty2:TypeId) (own:Bool) (N:Nat) (ih:IH H N) (vs:List Value) (lo:Nat) (h k o:Nat) (g:Nat→SV):oT (ΓP H N ih) R17 0 4 (fill g 0 (M4 n c own h k o)) (m4 l ty ks ty2 vs lo none) [] (MVP n c own h k o (cK H own (ak (((ah l).drop (0+0)).take (k*65))) (aO ((vs.drop (0+0)).take (h*32)))).length) (m5 l ty ks ty2 vs lo none (ah (cK H own (ak (((ah l).drop (0+0)).take (k*65))) (aO ((vs.drop (0+0)).take (h*32))))) (cK H own (ak (((ah l).drop (0+0)).take (k*65))) (aO ((vs.drop (0+0)).take (h*32)))).length none) [0+0+k*65≤(ah l).length,k≤c,0+0+h*32≤vs.length,h≤lo,((ah l).drop (0+0)).take (k*65)=ah (ak (((ah l).drop (0+0)).take (k*65))),(ak (((ah l).drop (0+0)).take (k*65))).length=k,k<N,bg (ak (((ah l).drop (0+0)).take (k*65))),bC (ak (((ah l).drop (0+0)).take (k*65)))=true,(vs.drop (0+0)).take (h*32)=aJ (aO ((vs.drop (0+0)).take (h*32))),(aO ((vs.drop (0+0)).take (h*32))).length=h,h≤4000000,gq (aO ((vs.drop (0+0)).take (h*32))),(cK H own (ak (((ah l).drop (0+0)).take (k*65))) (aO ((vs.drop (0+0)).take (h*32))))≠[]]:=by delta oT;kernel_rfl
theorem c1Z (l:List Nd) (n c:Nat) (ty:TypeId) (ks:List B32) (ty2:TypeId) (own:Bool) (N:Nat) (ih:IH H N) (vs:List Value) (lo:Nat) (h k o:Nat) (g:Nat→SV):oT (ΓZ H N ih) R17 0 4 (fill g 0 (M4 n c own h k o)) (m4 l ty ks ty2 vs lo none) [] (MVZ n c own h k o) (m4 l ty ks ty2 vs lo none) [0+0+k*65≤(ah l).length,k≤c,0+0+h*32≤vs.length,h≤lo,((ah l).drop (0+0)).take (k*65)=ah (ak (((ah l).drop (0+0)).take (k*65))),(ak (((ah l).drop (0+0)).take (k*65))).length=k,k<N,bg (ak (((ah l).drop (0+0)).take (k*65))),bC (ak (((ah l).drop (0+0)).take (k*65)))=true,(vs.drop (0+0)).take (h*32)=aJ (aO ((vs.drop (0+0)).take (h*32))),(aO ((vs.drop (0+0)).take (h*32))).length=h,h≤4000000,gq (aO ((vs.drop (0+0)).take (h*32))),(cK H own (ak (((ah l).drop (0+0)).take (k*65))) (aO ((vs.drop (0+0)).take (h*32))))=[]]:=by delta oT;kernel_rfl
theorem cPg (l:List Nd) (n c:Nat) (ty:TypeId) (ks:List B32) (ty2:TypeId) (own:Bool) (N:Nat) (ih:IH H N) (vs:List Value) (lo:Nat) (h k o:Nat) (us:List Value) (u:Nat) (g:Nat→SV):oU [0,1,3] (ΓP H N ih) R17 4 6 (fill g 0 (MVP n c own h k o u)) (m5 l ty ks ty2 vs lo none us (u+(cK H own (ak (((ah l).drop (0+o)).take ((n-k)*65))) (aO ((vs.drop (0+0)).take (h*32)))).length) none) [(63,[.dyn])] (MR (u+(cK H own (ak (((ah l).drop (0+o)).take ((n-k)*65))) (aO ((vs.drop (0+0)).take (h*32)))).length)) (mr l ty ks ty2 (us++((ah (cK H own (ak (((ah l).drop (0+o)).take ((n-k)*65))) (aO ((vs.drop (0+0)).take (h*32))))).drop (0+0)).take ((cK H own (ak (((ah l).drop (0+o)).take ((n-k)*65))) (aO ((vs.drop (0+0)).take (h*32)))).length*65)) (u+(cK H own (ak (((ah l).drop (0+o)).take ((n-k)*65))) (aO ((vs.drop (0+0)).take (h*32)))).length)) [0+o+(n-k)*65≤(ah l).length,(n-k)≤(c-k),0+0+h*32≤vs.length,h≤lo,((ah l).drop (0+o)).take ((n-k)*65)=ah (ak (((ah l).drop (0+o)).take ((n-k)*65))),(ak (((ah l).drop (0+o)).take ((n-k)*65))).length=(n-k),(n-k)<N,bg (ak (((ah l).drop (0+o)).take ((n-k)*65))),bC (ak (((ah l).drop (0+o)).take ((n-k)*65)))=true,(vs.drop (0+0)).take (h*32)=aJ (aO ((vs.drop (0+0)).take (h*32))),(aO ((vs.drop (0+0)).take (h*32))).length=h,h≤4000000,gq (aO ((vs.drop (0+0)).take (h*32))),(cK H own (ak (((ah l).drop (0+o)).take ((n-k)*65))) (aO ((vs.drop (0+0)).take (h*32))))≠[],0+0+(cK H own (ak (((ah l).drop (0+o)).take ((n-k)*65))) (aO ((vs.drop (0+0)).take (h*32)))).length*65≤(ah (cK H own (ak (((ah l).drop (0+o)).take ((n-k)*65))) (aO ((vs.drop (0+0)).take (h*32))))).length,u*65=us.length,u+(cK H own (ak (((ah l).drop (0+o)).take ((n-k)*65))) (aO ((vs.drop (0+0)).take (h*32)))).length≤u+(cK H own (ak (((ah l).drop (0+o)).take ((n-k)*65))) (aO ((vs.drop (0+0)).take (h*32)))).length,∀v∈((ah (cK H own (ak (((ah l).drop (0+o)).take ((n-k)*65))) (aO ((vs.drop (0+0)).take (h*32))))).drop (0+0)).take ((cK H own (ak (((ah l).drop (0+o)).take ((n-k)*65))) (aO ((vs.drop (0+0)).take (h*32)))).length*65),v.oneCell'=true]:=by delta oU;kernel_rfl
theorem cPr (l:List Nd) (n c:Nat) (ty:TypeId) (ks:List B32) (ty2:TypeId) (own:Bool) (N:Nat) (ih:IH H N) (vs:List Value) (lo:Nat) (h k o:Nat) (us:List Value) (u ul:Nat) (g:Nat→SV):oU [0,1,5] (ΓP H N ih) R17 4 6 (fill g 0 (MVP n c own h k o u)) (m5 l ty ks ty2 vs lo none us ul (some (u+(cK H own (ak (((ah l).drop (0+o)).take ((n-k)*65))) (aO ((vs.drop (0+0)).take (h*32)))).length))) [(63,[.dyn])] (MR (u+(cK H own (ak (((ah l).drop (0+o)).take ((n-k)*65))) (aO ((vs.drop (0+0)).take (h*32)))).length)) (mr l ty ks ty2 (us++((ah (cK H own (ak (((ah l).drop (0+o)).take ((n-k)*65))) (aO ((vs.drop (0+0)).take (h*32))))).drop (0+0)).take ((cK H own (ak (((ah l).drop (0+o)).take ((n-k)*65))) (aO ((vs.drop (0+0)).take (h*32)))).length*65)) (u+(cK H own (ak (((ah l).drop (0+o)).take ((n-k)*65))) (aO ((vs.drop (0+0)).take (h*32)))).length)) [0+o+(n-k)*65≤(ah l).length,(n-k)≤(c-k),0+0+h*32≤vs.length,h≤lo,((ah l).drop (0+o)).take ((n-k)*65)=ah (ak (((ah l).drop (0+o)).take ((n-k)*65))),(ak (((ah l).drop (0+o)).take ((n-k)*65))).length=(n-k),(n-k)<N,bg (ak (((ah l).drop (0+o)).take ((n-k)*65))),bC (ak (((ah l).drop (0+o)).take ((n-k)*65)))=true,(vs.drop (0+0)).take (h*32)=aJ (aO ((vs.drop (0+0)).take (h*32))),(aO ((vs.drop (0+0)).take (h*32))).length=h,h≤4000000,gq (aO ((vs.drop (0+0)).take (h*32))),(cK H own (ak (((ah l).drop (0+o)).take ((n-k)*65))) (aO ((vs.drop (0+0)).take (h*32))))≠[],0+0+(cK H own (ak (((ah l).drop (0+o)).take ((n-k)*65))) (aO ((vs.drop (0+0)).take (h*32)))).length*65≤(ah (cK H own (ak (((ah l).drop (0+o)).take ((n-k)*65))) (aO ((vs.drop (0+0)).take (h*32))))).length,u*65=us.length,u+(cK H own (ak (((ah l).drop (0+o)).take ((n-k)*65))) (aO ((vs.drop (0+0)).take (h*32)))).length≤u+(cK H own (ak (((ah l).drop (0+o)).take ((n-k)*65))) (aO ((vs.drop (0+0)).take (h*32)))).length,Room Tryd.prog 33 (u+(cK H own (ak (((ah l).drop (0+o)).take ((n-k)*65))) (aO ((vs.drop (0+0)).take (h*32)))).length)]:=by delta oU;kernel_rfl
theorem cZP (l:List Nd) (n c:Nat) (ty:TypeId) (ks:List B32) (ty2:TypeId) (own:Bool) (N:Nat) (ih:IH H N) (vs:List Value) (lo:Nat) (h k o:Nat) (g:Nat→SV):oU [0,1,4] (ΓP H N ih) R17 4 6 (fill g 0 (MVZ n c own h k o)) (m4 l ty ks ty2 vs lo none) [] (MR (cK H own (ak (((ah l).drop (0+o)).take ((n-k)*65))) (aO ((vs.drop (0+0)).take (h*32)))).length) (mr l ty ks ty2 (((ah (cK H own (ak (((ah l).drop (0+o)).take ((n-k)*65))) (aO ((vs.drop (0+0)).take (h*32))))).drop (0+0)).take ((cK H own (ak (((ah l).drop (0+o)).take ((n-k)*65))) (aO ((vs.drop (0+0)).take (h*32)))).length*65)) (cK H own (ak (((ah l).drop (0+o)).take ((n-k)*65))) (aO ((vs.drop (0+0)).take (h*32)))).length) [0+o+(n-k)*65≤(ah l).length,(n-k)≤(c-k),0+0+h*32≤vs.length,h≤lo,((ah l).drop (0+o)).take ((n-k)*65)=ah (ak (((ah l).drop (0+o)).take ((n-k)*65))),(ak (((ah l).drop (0+o)).take ((n-k)*65))).length=(n-k),(n-k)<N,bg (ak (((ah l).drop (0+o)).take ((n-k)*65))),bC (ak (((ah l).drop (0+o)).take ((n-k)*65)))=true,(vs.drop (0+0)).take (h*32)=aJ (aO ((vs.drop (0+0)).take (h*32))),(aO ((vs.drop (0+0)).take (h*32))).length=h,h≤4000000,gq (aO ((vs.drop (0+0)).take (h*32))),(cK H own (ak (((ah l).drop (0+o)).take ((n-k)*65))) (aO ((vs.drop (0+0)).take (h*32))))≠[],0+0+(cK H own (ak (((ah l).drop (0+o)).take ((n-k)*65))) (aO ((vs.drop (0+0)).take (h*32)))).length*65≤(ah (cK H own (ak (((ah l).drop (0+o)).take ((n-k)*65))) (aO ((vs.drop (0+0)).take (h*32))))).length,0<(cK H own (ak (((ah l).drop (0+o)).take ((n-k)*65))) (aO ((vs.drop (0+0)).take (h*32)))).length,Room Tryd.prog 33 (cK H own (ak (((ah l).drop (0+o)).take ((n-k)*65))) (aO ((vs.drop (0+0)).take (h*32)))).length]:=by delta oU;kernel_rfl
theorem cPZ (l:List Nd) (n c:Nat) (ty:TypeId) (ks:List B32) (ty2:TypeId) (own:Bool) (N:Nat) (ih:IH H N) (vs:List Value) (lo:Nat) (h k o:Nat) (us:List Value) (u:Nat) (g:Nat→SV):oU [0,1,3] (ΓZ H N ih) R17 4 6 (fill g 0 (MVP n c own h k o u)) (m5 l ty ks ty2 vs lo none us u none) [(63,[.dyn])] (MR (u+0)) (mr l ty ks ty2 (us++[]) u) [0+o+(n-k)*65≤(ah l).length,(n-k)≤(c-k),0+0+h*32≤vs.length,h≤lo,((ah l).drop (0+o)).take ((n-k)*65)=ah (ak (((ah l).drop (0+o)).take ((n-k)*65))),(ak (((ah l).drop (0+o)).take ((n-k)*65))).length=(n-k),(n-k)<N,bg (ak (((ah l).drop (0+o)).take ((n-k)*65))),bC (ak (((ah l).drop (0+o)).take ((n-k)*65)))=true,(vs.drop (0+0)).take (h*32)=aJ (aO ((vs.drop (0+0)).take (h*32))),(aO ((vs.drop (0+0)).take (h*32))).length=h,h≤4000000,gq (aO ((vs.drop (0+0)).take (h*32))),(cK H own (ak (((ah l).drop (0+o)).take ((n-k)*65))) (aO ((vs.drop (0+0)).take (h*32))))=[],u*65=us.length,u+0≤u,∀v∈([]:List Value),v.oneCell'=true]:=by delta oU;kernel_rfl
theorem cZZ (l:List Nd) (n c:Nat) (ty:TypeId) (ks:List B32) (ty2:TypeId) (own:Bool) (N:Nat) (ih:IH H N) (vs:List Value) (lo:Nat) (h k o:Nat) (g:Nat→SV):oU [0,1] (ΓZ H N ih) R17 4 6 (fill g 0 (MVZ n c own h k o)) (m4 l ty ks ty2 vs lo none) [(63,[.dyn])] (MN) (m0 l ty ks ty2) [0+o+(n-k)*65≤(ah l).length,(n-k)≤(c-k),0+0+h*32≤vs.length,h≤lo,((ah l).drop (0+o)).take ((n-k)*65)=ah (ak (((ah l).drop (0+o)).take ((n-k)*65))),(ak (((ah l).drop (0+o)).take ((n-k)*65))).length=(n-k),(n-k)<N,bg (ak (((ah l).drop (0+o)).take ((n-k)*65))),bC (ak (((ah l).drop (0+o)).take ((n-k)*65)))=true,(vs.drop (0+0)).take (h*32)=aJ (aO ((vs.drop (0+0)).take (h*32))),(aO ((vs.drop (0+0)).take (h*32))).length=h,h≤4000000,gq (aO ((vs.drop (0+0)).take (h*32))),(cK H own (ak (((ah l).drop (0+o)).take ((n-k)*65))) (aO ((vs.drop (0+0)).take (h*32))))=[],0=0]:=by delta oU;kernel_rfl
theorem en (hH:H=hV) (l:List Nd) (ty:TypeId) (ks:List B32) (ty2:TypeId) (g:Nat→SV):oX (ΓB H hH) 300 Z (fill g 0 (MN )) (m0 l ty ks ty2) [] .ret (MN) (m0 l ty ks ty2) []:=by delta oX;kernel_rfl
theorem er (hH:H=hV) (l:List Nd) (ty:TypeId) (ks:List B32) (ty2:TypeId) (us:List Value) (u r:Nat) (g:Nat→SV):oX (ΓB H hH) 300 Z (fill g 0 (MR r)) (mr l ty ks ty2 us u) [] .ret (MR r) (mr l ty ks ty2 us u) []:=by delta oX;kernel_rfl
end
theorem zn (l:List Nd) (ty:TypeId) (ks:List B32) (ty2:TypeId) (g:Nat→SV):eRes tys (fill g 0 (MN )) (fun k=>(m0 l ty ks ty2 )[k]?) fn.results.toList=some [.a (.v (.slice none 0 0))]:=by kernel_rfl
theorem zr (l:List Nd) (ty:TypeId) (ks:List B32) (ty2:TypeId) (us:List Value) (u r:Nat) (g:Nat→SV):eRes tys (fill g 0 (MR r)) (fun k=>(mr l ty ks ty2 us u)[k]?) fn.results.toList=some [.a (.slg 2 r)]:=by kernel_rfl
theorem nil1:((opsOf R17).toList.drop 4).drop 6=[]:=by kernel_rfl
end tar
namespace rwi
noncomputable abbrev fn:=Tryd.f68
noncomputable def body:Code:=d9 fn
noncomputable def S4:Code:=bM 4 body
noncomputable def A1:Code:=cs1 (cs1 S4)
noncomputable def L:Code:=cL (cB (cs2 (cs1 S4)))
noncomputable def C10:Code:=cs1 (cs2 S4)
noncomputable def C12:Code:=cs1 (cs2 (cs2 S4))
noncomputable def R14:Code:=cs1 (cs2 (cs2 (cs2 S4)))
noncomputable def R15:Code:=cs1 (cs2 (cs2 (cs2 (cs2 S4))))
noncomputable def Z:Code:=cs2 (cs2 (cs2 (cs2 (cs2 S4))))
noncomputable def i15:Nat:=match R15 with | .region i _ _=>i | _=>0
noncomputable def Qa (n:Nat) (r:List Nd) (v:SV) (m:List Blk):Prop:=(r=[]∧n≤1∧bJ (.o (.a (.v (.slice none 0 0)))) .none v m)∨(r=[]∧2≤n∧bJ (.o (.a (.slc 0 0 0 0))) (.new 33 (.lit [])) v m)∨(r≠[]∧bJ (.o (.a (.slg 0 r.length))) (.new 33 (.grv 65 (ah r) r.length none)) v m)
def IH (H:Nd→Nd→B32) (N:Nat):Prop:=∀(l:List Nd) (n c:Nat) (ty:TypeId) (ks:List B32) (m mc:Nat) (ty2:TypeId) (own:Bool),l.length=n→n<N→n≤c→bg l→bC l=true→ks.length=m→m≤4000000→m≤mc→gq ks→
 aF Tryd.prog GT 2 body (aK fn [.o (.a (.sld 0 0 0 n c)),.o (.a (.sld 1 0 0 m mc)),.o (.a (.v (.bool own)))]) [⟨false,ty,.prv (ah l)⟩,⟨false,ty2,.prv (aJ ks)⟩] (aH tys fn (fun r mm=>Qa n (bT H own l ks) r mm))
theorem dJ:bM 4 body= .seq (.seq A1 (.block 0 (.loop L))) (.seq C10 (.seq C12 (.seq R14 (.seq (.region i15 (opsOf R15) false) Z)))):=by kernel_rfl
def iW (H:Nd→Nd→B32) (N:Nat):List aU→Option (SV × dH × Cst)
 | [.winv _ vs n ty,.winv _ ws m ty2,.val (.o (.a (.v (.bool own))))]=>some (.o (.a (.slg 0 (bT H own (ak vs) (aO ws)).length)),.new 33 (.grv 65 (ah (bT H own (ak vs) (aO ws))) (bT H own (ak vs) (aO ws)).length none),[vs=ah (ak vs),(ak vs).length=n,n<N,bg (ak vs),bC (ak vs)=true,ws=aJ (aO ws),(aO ws).length=m,m≤4000000,gq (aO ws),(bT H own (ak vs) (aO ws))≠[]])
 | _=>none
def specY (H:Nd→Nd→B32) (N:Nat):List aU→Option (SV × dH × Cst)
 | [.winv _ vs n ty,.winv _ ws m ty2,.val (.o (.a (.v (.bool own))))]=>some (.o (.a (.v (.slice none 0 0))),.none,[vs=ah (ak vs),(ak vs).length=n,n<N,bg (ak vs),bC (ak vs)=true,ws=aJ (aO ws),(aO ws).length=m,m≤4000000,gq (aO ws),(bT H own (ak vs) (aO ws))=[],n≤1])
 | _=>none
def jX (H:Nd→Nd→B32) (N:Nat):List aU→Option (SV × dH × Cst)
 | [.winv _ vs n ty,.winv _ ws m ty2,.val (.o (.a (.v (.bool own))))]=>some (.o (.a (.slc 0 0 0 0)),.new 33 (.lit []),[vs=ah (ak vs),(ak vs).length=n,n<N,bg (ak vs),bC (ak vs)=true,ws=aJ (aO ws),(aO ws).length=m,m≤4000000,gq (aO ws),(bT H own (ak vs) (aO ws))=[],2≤n])
 | _=>none
section
variable (H:Nd→Nd→B32)
noncomputable def conP (N:Nat) (ih:IH H N):Con Tryd.prog GT:=Con.parts aj 68 fn Tryd.func68 (by kernel_rfl) (c:=body) (by kernel_rfl) [.winv 65,.winv 32,.val] (iW H N)
 (fun ps r e p h hp=>by
  unfold iW at h
  split at h<;>cases h
  exact⟨rfl,fun b hb=>by simp only[bf,aU.blk,List.append_nil,List.nil_append,List.cons_append,List.mem_cons,List.not_mem_nil,or_false] at hb;rcases hb with rfl | rfl<;>rfl⟩)
 (fun ps r e p cap h hp hi=>by
  unfold iW at h
  split at h<;>cases h
  rename_i s1 vs n ty s2 ws m ty2 own
  obtain⟨p1,p2,p3,p4,p5,p6,p7,p8,p9,p10,_⟩:=hp
  obtain⟨⟨_,hc1⟩,⟨_,hc2⟩,_⟩:=hi
  have q:=ih (ak vs) n (cap 0) ty (aO ws) m (cap 1) ty2 own p2 p3 hc1 p4 p5 p7 p8 hc2 p9
  rw[←p1,←p6] at q
  refine Runs.mono q fun e t m=>jJ fun r m h=> ?_
  rcases h with⟨h',_⟩ | ⟨h',_⟩ | ⟨_,h⟩
  ·exact absurd h' p10
  ·exact absurd h' p10
  ·exact h)
noncomputable def conY (N:Nat) (ih:IH H N):Con Tryd.prog GT:=Con.parts aj 68 fn Tryd.func68 (by kernel_rfl) (c:=body) (by kernel_rfl) [.winv 65,.winv 32,.val] (specY H N)
 (fun ps r e p h hp=>by
  unfold specY at h
  split at h<;>cases h
  exact⟨rfl,fun b hb=>by simp only[bf,aU.blk,List.append_nil,List.nil_append,List.cons_append,List.mem_cons,List.not_mem_nil,or_false] at hb;rcases hb with rfl | rfl<;>rfl⟩)
 (fun ps r e p cap h hp hi=>by
  unfold specY at h
  split at h<;>cases h
  rename_i s1 vs n ty s2 ws m ty2 own
  obtain⟨p1,p2,p3,p4,p5,p6,p7,p8,p9,p10,p11,_⟩:=hp
  obtain⟨⟨_,hc1⟩,⟨_,hc2⟩,_⟩:=hi
  have q:=ih (ak vs) n (cap 0) ty (aO ws) m (cap 1) ty2 own p2 p3 hc1 p4 p5 p7 p8 hc2 p9
  rw[←p1,←p6] at q
  refine Runs.mono q fun e t m=>jJ fun r m h=> ?_
  rcases h with⟨_,_,h⟩ | ⟨_,h',_⟩ | ⟨h',_⟩
  ·exact h
  ·exact absurd p11 (by omega)
  ·exact absurd p10 h')
noncomputable def conZ (N:Nat) (ih:IH H N):Con Tryd.prog GT:=Con.parts aj 68 fn Tryd.func68 (by kernel_rfl) (c:=body) (by kernel_rfl) [.winv 65,.winv 32,.val] (jX H N)
 (fun ps r e p h hp=>by
  unfold jX at h
  split at h<;>cases h
  exact⟨rfl,fun b hb=>by simp only[bf,aU.blk,List.append_nil,List.nil_append,List.cons_append,List.mem_cons,List.not_mem_nil,or_false] at hb;rcases hb with rfl | rfl<;>rfl⟩)
 (fun ps r e p cap h hp hi=>by
  unfold jX at h
  split at h<;>cases h
  rename_i s1 vs n ty s2 ws m ty2 own
  obtain⟨p1,p2,p3,p4,p5,p6,p7,p8,p9,p10,p11,_⟩:=hp
  obtain⟨⟨_,hc1⟩,⟨_,hc2⟩,_⟩:=hi
  have q:=ih (ak vs) n (cap 0) ty (aO ws) m (cap 1) ty2 own p2 p3 hc1 p4 p5 p7 p8 hc2 p9
  rw[←p1,←p6] at q
  refine Runs.mono q fun e t m=>jJ fun r m h=> ?_
  rcases h with⟨_,h',_⟩ | ⟨_,_,h⟩ | ⟨h',_⟩
  ·exact absurd p11 (by omega)
  ·exact h
  ·exact absurd p10 h')
noncomputable def ΓB (hH:H=hV):Cons Tryd.prog GT:=[hlv.con,rov.conF H hH,rholds.con]
noncomputable def ΓP (N:Nat) (ih:IH H N):Cons Tryd.prog GT:=[conP H N ih]
noncomputable def ΓY (N:Nat) (ih:IH H N):Cons Tryd.prog GT:=[conY H N ih]
noncomputable def ΓZ (N:Nat) (ih:IH H N):Cons Tryd.prog GT:=[conZ H N ih]
end
section
variable (l:List Nd) (ty:TypeId) (ks:List B32) (ty2:TypeId)
def m0:List Blk:=[⟨false,ty,.prv (ah l)⟩,⟨false,ty2,.prv (aJ ks)⟩]
def m2 (x:Nd):List Blk:=[⟨false,ty,.prv (ah l)⟩,⟨false,ty2,.prv (aJ ks)⟩,⟨true,33,.lit (Nd.row x)⟩]
def me:List Blk:=[⟨false,ty,.prv (ah l)⟩,⟨false,ty2,.prv (aJ ks)⟩,⟨true,33,.lit []⟩]
def m5 (us:List Value) (u:Nat) (v:Option Nat):List Blk:=[⟨false,ty,.prv (ah l)⟩,⟨false,ty2,.prv (aJ ks)⟩,⟨true,33,.grv 65 us u v⟩]
def mr (us:List Value) (u:Nat):List Blk:=[⟨false,ty,.prv (ah l)⟩,⟨false,ty2,.prv (aJ ks)⟩,⟨true,33,.grv 65 us u none⟩]
end
def MN:List (Option SV):=aD 65 0 [(6,.o (.a (.v (.slice none 0 0))))]
def MR (r:Nat):List (Option SV):=aD 65 0 [(6,.o (.a (.slg 2 r)))]
def ME:List (Option SV):=aD 65 0 [(6,.o (.a (.slc 2 0 0 0)))]
section
variable (n c:Nat) (m mc:Nat) (own:Bool)
def M0 (t:Bool):List (Option SV):=aD 65 0 [(0,.o (.a (.sld 0 0 0 n c))),(1,.o (.a (.sld 1 0 0 m mc))),(2,.o (.a (.v (.bool own)))),(7,.o (.a (.ptr 2 0))),(8,.o (.a (.v (.bool t))))]
def M1 (t:Bool) (j:Int):List (Option SV):=aD 65 0 [(0,.o (.a (.sld 0 0 0 n c))),(1,.o (.a (.sld 1 0 0 m mc))),(2,.o (.a (.v (.bool own)))),(7,.o (.a (.ptr 2 0))),(8,.o (.a (.v (.bool t)))),(18,.o (.a (aG .i64 m))),(19,.o (.a (aG .i64 j)))]
def M4 (k o:Nat):List (Option SV):=aD 65 0 [(1,.o (.a (.sld 1 0 0 m mc))),(2,.o (.a (.v (.bool own)))),(10,.o (.a (.sld 0 0 0 k c))),(11,.o (.a (.sld 0 0 o (n-k) (c-k))))]
def MVE (k o:Nat):List (Option SV):=aD 65 0 [(1,.o (.a (.sld 1 0 0 m mc))),(2,.o (.a (.v (.bool own)))),(11,.o (.a (.sld 0 0 o (n-k) (c-k)))),(59,.o (.a (.slc 2 0 0 0)))]
def MVP (k o u:Nat):List (Option SV):=aD 65 0 [(1,.o (.a (.sld 1 0 0 m mc))),(2,.o (.a (.v (.bool own)))),(11,.o (.a (.sld 0 0 o (n-k) (c-k)))),(59,.o (.a (.slg 2 u)))]
end
section
variable (l:List Nd) (ty:TypeId) (ks:List B32) (ty2:TypeId)
theorem iN:oI (MN) (m0 l ty ks ty2):=by delta oI;kernel_rfl
theorem iR (us:List Value) (u r:Nat):oI (MR r) (mr l ty ks ty2 us u):=by delta oI;kernel_rfl
theorem iE:oI (ME) (me l ty ks ty2):=by delta oI;kernel_rfl
end
section
variable (l:List Nd) (n c:Nat) (ty:TypeId) (ks:List B32) (m mc:Nat) (ty2:TypeId) (own:Bool)
theorem i0 (x:Nd) (t:Bool):oI (M0 n c m mc own t) (m2 l ty ks ty2 x):=by delta oI;kernel_rfl
theorem i1 (x:Nd) (t:Bool) (j:Int):oI (M1 n c m mc own t j) (m2 l ty ks ty2 x):=by delta oI;kernel_rfl
theorem i4 (k o:Nat):oI (M4 n c m mc own k o) (m0 l ty ks ty2):=by delta oI;kernel_rfl
theorem iVE (k o:Nat):oI (MVE n c m mc own k o) (me l ty ks ty2):=by delta oI;kernel_rfl
theorem iVP (us:List Value) (u:Nat) (v:Option Nat) (k o r:Nat):oI (MVP n c m mc own k o r) (m5 l ty ks ty2 us u v):=by delta oI;kernel_rfl
end
section
variable (H:Nd→Nd→B32) (hH:H=hV) (l:List Nd) (n c:Nat) (ty:TypeId) (ks:List B32) (m mc:Nat) (ty2:TypeId)
theorem z0 (own:Bool):oX (ΓB H hH) 300 body (aK fn [.o (.a (.sld 0 0 0 n c)),.o (.a (.sld 1 0 0 m mc)),.o (.a (.v (.bool own)))]) [⟨false,ty,.prv (ah l)⟩,⟨false,ty2,.prv (aJ ks)⟩] [(14,[.b true])] .ret (MN) (m0 l ty ks ty2) [((n:Int)==0)=true]:=by delta oX;kernel_rfl
theorem s0 (own:Bool) (x:Nd):oX (ΓB H hH) 300 (eD 4 body) (aK fn [.o (.a (.sld 0 0 0 n c)),.o (.a (.sld 1 0 0 m mc)),.o (.a (.v (.bool own)))]) [⟨false,ty,.prv (ah l)⟩,⟨false,ty2,.prv (aJ ks)⟩] [(14,[.b false]),(16,[.s (cNd.enc x)])] .normal (M0 n c m mc own false) (m2 l ty ks ty2 x) [((n:Int)==0)=false,0+0+n*65≤(ah l).length,n≤c,((ah l).drop (0+0)).take (n*65)=ah (ak (((ah l).drop (0+0)).take (n*65))),(ak (((ah l).drop (0+0)).take (n*65))).length=n,n<bK,1≤n,bg (ak (((ah l).drop (0+0)).take (n*65))),bC (ak (((ah l).drop (0+0)).take (n*65)))=true,cNd.enc (bD H (ak (((ah l).drop (0+0)).take (n*65))))=cNd.enc x]:=by delta oX;kernel_rfl
theorem a1 (own:Bool) (x:Nd) (g:Nat→SV):oX (ΓB H hH) 300 A1 (fill g 0 (M0 n c m mc own false)) (m2 l ty ks ty2 x) [] .normal (M1 n c m mc own false 0) (m2 l ty ks ty2 x) []:=by delta oX;kernel_rfl
theorem fno (own:Bool) (x:Nd) (j j':Int) (y:B32) (g:Nat→SV):oX (ΓB H hH) 300 L (fill g 0 (M1 n c m mc own false j)) (m2 l ty ks ty2 x) [(20,[.b true]),(28,[.ds (ay.enc y)]),(29,[.s (aI.enc false)]),(31,[.n j'])] .normal (M1 n c m mc own false j') (m2 l ty ks ty2 x) [decide (j<m)=true,0≤j,j<m,0+aN 0 j 32+32≤(aJ ks).length,SV.o (.g (bn (aJ ks) (0+aN 0 j 32) 32))=ay.enc y,BOk x.pre,BOk y,aI.enc (holdsV x y)=aI.enc false,IntKind.i64.wrap (j+1)=j']:=by delta oX;kernel_rfl
theorem fyes (own:Bool) (x:Nd) (j j':Int) (y:B32) (g:Nat→SV):oX (ΓB H hH) 300 L (fill g 0 (M1 n c m mc own false j)) (m2 l ty ks ty2 x) [(20,[.b true]),(28,[.ds (ay.enc y)]),(29,[.s (aI.enc true)]),(31,[.n j'])] .normal (M1 n c m mc own true j') (m2 l ty ks ty2 x) [decide (j<m)=true,0≤j,j<m,0+aN 0 j 32+32≤(aJ ks).length,SV.o (.g (bn (aJ ks) (0+aN 0 j 32) 32))=ay.enc y,BOk x.pre,BOk y,aI.enc (holdsV x y)=aI.enc true,IntKind.i64.wrap (j+1)=j']:=by delta oX;kernel_rfl
theorem tst (own:Bool) (x:Nd) (j j':Int) (g:Nat→SV):oX (ΓB H hH) 300 L (fill g 0 (M1 n c m mc own true j)) (m2 l ty ks ty2 x) [(20,[.b true]),(31,[.n j'])] .normal (M1 n c m mc own true j') (m2 l ty ks ty2 x) [decide (j<m)=true,IntKind.i64.wrap (j+1)=j']:=by delta oX;kernel_rfl
theorem out (own:Bool) (x:Nd) (t:Bool) (j:Int) (g:Nat→SV):oX (ΓB H hH) 300 L (fill g 0 (M1 n c m mc own t j)) (m2 l ty ks ty2 x) [(20,[.b false])] (.exit 0) (M0 n c m mc own t) (m2 l ty ks ty2 x) [decide (j<m)=false]:=by delta oX;kernel_rfl
theorem r1 (own:Bool) (x:Nd) (g:Nat→SV):oN [0,1,3] (ΓB H hH) 100 C10 (fill g 0 (M0 n c m mc own false)) (m2 l ty ks ty2 x) [(43,[.dyn])] .ret (MR 1) (mr l ty ks ty2 x.vals 1) [65=1*65]:=by delta oN;kernel_rfl
theorem r2 (x:Nd) (g:Nat→SV):oN [0,1,3] (ΓB H hH) 100 C10 (fill g 0 (M0 n c m mc true true)) (m2 l ty ks ty2 x) [(37,[.b true]),(43,[.dyn])] .ret (MR 1) (mr l ty ks ty2 x.vals 1) [((n:Int)==1)=true,65=1*65]:=by delta oN;kernel_rfl
theorem ka (x:Nd) (g:Nat→SV):oX (ΓB H hH) 300 C10 (fill g 0 (M0 n c m mc false true)) (m2 l ty ks ty2 x) [(37,[.b true])] .normal (M0 n c m mc false true) (m2 l ty ks ty2 x) [((n:Int)==1)=true]:=by delta oX;kernel_rfl
theorem kb (own:Bool) (x:Nd) (g:Nat→SV):oX (ΓB H hH) 300 C10 (fill g 0 (M0 n c m mc own true)) (m2 l ty ks ty2 x) [(37,[.b false])] .normal (M0 n c m mc own true) (m2 l ty ks ty2 x) [((n:Int)==1)=false]:=by delta oX;kernel_rfl
theorem r3 (own:Bool) (x:Nd) (g:Nat→SV):oX (ΓB H hH) 300 C12 (fill g 0 (M0 n c m mc own true)) (m2 l ty ks ty2 x) [(46,[.b true])] .ret (MN) (m0 l ty ks ty2) [((n:Int)==1)=true]:=by delta oX;kernel_rfl
theorem r4 (own:Bool) (x:Nd) (g:Nat→SV):oX (ΓB H hH) 300 C12 (fill g 0 (M0 n c m mc own true)) (m2 l ty ks ty2 x) [(46,[.b false])] .normal (M0 n c m mc own true) (m2 l ty ks ty2 x) [((n:Int)==1)=false]:=by delta oX;kernel_rfl
theorem sp (own:Bool) (x:Nd) (k o:Nat) (g:Nat→SV):oX (ΓB H hH) 300 R14 (fill g 0 (M0 n c m mc own true)) (m2 l ty ks ty2 x) [(51,[.s (.t [.a (.sld 0 0 0 k c),.a (.sld 0 0 o (n-k) (c-k))])])] .normal (M4 n c m mc own k o) (m0 l ty ks ty2) [0+0+n*65≤(ah l).length,n≤c,((ah l).drop (0+0)).take (n*65)=ah (ak (((ah l).drop (0+0)).take (n*65))),(ak (((ah l).drop (0+0)).take (n*65))).length=n,n<bK,0≤x.len,x.len<256,bg (ak (((ah l).drop (0+0)).take (n*65))),MonoB (ak (((ah l).drop (0+0)).take (n*65))) x.len.toNat (aR (ak (((ah l).drop (0+0)).take (n*65))) x.len.toNat),(aR (ak (((ah l).drop (0+0)).take (n*65))) x.len.toNat)<n,SV.t [.a (.sld 0 0 0 (aR (ak (((ah l).drop (0+0)).take (n*65))) x.len.toNat) c),.a (.sld 0 0 (0+(0+(aR (ak (((ah l).drop (0+0)).take (n*65))) x.len.toNat)*65)) (n-(aR (ak (((ah l).drop (0+0)).take (n*65))) x.len.toNat)) (c-(aR (ak (((ah l).drop (0+0)).take (n*65))) x.len.toNat)))]=SV.t [.a (.sld 0 0 0 k c),.a (.sld 0 0 o (n-k) (c-k))]]:=by delta oX;kernel_rfl
end
section
variable (H:Nd→Nd→B32) (l:List Nd) (n c:Nat) (ty:TypeId) (ks:List B32) (m mc:Nat) (ty2:TypeId) (own:Bool) (N:Nat) (ih:IH H N) (k o:Nat)
theorem dP (g:Nat→SV):oU [0,1,4] (ΓP H N ih) R15 0 6 (fill g 0 (M4 n c m mc own k o)) (m0 l ty ks ty2) [] (MVP n c m mc own k o (bT H own (ak (((ah l).drop (0+0)).take (k*65))) (aO (((aJ ks).drop (0+0)).take (m*32)))).length) (m5 l ty ks ty2 (((ah (bT H own (ak (((ah l).drop (0+0)).take (k*65))) (aO (((aJ ks).drop (0+0)).take (m*32))))).drop (0+0)).take ((bT H own (ak (((ah l).drop (0+0)).take (k*65))) (aO (((aJ ks).drop (0+0)).take (m*32)))).length*65)) (bT H own (ak (((ah l).drop (0+0)).take (k*65))) (aO (((aJ ks).drop (0+0)).take (m*32)))).length none) [0+0+k*65≤(ah l).length,k≤c,0+0+m*32≤(aJ ks).length,m≤mc,((ah l).drop (0+0)).take (k*65)=ah (ak (((ah l).drop (0+0)).take (k*65))),(ak (((ah l).drop (0+0)).take (k*65))).length=k,k<N,bg (ak (((ah l).drop (0+0)).take (k*65))),bC (ak (((ah l).drop (0+0)).take (k*65)))=true,((aJ ks).drop (0+0)).take (m*32)=aJ (aO (((aJ ks).drop (0+0)).take (m*32))),(aO (((aJ ks).drop (0+0)).take (m*32))).length=m,m≤4000000,gq (aO (((aJ ks).drop (0+0)).take (m*32))),(bT H own (ak (((ah l).drop (0+0)).take (k*65))) (aO (((aJ ks).drop (0+0)).take (m*32))))≠[],0+0+(bT H own (ak (((ah l).drop (0+0)).take (k*65))) (aO (((aJ ks).drop (0+0)).take (m*32)))).length*65≤(ah (bT H own (ak (((ah l).drop (0+0)).take (k*65))) (aO (((aJ ks).drop (0+0)).take (m*32))))).length,0<(bT H own (ak (((ah l).drop (0+0)).take (k*65))) (aO (((aJ ks).drop (0+0)).take (m*32)))).length,Room Tryd.prog 33 (bT H own (ak (((ah l).drop (0+0)).take (k*65))) (aO (((aJ ks).drop (0+0)).take (m*32)))).length]:=by delta oU;kernel_rfl
theorem dY (g:Nat→SV):oT (ΓY H N ih) R15 0 6 (fill g 0 (M4 n c m mc own k o)) (m0 l ty ks ty2) [(59,[.dyn])] (MVE n c m mc own k o) (me l ty ks ty2) [0+0+k*65≤(ah l).length,k≤c,0+0+m*32≤(aJ ks).length,m≤mc,((ah l).drop (0+0)).take (k*65)=ah (ak (((ah l).drop (0+0)).take (k*65))),(ak (((ah l).drop (0+0)).take (k*65))).length=k,k<N,bg (ak (((ah l).drop (0+0)).take (k*65))),bC (ak (((ah l).drop (0+0)).take (k*65)))=true,((aJ ks).drop (0+0)).take (m*32)=aJ (aO (((aJ ks).drop (0+0)).take (m*32))),(aO (((aJ ks).drop (0+0)).take (m*32))).length=m,m≤4000000,gq (aO (((aJ ks).drop (0+0)).take (m*32))),(bT H own (ak (((ah l).drop (0+0)).take (k*65))) (aO (((aJ ks).drop (0+0)).take (m*32))))=[],k≤1,0=0]:=by delta oT;kernel_rfl
theorem dZ (g:Nat→SV):oT (ΓZ H N ih) R15 0 6 (fill g 0 (M4 n c m mc own k o)) (m0 l ty ks ty2) [(59,[.dyn])] (MVE n c m mc own k o) (me l ty ks ty2) [0+0+k*65≤(ah l).length,k≤c,0+0+m*32≤(aJ ks).length,m≤mc,((ah l).drop (0+0)).take (k*65)=ah (ak (((ah l).drop (0+0)).take (k*65))),(ak (((ah l).drop (0+0)).take (k*65))).length=k,k<N,bg (ak (((ah l).drop (0+0)).take (k*65))),bC (ak (((ah l).drop (0+0)).take (k*65)))=true,((aJ ks).drop (0+0)).take (m*32)=aJ (aO (((aJ ks).drop (0+0)).take (m*32))),(aO (((aJ ks).drop (0+0)).take (m*32))).length=m,m≤4000000,gq (aO (((aJ ks).drop (0+0)).take (m*32))),(bT H own (ak (((ah l).drop (0+0)).take (k*65))) (aO (((aJ ks).drop (0+0)).take (m*32))))=[],2≤k,0+0+0*65≤0,0=0]:=by delta oT;kernel_rfl
theorem ePg (us:List Value) (u:Nat) (g:Nat→SV):oU [0,1,2] (ΓP H N ih) R15 6 6 (fill g 0 (MVP n c m mc own k o u)) (m5 l ty ks ty2 us (u+(bT H own (ak (((ah l).drop (0+o)).take ((n-k)*65))) (aO (((aJ ks).drop (0+0)).take (m*32)))).length) none) [(64,[.dyn])] (MR (u+(bT H own (ak (((ah l).drop (0+o)).take ((n-k)*65))) (aO (((aJ ks).drop (0+0)).take (m*32)))).length)) (mr l ty ks ty2 (us++((ah (bT H own (ak (((ah l).drop (0+o)).take ((n-k)*65))) (aO (((aJ ks).drop (0+0)).take (m*32))))).drop (0+0)).take ((bT H own (ak (((ah l).drop (0+o)).take ((n-k)*65))) (aO (((aJ ks).drop (0+0)).take (m*32)))).length*65)) (u+(bT H own (ak (((ah l).drop (0+o)).take ((n-k)*65))) (aO (((aJ ks).drop (0+0)).take (m*32)))).length)) [0+o+(n-k)*65≤(ah l).length,(n-k)≤(c-k),0+0+m*32≤(aJ ks).length,m≤mc,((ah l).drop (0+o)).take ((n-k)*65)=ah (ak (((ah l).drop (0+o)).take ((n-k)*65))),(ak (((ah l).drop (0+o)).take ((n-k)*65))).length=(n-k),(n-k)<N,bg (ak (((ah l).drop (0+o)).take ((n-k)*65))),bC (ak (((ah l).drop (0+o)).take ((n-k)*65)))=true,((aJ ks).drop (0+0)).take (m*32)=aJ (aO (((aJ ks).drop (0+0)).take (m*32))),(aO (((aJ ks).drop (0+0)).take (m*32))).length=m,m≤4000000,gq (aO (((aJ ks).drop (0+0)).take (m*32))),(bT H own (ak (((ah l).drop (0+o)).take ((n-k)*65))) (aO (((aJ ks).drop (0+0)).take (m*32))))≠[],0+0+(bT H own (ak (((ah l).drop (0+o)).take ((n-k)*65))) (aO (((aJ ks).drop (0+0)).take (m*32)))).length*65≤(ah (bT H own (ak (((ah l).drop (0+o)).take ((n-k)*65))) (aO (((aJ ks).drop (0+0)).take (m*32))))).length,u*65=us.length,u+(bT H own (ak (((ah l).drop (0+o)).take ((n-k)*65))) (aO (((aJ ks).drop (0+0)).take (m*32)))).length≤u+(bT H own (ak (((ah l).drop (0+o)).take ((n-k)*65))) (aO (((aJ ks).drop (0+0)).take (m*32)))).length,∀v∈((ah (bT H own (ak (((ah l).drop (0+o)).take ((n-k)*65))) (aO (((aJ ks).drop (0+0)).take (m*32))))).drop (0+0)).take ((bT H own (ak (((ah l).drop (0+o)).take ((n-k)*65))) (aO (((aJ ks).drop (0+0)).take (m*32)))).length*65),v.oneCell'=true]:=by delta oU;kernel_rfl
theorem ePr (us:List Value) (u ul:Nat) (g:Nat→SV):oU [0,1,4] (ΓP H N ih) R15 6 6 (fill g 0 (MVP n c m mc own k o u)) (m5 l ty ks ty2 us ul (some (u+(bT H own (ak (((ah l).drop (0+o)).take ((n-k)*65))) (aO (((aJ ks).drop (0+0)).take (m*32)))).length))) [(64,[.dyn])] (MR (u+(bT H own (ak (((ah l).drop (0+o)).take ((n-k)*65))) (aO (((aJ ks).drop (0+0)).take (m*32)))).length)) (mr l ty ks ty2 (us++((ah (bT H own (ak (((ah l).drop (0+o)).take ((n-k)*65))) (aO (((aJ ks).drop (0+0)).take (m*32))))).drop (0+0)).take ((bT H own (ak (((ah l).drop (0+o)).take ((n-k)*65))) (aO (((aJ ks).drop (0+0)).take (m*32)))).length*65)) (u+(bT H own (ak (((ah l).drop (0+o)).take ((n-k)*65))) (aO (((aJ ks).drop (0+0)).take (m*32)))).length)) [0+o+(n-k)*65≤(ah l).length,(n-k)≤(c-k),0+0+m*32≤(aJ ks).length,m≤mc,((ah l).drop (0+o)).take ((n-k)*65)=ah (ak (((ah l).drop (0+o)).take ((n-k)*65))),(ak (((ah l).drop (0+o)).take ((n-k)*65))).length=(n-k),(n-k)<N,bg (ak (((ah l).drop (0+o)).take ((n-k)*65))),bC (ak (((ah l).drop (0+o)).take ((n-k)*65)))=true,((aJ ks).drop (0+0)).take (m*32)=aJ (aO (((aJ ks).drop (0+0)).take (m*32))),(aO (((aJ ks).drop (0+0)).take (m*32))).length=m,m≤4000000,gq (aO (((aJ ks).drop (0+0)).take (m*32))),(bT H own (ak (((ah l).drop (0+o)).take ((n-k)*65))) (aO (((aJ ks).drop (0+0)).take (m*32))))≠[],0+0+(bT H own (ak (((ah l).drop (0+o)).take ((n-k)*65))) (aO (((aJ ks).drop (0+0)).take (m*32)))).length*65≤(ah (bT H own (ak (((ah l).drop (0+o)).take ((n-k)*65))) (aO (((aJ ks).drop (0+0)).take (m*32))))).length,u*65=us.length,u+(bT H own (ak (((ah l).drop (0+o)).take ((n-k)*65))) (aO (((aJ ks).drop (0+0)).take (m*32)))).length≤u+(bT H own (ak (((ah l).drop (0+o)).take ((n-k)*65))) (aO (((aJ ks).drop (0+0)).take (m*32)))).length,Room Tryd.prog 33 (u+(bT H own (ak (((ah l).drop (0+o)).take ((n-k)*65))) (aO (((aJ ks).drop (0+0)).take (m*32)))).length)]:=by delta oU;kernel_rfl
theorem gP (g:Nat→SV):oU [0,1,4] (ΓP H N ih) R15 6 6 (fill g 0 (MVE n c m mc own k o)) (me l ty ks ty2) [] (MR (bT H own (ak (((ah l).drop (0+o)).take ((n-k)*65))) (aO (((aJ ks).drop (0+0)).take (m*32)))).length) (mr l ty ks ty2 (((ah (bT H own (ak (((ah l).drop (0+o)).take ((n-k)*65))) (aO (((aJ ks).drop (0+0)).take (m*32))))).drop (0+0)).take ((bT H own (ak (((ah l).drop (0+o)).take ((n-k)*65))) (aO (((aJ ks).drop (0+0)).take (m*32)))).length*65)) (bT H own (ak (((ah l).drop (0+o)).take ((n-k)*65))) (aO (((aJ ks).drop (0+0)).take (m*32)))).length) [0+o+(n-k)*65≤(ah l).length,(n-k)≤(c-k),0+0+m*32≤(aJ ks).length,m≤mc,((ah l).drop (0+o)).take ((n-k)*65)=ah (ak (((ah l).drop (0+o)).take ((n-k)*65))),(ak (((ah l).drop (0+o)).take ((n-k)*65))).length=(n-k),(n-k)<N,bg (ak (((ah l).drop (0+o)).take ((n-k)*65))),bC (ak (((ah l).drop (0+o)).take ((n-k)*65)))=true,((aJ ks).drop (0+0)).take (m*32)=aJ (aO (((aJ ks).drop (0+0)).take (m*32))),(aO (((aJ ks).drop (0+0)).take (m*32))).length=m,m≤4000000,gq (aO (((aJ ks).drop (0+0)).take (m*32))),(bT H own (ak (((ah l).drop (0+o)).take ((n-k)*65))) (aO (((aJ ks).drop (0+0)).take (m*32))))≠[],0+0+(bT H own (ak (((ah l).drop (0+o)).take ((n-k)*65))) (aO (((aJ ks).drop (0+0)).take (m*32)))).length*65≤(ah (bT H own (ak (((ah l).drop (0+o)).take ((n-k)*65))) (aO (((aJ ks).drop (0+0)).take (m*32))))).length,0<(bT H own (ak (((ah l).drop (0+o)).take ((n-k)*65))) (aO (((aJ ks).drop (0+0)).take (m*32)))).length,Room Tryd.prog 33 (bT H own (ak (((ah l).drop (0+o)).take ((n-k)*65))) (aO (((aJ ks).drop (0+0)).take (m*32)))).length]:=by delta oU;kernel_rfl
theorem eY (us:List Value) (u:Nat) (g:Nat→SV):oU [0,1,2] (ΓY H N ih) R15 6 6 (fill g 0 (MVP n c m mc own k o u)) (m5 l ty ks ty2 us u none) [(64,[.dyn])] (MR (u+0)) (mr l ty ks ty2 (us++[]) u) [0+o+(n-k)*65≤(ah l).length,(n-k)≤(c-k),0+0+m*32≤(aJ ks).length,m≤mc,((ah l).drop (0+o)).take ((n-k)*65)=ah (ak (((ah l).drop (0+o)).take ((n-k)*65))),(ak (((ah l).drop (0+o)).take ((n-k)*65))).length=(n-k),(n-k)<N,bg (ak (((ah l).drop (0+o)).take ((n-k)*65))),bC (ak (((ah l).drop (0+o)).take ((n-k)*65)))=true,((aJ ks).drop (0+0)).take (m*32)=aJ (aO (((aJ ks).drop (0+0)).take (m*32))),(aO (((aJ ks).drop (0+0)).take (m*32))).length=m,m≤4000000,gq (aO (((aJ ks).drop (0+0)).take (m*32))),(bT H own (ak (((ah l).drop (0+o)).take ((n-k)*65))) (aO (((aJ ks).drop (0+0)).take (m*32))))=[],(n-k)≤1,u*65=us.length,u+0≤u,∀v∈([]:List Value),v.oneCell'=true]:=by delta oU;kernel_rfl
theorem gY (g:Nat→SV):oT (ΓY H N ih) R15 6 6 (fill g 0 (MVE n c m mc own k o)) (me l ty ks ty2) [(64,[.dyn])] (ME) (me l ty ks ty2) [0+o+(n-k)*65≤(ah l).length,(n-k)≤(c-k),0+0+m*32≤(aJ ks).length,m≤mc,((ah l).drop (0+o)).take ((n-k)*65)=ah (ak (((ah l).drop (0+o)).take ((n-k)*65))),(ak (((ah l).drop (0+o)).take ((n-k)*65))).length=(n-k),(n-k)<N,bg (ak (((ah l).drop (0+o)).take ((n-k)*65))),bC (ak (((ah l).drop (0+o)).take ((n-k)*65)))=true,((aJ ks).drop (0+0)).take (m*32)=aJ (aO (((aJ ks).drop (0+0)).take (m*32))),(aO (((aJ ks).drop (0+0)).take (m*32))).length=m,m≤4000000,gq (aO (((aJ ks).drop (0+0)).take (m*32))),(bT H own (ak (((ah l).drop (0+o)).take ((n-k)*65))) (aO (((aJ ks).drop (0+0)).take (m*32))))=[],(n-k)≤1,0=0]:=by delta oT;kernel_rfl
theorem eZ (us:List Value) (u:Nat) (g:Nat→SV):oU [0,1,2] (ΓZ H N ih) R15 6 6 (fill g 0 (MVP n c m mc own k o u)) (m5 l ty ks ty2 us u none) [(64,[.dyn])] (MR (u+0)) (mr l ty ks ty2 (us++[]) u) [0+o+(n-k)*65≤(ah l).length,(n-k)≤(c-k),0+0+m*32≤(aJ ks).length,m≤mc,((ah l).drop (0+o)).take ((n-k)*65)=ah (ak (((ah l).drop (0+o)).take ((n-k)*65))),(ak (((ah l).drop (0+o)).take ((n-k)*65))).length=(n-k),(n-k)<N,bg (ak (((ah l).drop (0+o)).take ((n-k)*65))),bC (ak (((ah l).drop (0+o)).take ((n-k)*65)))=true,((aJ ks).drop (0+0)).take (m*32)=aJ (aO (((aJ ks).drop (0+0)).take (m*32))),(aO (((aJ ks).drop (0+0)).take (m*32))).length=m,m≤4000000,gq (aO (((aJ ks).drop (0+0)).take (m*32))),(bT H own (ak (((ah l).drop (0+o)).take ((n-k)*65))) (aO (((aJ ks).drop (0+0)).take (m*32))))=[],2≤(n-k),0+0+0*65≤0,u*65=us.length,u+0≤u,∀v∈([]:List Value),v.oneCell'=true]:=by delta oU;kernel_rfl
theorem gZ (g:Nat→SV):oT (ΓZ H N ih) R15 6 6 (fill g 0 (MVE n c m mc own k o)) (me l ty ks ty2) [(64,[.dyn])] (ME) (me l ty ks ty2) [0+o+(n-k)*65≤(ah l).length,(n-k)≤(c-k),0+0+m*32≤(aJ ks).length,m≤mc,((ah l).drop (0+o)).take ((n-k)*65)=ah (ak (((ah l).drop (0+o)).take ((n-k)*65))),(ak (((ah l).drop (0+o)).take ((n-k)*65))).length=(n-k),(n-k)<N,bg (ak (((ah l).drop (0+o)).take ((n-k)*65))),bC (ak (((ah l).drop (0+o)).take ((n-k)*65)))=true,((aJ ks).drop (0+0)).take (m*32)=aJ (aO (((aJ ks).drop (0+0)).take (m*32))),(aO (((aJ ks).drop (0+0)).take (m*32))).length=m,m≤4000000,gq (aO (((aJ ks).drop (0+0)).take (m*32))),(bT H own (ak (((ah l).drop (0+o)).take ((n-k)*65))) (aO (((aJ ks).drop (0+0)).take (m*32))))=[],2≤(n-k),0+0+0*65≤0,0=0]:=by delta oT;kernel_rfl
end
section
variable (H:Nd→Nd→B32) (hH:H=hV) (l:List Nd) (ty:TypeId) (ks:List B32) (ty2:TypeId)
theorem ee (g:Nat→SV):oX (ΓB H hH) 300 Z (fill g 0 (ME )) (me l ty ks ty2) [] .ret (ME) (me l ty ks ty2) []:=by delta oX;kernel_rfl
theorem er (us:List Value) (u r:Nat) (g:Nat→SV):oX (ΓB H hH) 300 Z (fill g 0 (MR r)) (mr l ty ks ty2 us u) [] .ret (MR r) (mr l ty ks ty2 us u) []:=by delta oX;kernel_rfl
end
section
variable (l:List Nd) (ty:TypeId) (ks:List B32) (ty2:TypeId)
theorem zn (g:Nat→SV):eRes tys (fill g 0 (MN )) (fun k=>(m0 l ty ks ty2 )[k]?) fn.results.toList=some [.a (.v (.slice none 0 0))]:=by kernel_rfl
theorem zr (us:List Value) (u r:Nat) (g:Nat→SV):eRes tys (fill g 0 (MR r)) (fun k=>(mr l ty ks ty2 us u)[k]?) fn.results.toList=some [.a (.slg 2 r)]:=by kernel_rfl
theorem ze (g:Nat→SV):eRes tys (fill g 0 (ME )) (fun k=>(me l ty ks ty2 )[k]?) fn.results.toList=some [.a (.slc 2 0 0 0)]:=by kernel_rfl
end
theorem nil1:((opsOf R15).toList.drop 6).drop 6=[]:=by kernel_rfl
end rwi
theorem dtb {l:List B32} {n:Nat} (hn:l.length=n):((aJ l).drop (0+0)).take (n*32)=aJ l:=by
 rw[Nat.add_zero,List.drop_zero,List.take_of_length_le (by rw[l7];omega)]
theorem gq.at {l:List B32} (h:gq l) {i:Nat} (hi:i<l.length):BOk (l.getD i zB):=h _ (dV hi _)
theorem gq.filter {l:List B32} (h:gq l) (p:B32→Bool):gq (l.filter p):=fun x hx=>h x (List.mem_filter.1 hx).1
theorem filt_succ {l:List B32} {i:Nat} (h:i<l.length) (p:B32→Bool):(l.take (i+1)).filter p=bif p (l.getD i zB) then (l.take i).filter p++[l.getD i zB] else (l.take i).filter p:=by
 rw[List.take_succ_eq_append_getElem h,List.filter_append,getD_lt h]
 cases hp:p l[i] with
 | true=>rw[cond_true,List.filter_cons_of_pos hp];rfl
 | false=>rw[cond_false,List.filter_cons_of_neg (by rw[hp];decide)];simp
theorem any_succ {l:List B32} {i:Nat} (h:i<l.length) (p:B32→Bool):(l.take (i+1)).any p=((l.take i).any p||p (l.getD i zB)):=by
 rw[List.take_succ_eq_append_getElem h,List.any_append,getD_lt h]
 simp
theorem filt_bound {l:List B32} {p:B32→Bool}:(l.filter p).length≤l.length:=List.length_filter_le _ _
theorem roomL (n:Nat) (h:n≤4000000):Room Tryd.prog 24 n:=by
 have h1:(Tryd.prog.info? 24).map (·.bytes)=some 32:=by kernel_rfl
 cases hq:Tryd.prog.info? 24 with
 | none=>rw[hq] at h1;cases h1
 | some j=>
  rw[hq] at h1
  have:j.bytes=32:=by simpa using h1
  exact⟨j,hq,by rw[this];omega,by omega⟩
theorem oneB (b:B32):∀v∈fu b,v.oneCell'=true:=fun v hv=>by
 unfold fu at hv
 obtain⟨i,_,rfl⟩:=List.mem_map.1 hv
 rfl
theorem oneVs (l:List Nd):∀v∈ah l,v.oneCell'=true:=fun v hv=>by
 obtain⟨x,_,hx⟩:=List.mem_flatMap.1 hv
 exact oneV x v hx
section
variable (H:Nd→Nd→B32)
theorem tJ (own:Bool) (f:Nat) (ks:List B32):aroF H own f [] ks=[]:=by cases f<;>rfl
theorem uO (own:Bool):∀(f g:Nat) (l:List Nd) (ks:List B32),Ap l→l.length≤f→l.length≤g→aroF H own f l ks=aroF H own g l ks
 | 0,g,l,ks,_,hf,_=>by obtain rfl:=List.eq_nil_of_length_eq_zero (Nat.le_zero.1 hf);rw[tJ,tJ]
 | f+1,0,l,ks,_,_,hg=>by obtain rfl:=List.eq_nil_of_length_eq_zero (Nat.le_zero.1 hg);rw[tJ,tJ]
 | f+1,g+1,l,ks,h,hf,hg=>by
  rcases Nat.lt_or_ge l.length 2 with h2 | h2
  ·rw[aroF,aroF]
   cases b0:Nat.beq l.length 0 with
   | true=>rfl
   | false=>
    have b1:Nat.beq l.length 1=true:=by
     rw[←Bool.not_eq_true,Nat.beq_eq] at b0
     rw[Nat.beq_eq];omega
    rw[b1];rfl
  ·have s:=halves h h2
   have k0:=s.k0
   have kl:=s.kl
   have a:=uO own f g (l.take (aR l (aM l))) (ks.filter (holdsV (bD H l))) (jh h _) (by rw[List.length_take];omega) (by rw[List.length_take];omega)
   have b:=uO own f g (l.drop (aR l (aM l))) (ks.filter (holdsV (bD H l))) (ji h _) (by rw[List.length_drop];omega) (by rw[List.length_drop];omega)
   rw[aroF,aroF,a,b]
theorem tO (own:Bool):∀(f g:Nat) (l:List Nd) (ks:List B32),Ap l→l.length≤f→l.length≤g→witF H own f l ks=witF H own g l ks
 | 0,g,l,ks,_,hf,_=>by obtain rfl:=List.eq_nil_of_length_eq_zero (Nat.le_zero.1 hf);rw[sO,sO]
 | f+1,0,l,ks,_,_,hg=>by obtain rfl:=List.eq_nil_of_length_eq_zero (Nat.le_zero.1 hg);rw[sO,sO]
 | f+1,g+1,l,ks,h,hf,hg=>by
  rcases Nat.lt_or_ge l.length 2 with h2 | h2
  ·rw[witF,witF]
   cases b0:Nat.beq l.length 0 with
   | true=>rfl
   | false=>
    have b1:Nat.beq l.length 1=true:=by
     rw[←Bool.not_eq_true,Nat.beq_eq] at b0
     rw[Nat.beq_eq];omega
    rw[b1];rfl
  ·have s:=halves h h2
   have k0:=s.k0
   have kl:=s.kl
   have a:=tO own f g (l.take (aR l (aM l))) ks (jh h _) (by rw[List.length_take];omega) (by rw[List.length_take];omega)
   have b:=tO own f g (l.drop (aR l (aM l))) ks (ji h _) (by rw[List.length_drop];omega) (by rw[List.length_drop];omega)
   rw[witF,witF,a,b]
theorem aroV_nil (own:Bool) (ks:List B32):cK H own [] ks=[]:=tJ H own _ ks
theorem witV_nil (own:Bool) (ks:List B32):bT H own [] ks=[]:=sO H own _ ks
theorem len0 {l:List B32}:Nat.beq l.length 0=true↔l=[]:=by rw[Nat.beq_eq,List.length_eq_zero_iff]
theorem len0f {l:List B32} (h:l≠[]):Nat.beq l.length 0=false:=by rw[←Bool.not_eq_true,len0];exact h
theorem aroV_one {l:List Nd} (own:Bool) (ks:List B32) (h1:1≤l.length) (hc:ks.filter (holdsV (bD H l))=[]∨(l.length=1∧own=true)):cK H own l ks=[bD H l]:=by
 unfold cK
 obtain⟨f,hf⟩:∃f,l.length=f+1:=⟨l.length-1,by omega⟩
 have b0:Nat.beq l.length 0=false:=by rw[←Bool.not_eq_true,Nat.beq_eq];omega
 have e:aroF H own l.length l ks=aroF H own (f+1) l ks:=by rw[←hf]
 rw[e,aroF,b0,cond_false]
 rcases hc with h | ⟨h,rfl⟩
 ·rw[len0.2 h];rfl
 ·rw[h,show(Nat.beq 1 1&&true)=true from rfl,Bool.or_true,cond_true]
theorem aroV_gone {l:List Nd} (ks:List B32) (h1:l.length=1) (hc:ks.filter (holdsV (bD H l))≠[]):cK H false l ks=[]:=by
 unfold cK
 rw[h1,aroF,h1,len0f hc]
 rfl
theorem aroV_two {l:List Nd} (h:Ap l) (h2:2≤l.length) (own:Bool) (ks:List B32) (hc:ks.filter (holdsV (bD H l))≠[]):
  cK H own l ks=cK H own (l.take (aR l (aM l))) (ks.filter (holdsV (bD H l)))++cK H own (l.drop (aR l (aM l))) (ks.filter (holdsV (bD H l))):=by
 obtain⟨f,hf⟩:∃f,l.length=f+1:=⟨l.length-1,by omega⟩
 have s:=halves h h2
 have k0:=s.k0
 have kl:=s.kl
 have b0:Nat.beq l.length 0=false:=by rw[←Bool.not_eq_true,Nat.beq_eq];omega
 have b1:Nat.beq l.length 1=false:=by rw[←Bool.not_eq_true,Nat.beq_eq];omega
 have e:cK H own l ks=aroF H own (f+1) l ks:=by unfold cK;rw[←hf]
 rw[e,aroF,b0,b1,len0f hc,cond_false,Bool.false_and,Bool.false_or,cond_false,cond_false]
 unfold cK
 rw[uO H own f _ _ _ (jh h _) (by rw[List.length_take];omega) (Nat.le_refl _),uO H own f _ _ _ (ji h _) (by rw[List.length_drop];omega) (Nat.le_refl _)]
theorem witV_one {l:List Nd} (own:Bool) (ks:List B32) (h1:1≤l.length) (hc:ks.any (holdsV (bD H l))=false∨(l.length=1∧own=true)):bT H own l ks=[bD H l]:=by
 unfold bT
 obtain⟨f,hf⟩:∃f,l.length=f+1:=⟨l.length-1,by omega⟩
 have b0:Nat.beq l.length 0=false:=by rw[←Bool.not_eq_true,Nat.beq_eq];omega
 have e:witF H own l.length l ks=witF H own (f+1) l ks:=by rw[←hf]
 rw[e,witF,b0,cond_false]
 rcases hc with h | ⟨h,rfl⟩
 ·rw[h];rfl
 ·rw[h,show(Nat.beq 1 1&&true)=true from rfl,Bool.or_true,cond_true]
theorem witV_gone {l:List Nd} (ks:List B32) (h1:l.length=1) (hc:ks.any (holdsV (bD H l))=true):bT H false l ks=[]:=by
 unfold bT
 rw[h1,witF,h1,hc]
 rfl
theorem witV_two {l:List Nd} (h:Ap l) (h2:2≤l.length) (own:Bool) (ks:List B32) (hc:ks.any (holdsV (bD H l))=true):
  bT H own l ks=bT H own (l.take (aR l (aM l))) ks++bT H own (l.drop (aR l (aM l))) ks:=by
 obtain⟨f,hf⟩:∃f,l.length=f+1:=⟨l.length-1,by omega⟩
 have s:=halves h h2
 have k0:=s.k0
 have kl:=s.kl
 have b0:Nat.beq l.length 0=false:=by rw[←Bool.not_eq_true,Nat.beq_eq];omega
 have b1:Nat.beq l.length 1=false:=by rw[←Bool.not_eq_true,Nat.beq_eq];omega
 have e:bT H own l ks=witF H own (f+1) l ks:=by unfold bT;rw[←hf]
 rw[e,witF,b0,b1,hc,cond_false,Bool.false_and,Bool.not_true,Bool.false_or,cond_false,cond_false]
 unfold bT
 rw[tO H own f _ _ _ (jh h _) (by rw[List.length_take];omega) (Nat.le_refl _),tO H own f _ _ _ (ji h _) (by rw[List.length_drop];omega) (Nat.le_refl _)]
variable (hH:∀a b,BOk (H a b))
include hH
theorem nZ (own:Bool) {l:List Nd} (h:Ap l) (ks:List B32):cK H own l ks=bT H own l ks:=aro_wit H hH own _ l ks ks h fun _ _=>Iff.rfl
theorem o7 (own:Bool) {l:List Nd} (h:Ap l) (h0:l≠[]) (ks:List B32):Wit H own l l ks (bT H own l ks):=wit_spec H hH own h ks _ l (full_self H hH h h0) (Nat.le_refl _)
theorem qV (own:Bool) {l:List Nd} (h:Ap l) (ks:List B32):(bT H own l ks).length≤l.length:=by
 by_cases h0:l=[]
 ·subst h0;rw[witV_nil];exact Nat.le_refl _
 ·exact(o7 H hH own h h0 ks).len
theorem aroV_len (own:Bool) {l:List Nd} (h:Ap l) (ks:List B32):(cK H own l ks).length≤l.length:=by rw[nZ H hH own h];exact qV H hH own h ks
end
end Go.Proofs.YtdccehmekkcheaaDoor

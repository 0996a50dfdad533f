/- Package tree: Around: facts of the walk. -/
import Derived.Test.YtdccehmekkcheaaDoorBFo
import Derived.Test.YtdccehmekkcheaaDoorBMTC
namespace Go.Proofs.YtdccehmekkcheaaDoor
open Go Go.Eng Go.RowKit
set_option linter.unusedVariables false
set_option linter.unusedSimpArgs false
set_option maxRecDepth 100000
def aN:List Value→List B32
 | []=>[]
 | v::r=>match cB32.dec (.o (.g ((v::r.take 31).map Atom.v))) with
  | some n=>n::aN (r.drop 31)
  | none=>[]
 termination_by l=>l.length
 decreasing_by simp only[List.length_drop,List.length_cons];omega
theorem bvDec_vals:∀l:List B32,aN (aR l)=l
 | []=>by rw[show aR []=[] from rfl,aN]
 | n::r=>by
  have e:aR (n::r)=bvals n++aR r:=by simp[aR]
  rw[e]
  have e2:bvals n++aR r= .int .u8 n.b0::((n.to.tail.map (Value.int .u8))++aR r):=rfl
  have hl:(n.to.tail.map (Value.int .u8)).length=31:=rfl
  rw[e2,aN,List.take_append_of_le_length (by rw[hl];omega),List.take_of_length_le (by rw[hl];omega),List.drop_append,hl,Nat.sub_self,List.drop_zero,List.drop_eq_nil_of_le (by rw[hl];omega),List.nil_append]
  have e3:(Value.int .u8 n.b0::n.to.tail.map (Value.int .u8)).map Atom.v=cB32.row n:=rfl
  rw[e3,cB32_dec]
  simp only
  rw[bvDec_vals r]
def AllB (l:List B32):Prop:=∀x∈l,BOk x
def aroV (H:Nd→Nd→B32) (own:Bool) (l:List Nd) (ks:List B32):List Nd:=aroF H own l.length l ks
def witV (H:Nd→Nd→B32) (own:Bool) (l:List Nd) (ks:List B32):List Nd:=witF H own l.length l ks
namespace tar
noncomputable abbrev fn:=Tryd.f69
noncomputable def body:Code:=bF fn
noncomputable def S4:Code:=csuf 4 body
noncomputable def A1:Code:=cs1 (cs1 S4)
noncomputable def L:Code:=cL (cB (cs2 (cs1 S4)))
noncomputable def B2:Code:=cs1 (cs2 S4)
noncomputable def R16:Code:=cs1 (cs2 (cs2 S4))
noncomputable def R17:Code:=cs1 (cs2 (cs2 (cs2 S4)))
noncomputable def Z:Code:=cs2 (cs2 (cs2 (cs2 S4)))
noncomputable def i17:Nat:=match R17 with | .region i _ _=>i | _=>0
noncomputable def Qa (r:List Nd) (v:SV) (m:List Blk):Prop:=(r=[]∧aZ (.o (.a (.v (.slice none 0 0)))) .none v m)∨(r≠[]∧aZ (.o (.a (.slg 0 r.length))) (.new 33 (.grv 65 (ah r) r.length none)) v m)
def IH (H:Nd→Nd→B32) (N:Nat):Prop:=∀(l:List Nd) (n c:Nat) (ty:TypeId) (ks:List B32) (m mc:Nat) (ty2:TypeId) (own:Bool),l.length=n→n<N→n≤c→aT l→aL l=true→ks.length=m→m≤4000000→m≤mc→AllB ks→
 aB Tryd.prog GT 2 body (aG fn [.o (.a (.sld 0 0 0 n c)),.o (.a (.sld 1 0 0 m mc)),.o (.a (.v (.bool own)))]) [⟨false,ty,.prv (ah l)⟩,⟨false,ty2,.prv (aR ks)⟩] (aF tys fn (fun r mm=>Qa (aroV H own l ks) r mm))
theorem suf_eq:csuf 4 body= .seq (.seq A1 (.block 0 (.loop L))) (.seq B2 (.seq R16 (.seq (.region i17 (opsOf R17) false) Z))):=by kernel_rfl
def specP (H:Nd→Nd→B32) (N:Nat):List PArg→Option (SV × LEff × Cst)
 | [.winv _ vs n ty,.winv _ ws m ty2,.val (.o (.a (.v (.bool own))))]=>some (.o (.a (.slg 0 (aroV H own (au vs) (aN ws)).length)),.new 33 (.grv 65 (ah (aroV H own (au vs) (aN ws))) (aroV H own (au vs) (aN ws)).length none),[vs=ah (au vs),(au vs).length=n,n<N,aT (au vs),aL (au vs)=true,ws=aR (aN ws),(aN ws).length=m,m≤4000000,AllB (aN ws),(aroV H own (au vs) (aN ws))≠[]])
 | _=>none
def specZ (H:Nd→Nd→B32) (N:Nat):List PArg→Option (SV × LEff × Cst)
 | [.winv _ vs n ty,.winv _ ws m ty2,.val (.o (.a (.v (.bool own))))]=>some (.o (.a (.v (.slice none 0 0))),.none,[vs=ah (au vs),(au vs).length=n,n<N,aT (au vs),aL (au vs)=true,ws=aR (aN ws),(aN ws).length=m,m≤4000000,AllB (aN ws),(aroV H own (au vs) (aN ws))=[]])
 | _=>none
section
variable (H:Nd→Nd→B32)
noncomputable def conP (N:Nat) (ih:IH H N):Con Tryd.prog GT:=Con.parts aj 69 fn Tryd.func69 (by kernel_rfl) (c:=body) (by kernel_rfl) [.winv 65,.winv 32,.val] (specP H N)
 (fun ps r e p h hp=>by
  unfold specP at h
  split at h<;>cases h
  exact⟨rfl,fun b hb=>by simp only[aM,PArg.blk,List.append_nil,List.nil_append,List.cons_append,List.mem_cons,List.not_mem_nil,or_false] at hb;rcases hb with rfl | rfl<;>rfl⟩)
 (fun ps r e p cap h hp hi=>by
  unfold specP at h
  split at h<;>cases h
  rename_i s1 vs n ty s2 ws m ty2 own
  obtain⟨p1,p2,p3,p4,p5,p6,p7,p8,p9,p10,_⟩:=hp
  obtain⟨⟨_,hc1⟩,⟨_,hc2⟩,_⟩:=hi
  have q:=ih (au vs) n (cap 0) ty (aN ws) m (cap 1) ty2 own p2 p3 hc1 p4 p5 p7 p8 hc2 p9
  rw[←p1,←p6] at q
  refine Runs.mono q fun e t m=>endsM_mono fun r m h=> ?_
  rcases h with⟨h',_⟩ | ⟨_,h⟩
  ·exact absurd h' p10
  ·exact h)
noncomputable def conZ (N:Nat) (ih:IH H N):Con Tryd.prog GT:=Con.parts aj 69 fn Tryd.func69 (by kernel_rfl) (c:=body) (by kernel_rfl) [.winv 65,.winv 32,.val] (specZ H N)
 (fun ps r e p h hp=>by
  unfold specZ at h
  split at h<;>cases h
  exact⟨rfl,fun b hb=>by simp only[aM,PArg.blk,List.append_nil,List.nil_append,List.cons_append,List.mem_cons,List.not_mem_nil,or_false] at hb;rcases hb with rfl | rfl<;>rfl⟩)
 (fun ps r e p cap h hp hi=>by
  unfold specZ at h
  split at h<;>cases h
  rename_i s1 vs n ty s2 ws m ty2 own
  obtain⟨p1,p2,p3,p4,p5,p6,p7,p8,p9,p10,_⟩:=hp
  obtain⟨⟨_,hc1⟩,⟨_,hc2⟩,_⟩:=hi
  have q:=ih (au vs) n (cap 0) ty (aN ws) m (cap 1) ty2 own p2 p3 hc1 p4 p5 p7 p8 hc2 p9
  rw[←p1,←p6] at q
  refine Runs.mono q fun e t m=>endsM_mono fun r m h=> ?_
  rcases h with⟨_,h⟩ | ⟨h',_⟩
  ·exact h
  ·exact absurd p10 h')
noncomputable def ΓB (hH:H=hV):Cons Tryd.prog GT:=[spl.con,tjn.conF H hH,tholds.con]
noncomputable def ΓP (N:Nat) (ih:IH H N):Cons Tryd.prog GT:=[conP H N ih]
noncomputable def ΓZ (N:Nat) (ih:IH H N):Cons Tryd.prog GT:=[conZ H N ih]
end
section
variable (l:List Nd) (ty:TypeId) (ks:List B32) (ty2:TypeId)
def m0:List Blk:=[⟨false,ty,.prv (ah l)⟩,⟨false,ty2,.prv (aR ks)⟩]
def m2 (x:Nd):List Blk:=[⟨false,ty,.prv (ah l)⟩,⟨false,ty2,.prv (aR ks)⟩,⟨true,33,.lit (Nd.row x)⟩]
def m3 (x:Nd) (vs:List Value) (lo:Nat) (hi:Option Nat):List Blk:=[⟨false,ty,.prv (ah l)⟩,⟨false,ty2,.prv (aR ks)⟩,⟨true,33,.lit (Nd.row x)⟩,⟨true,24,.grv 32 vs lo hi⟩]
def m4 (vs:List Value) (lo:Nat) (hi:Option Nat):List Blk:=[⟨false,ty,.prv (ah l)⟩,⟨false,ty2,.prv (aR ks)⟩,⟨true,24,.grv 32 vs lo hi⟩]
def m5 (vs:List Value) (lo:Nat) (hi:Option Nat) (us:List Value) (u:Nat) (v:Option Nat):List Blk:=[⟨false,ty,.prv (ah l)⟩,⟨false,ty2,.prv (aR ks)⟩,⟨true,24,.grv 32 vs lo hi⟩,⟨true,33,.grv 65 us u v⟩]
def mr (us:List Value) (u:Nat):List Blk:=[⟨false,ty,.prv (ah l)⟩,⟨false,ty2,.prv (aR ks)⟩,⟨true,33,.grv 65 us u none⟩]
end
def MN:List (Option SV):=aD 64 0 [(6,.o (.a (.v (.slice none 0 0))))]
def MR (r:Nat):List (Option SV):=aD 64 0 [(6,.o (.a (.slg 2 r)))]
section
variable (n c:Nat) (m mc:Nat) (own:Bool)
def M0:List (Option SV):=aD 64 0 [(0,.o (.a (.sld 0 0 0 n c))),(1,.o (.a (.sld 1 0 0 m mc))),(2,.o (.a (.v (.bool own)))),(7,.o (.a (.ptr 2 0))),(8,.o (.a (.v (.slice none 0 0))))]
def MZ (j:Int):List (Option SV):=aD 64 0 [(0,.o (.a (.sld 0 0 0 n c))),(1,.o (.a (.sld 1 0 0 m mc))),(2,.o (.a (.v (.bool own)))),(7,.o (.a (.ptr 2 0))),(8,.o (.a (.v (.slice none 0 0)))),(19,.o (.a (.sld 1 0 0 m mc))),(20,.o (.a (int1 .i64 m))),(21,.o (.a (int1 .i64 j)))]
def MP (j:Int) (h:Nat):List (Option SV):=aD 64 0 [(0,.o (.a (.sld 0 0 0 n c))),(1,.o (.a (.sld 1 0 0 m mc))),(2,.o (.a (.v (.bool own)))),(7,.o (.a (.ptr 2 0))),(8,.o (.a (.slg 3 h))),(19,.o (.a (.sld 1 0 0 m mc))),(20,.o (.a (int1 .i64 m))),(21,.o (.a (int1 .i64 j)))]
def MQ (h:Nat):List (Option SV):=aD 64 0 [(0,.o (.a (.sld 0 0 0 n c))),(1,.o (.a (.sld 1 0 0 m mc))),(2,.o (.a (.v (.bool own)))),(7,.o (.a (.ptr 2 0))),(8,.o (.a (.slg 3 h)))]
end
def M3 (n c:Nat) (own:Bool) (h:Nat):List (Option SV):=aD 64 0 [(0,.o (.a (.sld 0 0 0 n c))),(2,.o (.a (.v (.bool own)))),(8,.o (.a (.slg 2 h)))]
def M4 (n c:Nat) (own:Bool) (h k o:Nat):List (Option SV):=aD 64 0 [(2,.o (.a (.v (.bool own)))),(8,.o (.a (.slg 2 h))),(11,.o (.a (.sld 0 0 0 k c))),(12,.o (.a (.sld 0 0 o (n-k) (c-k))))]
def MVZ (n c:Nat) (own:Bool) (h k o:Nat):List (Option SV):=aD 64 0 [(2,.o (.a (.v (.bool own)))),(8,.o (.a (.slg 2 h))),(12,.o (.a (.sld 0 0 o (n-k) (c-k)))),(58,.o (.a (.v (.slice none 0 0))))]
def MVP (n c:Nat) (own:Bool) (h k o u:Nat):List (Option SV):=aD 64 0 [(2,.o (.a (.v (.bool own)))),(8,.o (.a (.slg 2 h))),(12,.o (.a (.sld 0 0 o (n-k) (c-k)))),(58,.o (.a (.slg 3 u)))]
section
variable (l:List Nd)
theorem iN (ty:TypeId) (ks:List B32) (ty2:TypeId):oI (MN) (m0 l ty ks ty2):=by delta oI;kernel_rfl
theorem iR (ty:TypeId) (ks:List B32) (ty2:TypeId) (us:List Value) (u r:Nat):oI (MR r) (mr l ty ks ty2 us u):=by delta oI;kernel_rfl
theorem i0 (n c:Nat) (ty:TypeId) (ks:List B32) (m mc:Nat) (ty2:TypeId) (own:Bool) (x:Nd):oI (M0 n c m mc own) (m2 l ty ks ty2 x):=by delta oI;kernel_rfl
theorem iZ (n c:Nat) (ty:TypeId) (ks:List B32) (m mc:Nat) (ty2:TypeId) (own:Bool) (x:Nd) (j:Int):oI (MZ n c m mc own j) (m2 l ty ks ty2 x):=by delta oI;kernel_rfl
theorem iP (n c:Nat) (ty:TypeId) (ks:List B32) (m mc:Nat) (ty2:TypeId) (own:Bool) (x:Nd) (vs:List Value) (lo:Nat) (hi:Option Nat) (j:Int) (h:Nat):oI (MP n c m mc own j h) (m3 l ty ks ty2 x vs lo hi):=by delta oI;kernel_rfl
theorem iQ (n c:Nat) (ty:TypeId) (ks:List B32) (m mc:Nat) (ty2:TypeId) (own:Bool) (x:Nd) (vs:List Value) (lo:Nat) (hi:Option Nat) (h:Nat):oI (MQ n c m mc own h) (m3 l ty ks ty2 x vs lo hi):=by delta oI;kernel_rfl
theorem i3 (n c:Nat) (ty:TypeId) (ks:List B32) (ty2:TypeId) (own:Bool) (vs:List Value) (lo:Nat) (hi:Option Nat) (h:Nat):oI (M3 n c own h) (m4 l ty ks ty2 vs lo hi):=by delta oI;kernel_rfl
theorem i4 (n c:Nat) (ty:TypeId) (ks:List B32) (ty2:TypeId) (own:Bool) (vs:List Value) (lo:Nat) (hi:Option Nat) (h k o:Nat):oI (M4 n c own h k o) (m4 l ty ks ty2 vs lo hi):=by delta oI;kernel_rfl
theorem iVZ (n c:Nat) (ty:TypeId) (ks:List B32) (ty2:TypeId) (own:Bool) (vs:List Value) (lo:Nat) (hi:Option Nat) (h k o:Nat):oI (MVZ n c own h k o) (m4 l ty ks ty2 vs lo hi):=by delta oI;kernel_rfl
theorem iVP (n c:Nat) (ty:TypeId) (ks:List B32) (ty2:TypeId) (own:Bool) (vs:List Value) (lo:Nat) (hi:Option Nat) (us:List Value) (u:Nat) (v:Option Nat) (h k o r:Nat):oI (MVP n c own h k o r) (m5 l ty ks ty2 vs lo hi us u v):=by delta oI;kernel_rfl
end
section
variable (H:Nd→Nd→B32) (hH:H=hV) (l:List Nd) (n c:Nat) (ty:TypeId) (ks:List B32) (m mc:Nat) (ty2:TypeId)
theorem z0 (own:Bool):oX (ΓB H hH) 300 body (aG fn [.o (.a (.sld 0 0 0 n c)),.o (.a (.sld 1 0 0 m mc)),.o (.a (.v (.bool own)))]) [⟨false,ty,.prv (ah l)⟩,⟨false,ty2,.prv (aR ks)⟩] [(16,[.b true])] .ret (MN) (m0 l ty ks ty2) [((n:Int)==0)=true]:=by delta oX;kernel_rfl
theorem s0 (own:Bool) (x:Nd):oX (ΓB H hH) 300 (cpre 4 body) (aG fn [.o (.a (.sld 0 0 0 n c)),.o (.a (.sld 1 0 0 m mc)),.o (.a (.v (.bool own)))]) [⟨false,ty,.prv (ah l)⟩,⟨false,ty2,.prv (aR ks)⟩] [(16,[.b false]),(18,[.s (cNd.enc x)])] .normal (M0 n c m mc own) (m2 l ty ks ty2 x) [((n:Int)==0)=false,0+0+n*65≤(ah l).length,n≤c,((ah l).drop (0+0)).take (n*65)=ah (au (((ah l).drop (0+0)).take (n*65))),(au (((ah l).drop (0+0)).take (n*65))).length=n,n<bg,1≤n,aT (au (((ah l).drop (0+0)).take (n*65))),aL (au (((ah l).drop (0+0)).take (n*65)))=true,cNd.enc (aP H (au (((ah l).drop (0+0)).take (n*65))))=cNd.enc x]:=by delta oX;kernel_rfl
theorem a1 (own:Bool) (x:Nd) (g:Nat→SV):oX (ΓB H hH) 300 A1 (fill g 0 (M0 n c m mc own )) (m2 l ty ks ty2 x) [] .normal (MZ n c m mc own 0) (m2 l ty ks ty2 x) []:=by delta oX;kernel_rfl
theorem zno (own:Bool) (x:Nd) (j j':Int) (y:B32) (g:Nat→SV):oN [0,1,2] (ΓB H hH) 100 L (fill g 0 (MZ n c m mc own j)) (m2 l ty ks ty2 x) [(22,[.b true]),(24,[.ds (cB32.enc y)]),(27,[.s (ay.enc false)]),(32,[.n j'])] .normal (MZ n c m mc own j') (m2 l ty ks ty2 x) [decide (j<m)=true,0≤j,j<m,0+offI 0 j 32+32≤(aR ks).length,SV.o (.g (aI (aR ks) (0+offI 0 j 32) 32))=cB32.enc y,BOk x.pre,BOk y,ay.enc (holdsV x y)=ay.enc false,IntKind.i64.wrap (j+1)=j']:=by delta oN;kernel_rfl
theorem zyes (own:Bool) (x:Nd) (j j':Int) (y:B32) (g:Nat→SV):oN [0,1,2,5] (ΓB H hH) 100 L (fill g 0 (MZ n c m mc own j)) (m2 l ty ks ty2 x) [(22,[.b true]),(24,[.ds (cB32.enc y)]),(27,[.s (ay.enc true)]),(30,[.dyn]),(32,[.n j'])] .normal (MP n c m mc own j' 1) (m3 l ty ks ty2 x (bvals y) 1 none) [decide (j<m)=true,0≤j,j<m,0+offI 0 j 32+32≤(aR ks).length,SV.o (.g (aI (aR ks) (0+offI 0 j 32) 32))=cB32.enc y,BOk x.pre,BOk y,ay.enc (holdsV x y)=ay.enc true,32=1*32,0+0+1*32≤(bvals y).length,0<1,Room Tryd.prog 24 1,IntKind.i64.wrap (j+1)=j']:=by delta oN;kernel_rfl
theorem pno (own:Bool) (x:Nd) (j j':Int) (y:B32) (vs:List Value) (lo:Nat) (hi:Option Nat) (h:Nat) (g:Nat→SV):oN [0,1,2,3] (ΓB H hH) 100 L (fill g 0 (MP n c m mc own j h)) (m3 l ty ks ty2 x vs lo hi) [(22,[.b true]),(24,[.ds (cB32.enc y)]),(27,[.s (ay.enc false)]),(32,[.n j'])] .normal (MP n c m mc own j' h) (m3 l ty ks ty2 x vs lo hi) [decide (j<m)=true,0≤j,j<m,0+offI 0 j 32+32≤(aR ks).length,SV.o (.g (aI (aR ks) (0+offI 0 j 32) 32))=cB32.enc y,BOk x.pre,BOk y,ay.enc (holdsV x y)=ay.enc false,IntKind.i64.wrap (j+1)=j']:=by delta oN;kernel_rfl
theorem pyg (own:Bool) (x:Nd) (j j':Int) (y:B32) (vs:List Value) (h:Nat) (g:Nat→SV):oN [0,1,2,3] (ΓB H hH) 100 L (fill g 0 (MP n c m mc own j h)) (m3 l ty ks ty2 x vs (h+1) none) [(22,[.b true]),(24,[.ds (cB32.enc y)]),(27,[.s (ay.enc true)]),(30,[.dyn]),(31,[.dyn]),(32,[.n j'])] .normal (MP n c m mc own j' (h+1)) (m3 l ty ks ty2 x (vs++bvals y) (h+1) none) [decide (j<m)=true,0≤j,j<m,0+offI 0 j 32+32≤(aR ks).length,SV.o (.g (aI (aR ks) (0+offI 0 j 32) 32))=cB32.enc y,BOk x.pre,BOk y,ay.enc (holdsV x y)=ay.enc true,32=1*32,0+0+1*32≤(bvals y).length,h*32=vs.length,h+1≤h+1,∀v∈bvals y,v.oneCell'=true,IntKind.i64.wrap (j+1)=j']:=by delta oN;kernel_rfl
theorem pyr (own:Bool) (x:Nd) (j j':Int) (y:B32) (vs:List Value) (lo:Nat) (h:Nat) (g:Nat→SV):oN [0,1,2,6] (ΓB H hH) 100 L (fill g 0 (MP n c m mc own j h)) (m3 l ty ks ty2 x vs lo (some (h+1))) [(22,[.b true]),(24,[.ds (cB32.enc y)]),(27,[.s (ay.enc true)]),(30,[.dyn]),(31,[.dyn]),(32,[.n j'])] .normal (MP n c m mc own j' (h+1)) (m3 l ty ks ty2 x (vs++bvals y) (h+1) none) [decide (j<m)=true,0≤j,j<m,0+offI 0 j 32+32≤(aR ks).length,SV.o (.g (aI (aR ks) (0+offI 0 j 32) 32))=cB32.enc y,BOk x.pre,BOk y,ay.enc (holdsV x y)=ay.enc true,32=1*32,0+0+1*32≤(bvals y).length,h*32=vs.length,h+1≤h+1,Room Tryd.prog 24 (h+1),IntKind.i64.wrap (j+1)=j']:=by delta oN;kernel_rfl
theorem outz (own:Bool) (x:Nd) (j:Int) (g:Nat→SV):oX (ΓB H hH) 300 L (fill g 0 (MZ n c m mc own j)) (m2 l ty ks ty2 x) [(22,[.b false])] (.exit 0) (M0 n c m mc own) (m2 l ty ks ty2 x) [decide (j<m)=false]:=by delta oX;kernel_rfl
theorem outp (own:Bool) (x:Nd) (j:Int) (vs:List Value) (lo:Nat) (hi:Option Nat) (h:Nat) (g:Nat→SV):oX (ΓB H hH) 300 L (fill g 0 (MP n c m mc own j h)) (m3 l ty ks ty2 x vs lo hi) [(22,[.b false])] (.exit 0) (MQ n c m mc own h) (m3 l ty ks ty2 x vs lo hi) [decide (j<m)=false]:=by delta oX;kernel_rfl
theorem r1 (own:Bool) (x:Nd) (g:Nat→SV):oN [0,1,3] (ΓB H hH) 100 B2 (fill g 0 (M0 n c m mc own )) (m2 l ty ks ty2 x) [(44,[.dyn])] .ret (MR 1) (mr l ty ks ty2 x.vals 1) [65=1*65]:=by delta oN;kernel_rfl
theorem r2 (x:Nd) (vs:List Value) (lo:Nat) (hi:Option Nat) (h:Nat) (g:Nat→SV):oN [0,1,4] (ΓB H hH) 100 B2 (fill g 0 (MQ n c m mc true h)) (m3 l ty ks ty2 x vs lo hi) [(36,[.b false]),(39,[.b true]),(44,[.dyn])] .ret (MR 1) (mr l ty ks ty2 x.vals 1) [((h:Int)==0)=false,((n:Int)==1)=true,65=1*65]:=by delta oN;kernel_rfl
theorem r3 (x:Nd) (vs:List Value) (lo:Nat) (hi:Option Nat) (h:Nat) (g:Nat→SV):oN [0,1] (ΓB H hH) 100 B2 (fill g 0 (MQ n c m mc false h)) (m3 l ty ks ty2 x vs lo hi) [(36,[.b false]),(39,[.b true]),(48,[.b true])] .ret (MN) (m0 l ty ks ty2) [((h:Int)==0)=false,((n:Int)==1)=true,((n:Int)==1)=true]:=by delta oN;kernel_rfl
theorem r4 (own:Bool) (x:Nd) (vs:List Value) (lo:Nat) (hi:Option Nat) (h:Nat) (g:Nat→SV):oN [0,1,3] (ΓB H hH) 100 B2 (fill g 0 (MQ n c m mc own h)) (m3 l ty ks ty2 x vs lo hi) [(36,[.b false]),(39,[.b false]),(48,[.b false])] .normal (M3 n c own h) (m4 l ty ks ty2 vs lo hi) [((h:Int)==0)=false,((n:Int)==1)=false,((n:Int)==1)=false]:=by delta oN;kernel_rfl
end
section
variable (H:Nd→Nd→B32)
theorem sp (hH:H=hV) (l:List Nd) (n c:Nat) (ty:TypeId) (ks:List B32) (ty2:TypeId) (own:Bool) (vs:List Value) (lo:Nat) (hi:Option Nat) (h k o:Nat) (z:Int) (g:Nat→SV):oX (ΓB H hH) 300 R16 (fill g 0 (M3 n c own h)) (m4 l ty ks ty2 vs lo hi) [(51,[.s (.t [.a (.sld 0 0 0 k c),.a (.sld 0 0 o (n-k) (c-k)),.a (int1 .i64 z)])])] .normal (M4 n c own h k o) (m4 l ty ks ty2 vs lo hi) [0+0+n*65≤(ah l).length,n≤c,((ah l).drop (0+0)).take (n*65)=ah (au (((ah l).drop (0+0)).take (n*65))),(au (((ah l).drop (0+0)).take (n*65))).length=n,n<bg,2≤n,aT (au (((ah l).drop (0+0)).take (n*65))),aL (au (((ah l).drop (0+0)).take (n*65)))=true,SV.t [.a (.sld 0 0 0 (splK (au (((ah l).drop (0+0)).take (n*65))) (topC (au (((ah l).drop (0+0)).take (n*65))))) c),.a (.sld 0 0 (0+(0+(splK (au (((ah l).drop (0+0)).take (n*65))) (topC (au (((ah l).drop (0+0)).take (n*65)))))*65)) (n-(splK (au (((ah l).drop (0+0)).take (n*65))) (topC (au (((ah l).drop (0+0)).take (n*65)))))) (c-(splK (au (((ah l).drop (0+0)).take (n*65))) (topC (au (((ah l).drop (0+0)).take (n*65))))))),.a (int1 .i64 (topC (au (((ah l).drop (0+0)).take (n*65))):Nat))]=SV.t [.a (.sld 0 0 0 k c),.a (.sld 0 0 o (n-k) (c-k)),.a (int1 .i64 z)]]:=by delta oX;kernel_rfl
theorem c1P (l:List Nd) (n c:Nat) (ty:TypeId) (ks:List B32) (ty2:TypeId) (own:Bool) (N:Nat) (ih:IH H N) (vs:List Value) (lo:Nat) (h k o:Nat) (g:Nat→SV):oT (ΓP H N ih) R17 0 4 (fill g 0 (M4 n c own h k o)) (m4 l ty ks ty2 vs lo none) [] (MVP n c own h k o (aroV H own (au (((ah l).drop (0+0)).take (k*65))) (aN ((vs.drop (0+0)).take (h*32)))).length) (m5 l ty ks ty2 vs lo none (ah (aroV H own (au (((ah l).drop (0+0)).take (k*65))) (aN ((vs.drop (0+0)).take (h*32))))) (aroV H own (au (((ah l).drop (0+0)).take (k*65))) (aN ((vs.drop (0+0)).take (h*32)))).length none) [0+0+k*65≤(ah l).length,k≤c,0+0+h*32≤vs.length,h≤lo,((ah l).drop (0+0)).take (k*65)=ah (au (((ah l).drop (0+0)).take (k*65))),(au (((ah l).drop (0+0)).take (k*65))).length=k,k<N,aT (au (((ah l).drop (0+0)).take (k*65))),aL (au (((ah l).drop (0+0)).take (k*65)))=true,(vs.drop (0+0)).take (h*32)=aR (aN ((vs.drop (0+0)).take (h*32))),(aN ((vs.drop (0+0)).take (h*32))).length=h,h≤4000000,AllB (aN ((vs.drop (0+0)).take (h*32))),(aroV H own (au (((ah l).drop (0+0)).take (k*65))) (aN ((vs.drop (0+0)).take (h*32))))≠[]]:=by delta oT;kernel_rfl
theorem c1Z (l:List Nd) (n c:Nat) (ty:TypeId) (ks:List B32) (ty2:TypeId) (own:Bool) (N:Nat) (ih:IH H N) (vs:List Value) (lo:Nat) (h k o:Nat) (g:Nat→SV):oT (ΓZ H N ih) R17 0 4 (fill g 0 (M4 n c own h k o)) (m4 l ty ks ty2 vs lo none) [] (MVZ n c own h k o) (m4 l ty ks ty2 vs lo none) [0+0+k*65≤(ah l).length,k≤c,0+0+h*32≤vs.length,h≤lo,((ah l).drop (0+0)).take (k*65)=ah (au (((ah l).drop (0+0)).take (k*65))),(au (((ah l).drop (0+0)).take (k*65))).length=k,k<N,aT (au (((ah l).drop (0+0)).take (k*65))),aL (au (((ah l).drop (0+0)).take (k*65)))=true,(vs.drop (0+0)).take (h*32)=aR (aN ((vs.drop (0+0)).take (h*32))),(aN ((vs.drop (0+0)).take (h*32))).length=h,h≤4000000,AllB (aN ((vs.drop (0+0)).take (h*32))),(aroV H own (au (((ah l).drop (0+0)).take (k*65))) (aN ((vs.drop (0+0)).take (h*32))))=[]]:=by delta oT;kernel_rfl
theorem cPg (l:List Nd) (n c:Nat) (ty:TypeId) (ks:List B32) (ty2:TypeId) (own:Bool) (N:Nat) (ih:IH H N) (vs:List Value) (lo:Nat) (h k o:Nat) (us:List Value) (u:Nat) (g:Nat→SV):oU [0,1,3] (ΓP H N ih) R17 4 6 (fill g 0 (MVP n c own h k o u)) (m5 l ty ks ty2 vs lo none us (u+(aroV H own (au (((ah l).drop (0+o)).take ((n-k)*65))) (aN ((vs.drop (0+0)).take (h*32)))).length) none) [(63,[.dyn])] (MR (u+(aroV H own (au (((ah l).drop (0+o)).take ((n-k)*65))) (aN ((vs.drop (0+0)).take (h*32)))).length)) (mr l ty ks ty2 (us++((ah (aroV H own (au (((ah l).drop (0+o)).take ((n-k)*65))) (aN ((vs.drop (0+0)).take (h*32))))).drop (0+0)).take ((aroV H own (au (((ah l).drop (0+o)).take ((n-k)*65))) (aN ((vs.drop (0+0)).take (h*32)))).length*65)) (u+(aroV H own (au (((ah l).drop (0+o)).take ((n-k)*65))) (aN ((vs.drop (0+0)).take (h*32)))).length)) [0+o+(n-k)*65≤(ah l).length,(n-k)≤(c-k),0+0+h*32≤vs.length,h≤lo,((ah l).drop (0+o)).take ((n-k)*65)=ah (au (((ah l).drop (0+o)).take ((n-k)*65))),(au (((ah l).drop (0+o)).take ((n-k)*65))).length=(n-k),(n-k)<N,aT (au (((ah l).drop (0+o)).take ((n-k)*65))),aL (au (((ah l).drop (0+o)).take ((n-k)*65)))=true,(vs.drop (0+0)).take (h*32)=aR (aN ((vs.drop (0+0)).take (h*32))),(aN ((vs.drop (0+0)).take (h*32))).length=h,h≤4000000,AllB (aN ((vs.drop (0+0)).take (h*32))),(aroV H own (au (((ah l).drop (0+o)).take ((n-k)*65))) (aN ((vs.drop (0+0)).take (h*32))))≠[],0+0+(aroV H own (au (((ah l).drop (0+o)).take ((n-k)*65))) (aN ((vs.drop (0+0)).take (h*32)))).length*65≤(ah (aroV H own (au (((ah l).drop (0+o)).take ((n-k)*65))) (aN ((vs.drop (0+0)).take (h*32))))).length,u*65=us.length,u+(aroV H own (au (((ah l).drop (0+o)).take ((n-k)*65))) (aN ((vs.drop (0+0)).take (h*32)))).length≤u+(aroV H own (au (((ah l).drop (0+o)).take ((n-k)*65))) (aN ((vs.drop (0+0)).take (h*32)))).length,∀v∈((ah (aroV H own (au (((ah l).drop (0+o)).take ((n-k)*65))) (aN ((vs.drop (0+0)).take (h*32))))).drop (0+0)).take ((aroV H own (au (((ah l).drop (0+o)).take ((n-k)*65))) (aN ((vs.drop (0+0)).take (h*32)))).length*65),v.oneCell'=true]:=by delta oU;kernel_rfl
theorem cPr (l:List Nd) (n c:Nat) (ty:TypeId) (ks:List B32) (ty2:TypeId) (own:Bool) (N:Nat) (ih:IH H N) (vs:List Value) (lo:Nat) (h k o:Nat) (us:List Value) (u ul:Nat) (g:Nat→SV):oU [0,1,5] (ΓP H N ih) R17 4 6 (fill g 0 (MVP n c own h k o u)) (m5 l ty ks ty2 vs lo none us ul (some (u+(aroV H own (au (((ah l).drop (0+o)).take ((n-k)*65))) (aN ((vs.drop (0+0)).take (h*32)))).length))) [(63,[.dyn])] (MR (u+(aroV H own (au (((ah l).drop (0+o)).take ((n-k)*65))) (aN ((vs.drop (0+0)).take (h*32)))).length)) (mr l ty ks ty2 (us++((ah (aroV H own (au (((ah l).drop (0+o)).take ((n-k)*65))) (aN ((vs.drop (0+0)).take (h*32))))).drop (0+0)).take ((aroV H own (au (((ah l).drop (0+o)).take ((n-k)*65))) (aN ((vs.drop (0+0)).take (h*32)))).length*65)) (u+(aroV H own (au (((ah l).drop (0+o)).take ((n-k)*65))) (aN ((vs.drop (0+0)).take (h*32)))).length)) [0+o+(n-k)*65≤(ah l).length,(n-k)≤(c-k),0+0+h*32≤vs.length,h≤lo,((ah l).drop (0+o)).take ((n-k)*65)=ah (au (((ah l).drop (0+o)).take ((n-k)*65))),(au (((ah l).drop (0+o)).take ((n-k)*65))).length=(n-k),(n-k)<N,aT (au (((ah l).drop (0+o)).take ((n-k)*65))),aL (au (((ah l).drop (0+o)).take ((n-k)*65)))=true,(vs.drop (0+0)).take (h*32)=aR (aN ((vs.drop (0+0)).take (h*32))),(aN ((vs.drop (0+0)).take (h*32))).length=h,h≤4000000,AllB (aN ((vs.drop (0+0)).take (h*32))),(aroV H own (au (((ah l).drop (0+o)).take ((n-k)*65))) (aN ((vs.drop (0+0)).take (h*32))))≠[],0+0+(aroV H own (au (((ah l).drop (0+o)).take ((n-k)*65))) (aN ((vs.drop (0+0)).take (h*32)))).length*65≤(ah (aroV H own (au (((ah l).drop (0+o)).take ((n-k)*65))) (aN ((vs.drop (0+0)).take (h*32))))).length,u*65=us.length,u+(aroV H own (au (((ah l).drop (0+o)).take ((n-k)*65))) (aN ((vs.drop (0+0)).take (h*32)))).length≤u+(aroV H own (au (((ah l).drop (0+o)).take ((n-k)*65))) (aN ((vs.drop (0+0)).take (h*32)))).length,Room Tryd.prog 33 (u+(aroV H own (au (((ah l).drop (0+o)).take ((n-k)*65))) (aN ((vs.drop (0+0)).take (h*32)))).length)]:=by delta oU;kernel_rfl
theorem cZP (l:List Nd) (n c:Nat) (ty:TypeId) (ks:List B32) (ty2:TypeId) (own:Bool) (N:Nat) (ih:IH H N) (vs:List Value) (lo:Nat) (h k o:Nat) (g:Nat→SV):oU [0,1,4] (ΓP H N ih) R17 4 6 (fill g 0 (MVZ n c own h k o)) (m4 l ty ks ty2 vs lo none) [] (MR (aroV H own (au (((ah l).drop (0+o)).take ((n-k)*65))) (aN ((vs.drop (0+0)).take (h*32)))).length) (mr l ty ks ty2 (((ah (aroV H own (au (((ah l).drop (0+o)).take ((n-k)*65))) (aN ((vs.drop (0+0)).take (h*32))))).drop (0+0)).take ((aroV H own (au (((ah l).drop (0+o)).take ((n-k)*65))) (aN ((vs.drop (0+0)).take (h*32)))).length*65)) (aroV H own (au (((ah l).drop (0+o)).take ((n-k)*65))) (aN ((vs.drop (0+0)).take (h*32)))).length) [0+o+(n-k)*65≤(ah l).length,(n-k)≤(c-k),0+0+h*32≤vs.length,h≤lo,((ah l).drop (0+o)).take ((n-k)*65)=ah (au (((ah l).drop (0+o)).take ((n-k)*65))),(au (((ah l).drop (0+o)).take ((n-k)*65))).length=(n-k),(n-k)<N,aT (au (((ah l).drop (0+o)).take ((n-k)*65))),aL (au (((ah l).drop (0+o)).take ((n-k)*65)))=true,(vs.drop (0+0)).take (h*32)=aR (aN ((vs.drop (0+0)).take (h*32))),(aN ((vs.drop (0+0)).take (h*32))).length=h,h≤4000000,AllB (aN ((vs.drop (0+0)).take (h*32))),(aroV H own (au (((ah l).drop (0+o)).take ((n-k)*65))) (aN ((vs.drop (0+0)).take (h*32))))≠[],0+0+(aroV H own (au (((ah l).drop (0+o)).take ((n-k)*65))) (aN ((vs.drop (0+0)).take (h*32)))).length*65≤(ah (aroV H own (au (((ah l).drop (0+o)).take ((n-k)*65))) (aN ((vs.drop (0+0)).take (h*32))))).length,0<(aroV H own (au (((ah l).drop (0+o)).take ((n-k)*65))) (aN ((vs.drop (0+0)).take (h*32)))).length,Room Tryd.prog 33 (aroV H own (au (((ah l).drop (0+o)).take ((n-k)*65))) (aN ((vs.drop (0+0)).take (h*32)))).length]:=by delta oU;kernel_rfl
theorem cPZ (l:List Nd) (n c:Nat) (ty:TypeId) (ks:List B32) (ty2:TypeId) (own:Bool) (N:Nat) (ih:IH H N) (vs:List Value) (lo:Nat) (h k o:Nat) (us:List Value) (u:Nat) (g:Nat→SV):oU [0,1,3] (ΓZ H N ih) R17 4 6 (fill g 0 (MVP n c own h k o u)) (m5 l ty ks ty2 vs lo none us u none) [(63,[.dyn])] (MR (u+0)) (mr l ty ks ty2 (us++[]) u) [0+o+(n-k)*65≤(ah l).length,(n-k)≤(c-k),0+0+h*32≤vs.length,h≤lo,((ah l).drop (0+o)).take ((n-k)*65)=ah (au (((ah l).drop (0+o)).take ((n-k)*65))),(au (((ah l).drop (0+o)).take ((n-k)*65))).length=(n-k),(n-k)<N,aT (au (((ah l).drop (0+o)).take ((n-k)*65))),aL (au (((ah l).drop (0+o)).take ((n-k)*65)))=true,(vs.drop (0+0)).take (h*32)=aR (aN ((vs.drop (0+0)).take (h*32))),(aN ((vs.drop (0+0)).take (h*32))).length=h,h≤4000000,AllB (aN ((vs.drop (0+0)).take (h*32))),(aroV H own (au (((ah l).drop (0+o)).take ((n-k)*65))) (aN ((vs.drop (0+0)).take (h*32))))=[],u*65=us.length,u+0≤u,∀v∈([]:List Value),v.oneCell'=true]:=by delta oU;kernel_rfl
theorem cZZ (l:List Nd) (n c:Nat) (ty:TypeId) (ks:List B32) (ty2:TypeId) (own:Bool) (N:Nat) (ih:IH H N) (vs:List Value) (lo:Nat) (h k o:Nat) (g:Nat→SV):oU [0,1] (ΓZ H N ih) R17 4 6 (fill g 0 (MVZ n c own h k o)) (m4 l ty ks ty2 vs lo none) [(63,[.dyn])] (MN) (m0 l ty ks ty2) [0+o+(n-k)*65≤(ah l).length,(n-k)≤(c-k),0+0+h*32≤vs.length,h≤lo,((ah l).drop (0+o)).take ((n-k)*65)=ah (au (((ah l).drop (0+o)).take ((n-k)*65))),(au (((ah l).drop (0+o)).take ((n-k)*65))).length=(n-k),(n-k)<N,aT (au (((ah l).drop (0+o)).take ((n-k)*65))),aL (au (((ah l).drop (0+o)).take ((n-k)*65)))=true,(vs.drop (0+0)).take (h*32)=aR (aN ((vs.drop (0+0)).take (h*32))),(aN ((vs.drop (0+0)).take (h*32))).length=h,h≤4000000,AllB (aN ((vs.drop (0+0)).take (h*32))),(aroV H own (au (((ah l).drop (0+o)).take ((n-k)*65))) (aN ((vs.drop (0+0)).take (h*32))))=[],0=0]:=by delta oU;kernel_rfl
theorem en (hH:H=hV) (l:List Nd) (ty:TypeId) (ks:List B32) (ty2:TypeId) (g:Nat→SV):oX (ΓB H hH) 300 Z (fill g 0 (MN )) (m0 l ty ks ty2) [] .ret (MN) (m0 l ty ks ty2) []:=by delta oX;kernel_rfl
theorem er (hH:H=hV) (l:List Nd) (ty:TypeId) (ks:List B32) (ty2:TypeId) (us:List Value) (u r:Nat) (g:Nat→SV):oX (ΓB H hH) 300 Z (fill g 0 (MR r)) (mr l ty ks ty2 us u) [] .ret (MR r) (mr l ty ks ty2 us u) []:=by delta oX;kernel_rfl
end
theorem zn (l:List Nd) (ty:TypeId) (ks:List B32) (ty2:TypeId) (g:Nat→SV):eRes tys (fill g 0 (MN )) (fun k=>(m0 l ty ks ty2 )[k]?) fn.results.toList=some [.a (.v (.slice none 0 0))]:=by kernel_rfl
theorem zr (l:List Nd) (ty:TypeId) (ks:List B32) (ty2:TypeId) (us:List Value) (u r:Nat) (g:Nat→SV):eRes tys (fill g 0 (MR r)) (fun k=>(mr l ty ks ty2 us u)[k]?) fn.results.toList=some [.a (.slg 2 r)]:=by kernel_rfl
theorem nil1:((opsOf R17).toList.drop 4).drop 6=[]:=by kernel_rfl
end tar
end Go.Proofs.YtdccehmekkcheaaDoor
namespace Go.Proofs.YtdccehmekkcheaaDoor
open Go Go.Eng Go.RowKit
set_option linter.unusedVariables false
set_option linter.unusedSimpArgs false
set_option maxRecDepth 100000
theorem dtb {l:List B32} {n:Nat} (hn:l.length=n):((aR l).drop (0+0)).take (n*32)=aR l:=by
 rw[Nat.add_zero,List.drop_zero,List.take_of_length_le (by rw[wvals_len];omega)]
theorem AllB.at {l:List B32} (h:AllB l) {i:Nat} (hi:i<l.length):BOk (l.getD i zB):=h _ (bI hi _)
theorem AllB.filter {l:List B32} (h:AllB l) (p:B32→Bool):AllB (l.filter p):=fun x hx=>h x (List.mem_filter.1 hx).1
theorem filt_succ {l:List B32} {i:Nat} (h:i<l.length) (p:B32→Bool):(l.take (i+1)).filter p=bif p (l.getD i zB) then (l.take i).filter p++[l.getD i zB] else (l.take i).filter p:=by
 rw[List.take_succ_eq_append_getElem h,List.filter_append,getD_lt h]
 cases hp:p l[i] with
 | true=>rw[cond_true,List.filter_cons_of_pos hp];rfl
 | false=>rw[cond_false,List.filter_cons_of_neg (by rw[hp];decide)];simp
theorem filt_bound {l:List B32} {p:B32→Bool}:(l.filter p).length≤l.length:=List.length_filter_le _ _
theorem roomL (n:Nat) (h:n≤4000000):Room Tryd.prog 24 n:=by
 have h1:(Tryd.prog.info? 24).map (·.bytes)=some 32:=by kernel_rfl
 cases hq:Tryd.prog.info? 24 with
 | none=>rw[hq] at h1;cases h1
 | some j=>
  rw[hq] at h1
  have:j.bytes=32:=by simpa using h1
  exact⟨j,hq,by rw[this];omega,by omega⟩
theorem oneB (b:B32):∀v∈bvals b,v.oneCell'=true:=fun v hv=>by
 unfold bvals at hv
 obtain⟨i,_,rfl⟩:=List.mem_map.1 hv
 rfl
theorem oneVs (l:List Nd):∀v∈ah l,v.oneCell'=true:=fun v hv=>by
 obtain⟨x,_,hx⟩:=List.mem_flatMap.1 hv
 exact oneV x v hx
section
variable (H:Nd→Nd→B32)
theorem aro_nil (own:Bool) (f:Nat) (ks:List B32):aroF H own f [] ks=[]:=by cases f<;>rfl
theorem aro_fuel (own:Bool):∀(f g:Nat) (l:List Nd) (ks:List B32),Ap l→l.length≤f→l.length≤g→aroF H own f l ks=aroF H own g l ks
 | 0,g,l,ks,_,hf,_=>by obtain rfl:=List.eq_nil_of_length_eq_zero (Nat.le_zero.1 hf);rw[aro_nil,aro_nil]
 | f+1,0,l,ks,_,_,hg=>by obtain rfl:=List.eq_nil_of_length_eq_zero (Nat.le_zero.1 hg);rw[aro_nil,aro_nil]
 | f+1,g+1,l,ks,h,hf,hg=>by
  rcases Nat.lt_or_ge l.length 2 with h2 | h2
  ·rw[aroF,aroF]
   cases b0:Nat.beq l.length 0 with
   | true=>rfl
   | false=>
    have b1:Nat.beq l.length 1=true:=by
     rw[←Bool.not_eq_true,Nat.beq_eq] at b0
     rw[Nat.beq_eq];omega
    rw[b1];rfl
  ·have s:=halves h h2
   have k0:=s.k0
   have kl:=s.kl
   have a:=aro_fuel own f g (l.take (splK l (topC l))) (ks.filter (holdsV (aP H l))) (ap_take h _) (by rw[List.length_take];omega) (by rw[List.length_take];omega)
   have b:=aro_fuel own f g (l.drop (splK l (topC l))) (ks.filter (holdsV (aP H l))) (ap_drop h _) (by rw[List.length_drop];omega) (by rw[List.length_drop];omega)
   rw[aroF,aroF,a,b]
theorem aroV_nil (own:Bool) (ks:List B32):aroV H own [] ks=[]:=aro_nil H own _ ks
theorem witV_nil (own:Bool) (ks:List B32):witV H own [] ks=[]:=wit_nil H own _ ks
theorem len0 {l:List B32}:Nat.beq l.length 0=true↔l=[]:=by rw[Nat.beq_eq,List.length_eq_zero_iff]
theorem len0f {l:List B32} (h:l≠[]):Nat.beq l.length 0=false:=by rw[←Bool.not_eq_true,len0];exact h
theorem aroV_one {l:List Nd} (own:Bool) (ks:List B32) (h1:1≤l.length) (hc:ks.filter (holdsV (aP H l))=[]∨(l.length=1∧own=true)):aroV H own l ks=[aP H l]:=by
 unfold aroV
 obtain⟨f,hf⟩:∃f,l.length=f+1:=⟨l.length-1,by omega⟩
 have b0:Nat.beq l.length 0=false:=by rw[←Bool.not_eq_true,Nat.beq_eq];omega
 have e:aroF H own l.length l ks=aroF H own (f+1) l ks:=by rw[←hf]
 rw[e,aroF,b0,cond_false]
 rcases hc with h | ⟨h,rfl⟩
 ·rw[len0.2 h];rfl
 ·rw[h,show(Nat.beq 1 1&&true)=true from rfl,Bool.or_true,cond_true]
theorem aroV_gone {l:List Nd} (ks:List B32) (h1:l.length=1) (hc:ks.filter (holdsV (aP H l))≠[]):aroV H false l ks=[]:=by
 unfold aroV
 rw[h1,aroF,h1,len0f hc]
 rfl
theorem aroV_two {l:List Nd} (h:Ap l) (h2:2≤l.length) (own:Bool) (ks:List B32) (hc:ks.filter (holdsV (aP H l))≠[]):
  aroV H own l ks=aroV H own (l.take (splK l (topC l))) (ks.filter (holdsV (aP H l)))++aroV H own (l.drop (splK l (topC l))) (ks.filter (holdsV (aP H l))):=by
 obtain⟨f,hf⟩:∃f,l.length=f+1:=⟨l.length-1,by omega⟩
 have s:=halves h h2
 have k0:=s.k0
 have kl:=s.kl
 have b0:Nat.beq l.length 0=false:=by rw[←Bool.not_eq_true,Nat.beq_eq];omega
 have b1:Nat.beq l.length 1=false:=by rw[←Bool.not_eq_true,Nat.beq_eq];omega
 have e:aroV H own l ks=aroF H own (f+1) l ks:=by unfold aroV;rw[←hf]
 rw[e,aroF,b0,b1,len0f hc,cond_false,Bool.false_and,Bool.false_or,cond_false,cond_false]
 unfold aroV
 rw[aro_fuel H own f _ _ _ (ap_take h _) (by rw[List.length_take];omega) (Nat.le_refl _),aro_fuel H own f _ _ _ (ap_drop h _) (by rw[List.length_drop];omega) (Nat.le_refl _)]
theorem witV_one {l:List Nd} (own:Bool) (ks:List B32) (h1:1≤l.length) (hc:ks.any (holdsV (aP H l))=false∨(l.length=1∧own=true)):witV H own l ks=[aP H l]:=by
 unfold witV
 obtain⟨f,hf⟩:∃f,l.length=f+1:=⟨l.length-1,by omega⟩
 have b0:Nat.beq l.length 0=false:=by rw[←Bool.not_eq_true,Nat.beq_eq];omega
 have e:witF H own l.length l ks=witF H own (f+1) l ks:=by rw[←hf]
 rw[e,witF,b0,cond_false]
 rcases hc with h | ⟨h,rfl⟩
 ·rw[h];rfl
 ·rw[h,show(Nat.beq 1 1&&true)=true from rfl,Bool.or_true,cond_true]
variable (hH:∀a b,BOk (H a b))
include hH
theorem aroV_wit (own:Bool) {l:List Nd} (h:Ap l) (ks:List B32):aroV H own l ks=witV H own l ks:=aro_wit H hH own _ l ks ks h fun _ _=>Iff.rfl
theorem witV_spec (own:Bool) {l:List Nd} (h:Ap l) (h0:l≠[]) (ks:List B32):Wit H own l l ks (witV H own l ks):=wit_spec H hH own h ks _ l (full_self H hH h h0) (Nat.le_refl _)
theorem witV_len (own:Bool) {l:List Nd} (h:Ap l) (ks:List B32):(witV H own l ks).length≤l.length:=by
 by_cases h0:l=[]
 ·subst h0;rw[witV_nil];exact Nat.le_refl _
 ·exact(witV_spec H hH own h h0 ks).len
theorem aroV_len (own:Bool) {l:List Nd} (h:Ap l) (ks:List B32):(aroV H own l ks).length≤l.length:=by rw[aroV_wit H hH own h];exact witV_len H hH own h ks
end
end Go.Proofs.YtdccehmekkcheaaDoor

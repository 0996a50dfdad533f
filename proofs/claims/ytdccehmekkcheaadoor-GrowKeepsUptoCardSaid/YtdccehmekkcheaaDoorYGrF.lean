/- Package beaconref12: Stays: facts of the walk. -/
import Derived.Test.YtdccehmekkcheaaDoorYFo
import Derived.Test.YtdccehmekkcheaaDoorYGsP
import Derived.Test.YtdccehmekkcheaaDoorYMTE
namespace Go.Proofs.YtdccehmekkcheaaDoor
open Go Go.Eng Go.RowKit
set_option linter.unusedVariables false
set_option linter.unusedSimpArgs false
set_option maxRecDepth 100000
namespace rwi
def k2 (l:List Nd) (ty:TypeId) (x:Nd):List Blk:=[⟨false,ty,.prv (ah l)⟩,⟨true,33,.lit (Nd.row x)⟩]
def kr (l:List Nd) (ty:TypeId) (us:List Value) (u:Nat):List Blk:=[⟨false,ty,.prv (ah l)⟩,⟨true,33,.grv 65 us u none⟩]
def K0 (n c:Nat) (a:Option Addr) (own:Bool):List (Option SV):=aB 65 0 [(0,.o (.a (.sld 0 0 0 n c))),(1,.o (.a (.v (.slice a 0 0)))),(2,.o (.a (.v (.bool own)))),(7,.o (.a (.ptr 1 0))),(8,.o (.a (.v (.bool false))))]
def K1 (n c:Nat) (a:Option Addr) (own:Bool):List (Option SV):=aB 65 0 [(0,.o (.a (.sld 0 0 0 n c))),(1,.o (.a (.v (.slice a 0 0)))),(2,.o (.a (.v (.bool own)))),(7,.o (.a (.ptr 1 0))),(8,.o (.a (.v (.bool false)))),(18,.o (.a (int1 .i64 0))),(19,.o (.a (int1 .i64 0)))]
def KR (a:Option Addr) (r:Nat):List (Option SV):=aB 65 0 [(6,.o (.a (.slg 1 r)))]
theorem k0i (l:List Nd) (n c:Nat) (ty:TypeId) (a:Option Addr) (own:Bool) (x:Nd):oI (K0 n c a own) (k2 l ty x):=by delta oI;kernel_rfl
theorem k1i (l:List Nd) (n c:Nat) (ty:TypeId) (a:Option Addr) (own:Bool) (x:Nd):oI (K1 n c a own) (k2 l ty x):=by delta oI;kernel_rfl
theorem kri (l:List Nd) (ty:TypeId) (a:Option Addr) (us:List Value) (u r:Nat):oI (KR a r) (kr l ty us u):=by delta oI;kernel_rfl
section
variable (H:Nd→Nd→B32) (hH:H=hV) (l:List Nd) (n c:Nat) (ty:TypeId) (a:Option Addr) (own:Bool) (x:Nd)
theorem k0:oX (ΓB H hH) 100 (cpre 4 body) (aI fn [.o (.a (.sld 0 0 0 n c)),.o (.a (.v (.slice a 0 0))),.o (.a (.v (.bool own)))]) [⟨false,ty,.prv (ah l)⟩] [(14,[.b false]),(16,[.s (cNd.enc x)])] .normal (K0 n c a own) (k2 l ty x) [((n:Int)==0)=false,0+0+n*65≤(ah l).length,n≤c,((ah l).drop (0+0)).take (n*65)=ah (au (((ah l).drop (0+0)).take (n*65))),(au (((ah l).drop (0+0)).take (n*65))).length=n,n<bg,1≤n,aN (au (((ah l).drop (0+0)).take (n*65))),aM (au (((ah l).drop (0+0)).take (n*65)))=true,cNd.enc (aQ H (au (((ah l).drop (0+0)).take (n*65))))=cNd.enc x]:=by delta oX;kernel_rfl
theorem ka1 (g:Nat→SV):oX (ΓB H hH) 100 A1 (fill g 0 (K0 n c a own )) (k2 l ty x) [] .normal (K1 n c a own) (k2 l ty x) []:=by delta oX;kernel_rfl
theorem kou (g:Nat→SV):oX (ΓB H hH) 100 L (fill g 0 (K1 n c a own )) (k2 l ty x) [] (.exit 0) (K0 n c a own) (k2 l ty x) []:=by delta oX;kernel_rfl
theorem kr1 (g:Nat→SV):oN [0,2] (ΓB H hH) 100 C10 (fill g 0 (K0 n c a own )) (k2 l ty x) [(43,[.dyn])] .ret (KR a 1) (kr l ty x.vals 1) [65=1*65]:=by delta oN;kernel_rfl
end
theorem kz (l:List Nd) (ty:TypeId) (a:Option Addr) (us:List Value) (u r:Nat) (g:Nat→SV):eRes tys (fill g 0 (KR a r)) (fun k=>(kr l ty us u)[k]?) fn.results.toList=some [.a (.slg 1 r)]:=by kernel_rfl
theorem runL (H:Nd→Nd→B32) (hH:H=hV) (l:List Nd) (n c:Nat) (ty:TypeId) (a:Option Addr) (own:Bool) (hn:l.length=n) (h0:0<n) (hm:n<4000001) (hc:n≤c) (hok:aN l) (hap:aM l=true):aC Tryd.prog GT 1 body (aI fn [.o (.a (.sld 0 0 0 n c)),.o (.a (.v (.slice a 0 0))),.o (.a (.v (.bool own)))]) [⟨false,ty,.prv (ah l)⟩] (aF tys fn (aT (.o (.a (.slg 0 (witV H own l []).length))) (.new 33 (.grv 65 (ah (witV H own l [])) (witV H own l []).length none)))):=by
 have hl:(ah l).length=n*65:=by rw[←hn];exact aV l
 obtain⟨y1,y2⟩:=apN_two n hn
 refine Runs.aW aj mixed 4 (k0 H hH l n c ty a own (aQ H l)) ⟨by rw[←Bool.not_eq_true,beq_iff_eq];omega,by omega,hc,y1,by rw[y2];exact hn,by unfold bg;omega,h0,by rw[y2];exact hok,by rw[y2];exact hap,by rw[y2],trivial⟩ (k0i l n c ty a own _) rfl fun g=> ?_
 rw[bN]
 refine Runs.seq (Runs.seq (Runs.aA aj mixed (ka1 H hH l n c ty a own _ g) trivial (k1i l n c ty a own _) rfl fun g=> ?_))
 refine Runs.block ?_
 refine Runs.bn (fun(_:Unit)=>K1 n c a own ) (fun _=>k2 l ty (aQ H l)) (fun _=>True) (fun _=>0) ?_ () trivial g
 rintro _ g _
 refine Runs.aA aj mixed (kou H hH l n c ty a own _ g) trivial (k0i l n c ty a own _) rfl fun g=> ?_
 show aC _ _ _ _ _ _ _
 refine Runs.seq (Runs.aH aj mixed [0,2] (kr1 H hH l n c ty a own (aQ H l) g) ⟨rfl,trivial⟩ (kri l ty a _ _ _) rfl fun g=> ?_)
 rw[witV_one H own [] (by omega) (.inl rfl)]
 exact aF.ret (kz l ty a _ _ _ g) ⟨1,rfl,by rw[nvals_one];rfl⟩
noncomputable def specL (H:Nd→Nd→B32):List PArg→Option (SV × LEff × Cst)
 | [.winv _ vs n ty,.val (.o (.a (.v (.slice a 0 0)))),.val (.o (.a (.v (.bool own))))]=>some (.o (.a (.slg 0 (witV H own (au vs) []).length)),.new 33 (.grv 65 (ah (witV H own (au vs) [])) (witV H own (au vs) []).length none),[vs=ah (au vs),(au vs).length=n,0<n,n<4000001,aN (au vs),aM (au vs)=true])
 | _=>none
noncomputable def cL (H:Nd→Nd→B32) (hH:H=hV):Con Tryd.prog GT:=Con.parts aj 68 fn Tryd.func68 (by kernel_rfl) (c:=body) (by kernel_rfl) [.winv 65,.winv 32,.val] (specL H)
 (fun ps r e p h hp=>by
  unfold specL at h
  split at h<;>cases h
  exact⟨rfl,fun b hb=>by simp only[aR,PArg.blk,List.append_nil,List.nil_append,List.mem_singleton] at hb;rw[hb]⟩)
 (fun ps r e p cap h hp hi=>by
  unfold specL at h
  split at h<;>cases h
  rename_i s vs n ty a own
  obtain⟨p1,p2,p3,p4,p5,p6,_⟩:=hp
  have q:=runL H hH (au vs) n (cap 0) ty a own p2 p3 p4 hi.1.2 p5 p6
  rw[←p1] at q
  exact q)
end rwi
namespace rst
noncomputable abbrev fn:=Tryd.f43
noncomputable def body:Code:=bG fn
noncomputable def R1:Code:=cs1 (csuf 1 body)
noncomputable def C:Code:=cs1 (csuf 2 body)
noncomputable def S4:Code:=csuf 3 body
noncomputable def A6:Code:=cs1 (cs1 (csuf 2 S4))
noncomputable def L:Code:=cL (cB (cs2 (cs1 (csuf 2 S4))))
noncomputable def Z:Code:=cs2 (csuf 2 S4)
noncomputable def i1:Nat:=match R1 with | .region i _ _=>i | _=>0
theorem suf_1:csuf 1 body= .seq (.region i1 (opsOf R1) false) (.seq C S4):=by kernel_rfl
theorem suf_4:csuf 2 S4= .seq (.seq A6 (.block 0 (.loop L))) Z:=by kernel_rfl
theorem nil1:((opsOf R1).toList.drop 3).drop 8=[]:=by kernel_rfl
theorem nil0:(opsOf R1).toList.drop 11=[]:=by kernel_rfl
noncomputable def ΓE:Cons Tryd.prog GT:=[rnd.conE]
noncomputable def ΓP:Cons Tryd.prog GT:=[rnd.conP]
noncomputable def ΓZ:Cons Tryd.prog GT:=[rnd.conZ]
noncomputable def ΓWP (H:Nd→Nd→B32) (hH:H=hV):Cons Tryd.prog GT:=[rwi.cP H hH]
noncomputable def ΓWL (H:Nd→Nd→B32) (hH:H=hV):Cons Tryd.prog GT:=[rwi.cL H hH]
noncomputable def ΓWN:Cons Tryd.prog GT:=[rwi.cN]
namespace pw
def m0 (A:List Lf) (ty:TypeId) (B:List Lf) (ty2:TypeId):List Blk:=[⟨false,ty,.prv (lvals A)⟩,⟨false,ty2,.prv (lvals B)⟩]
def M0 (n c:Nat) (m d:Nat):List (Option SV):=aB 45 0 [(0,.o (.a (.sld 0 0 0 n c))),(1,.o (.a (.sld 1 0 0 m d)))]
theorem i0 (A:List Lf) (n c:Nat) (ty:TypeId) (B:List Lf) (m d:Nat) (ty2:TypeId):oI (M0 n c m d) (m0 A ty B ty2):=by delta oI;kernel_rfl
def M1 (n c:Nat) (m d:Nat) (t:Bool):List (Option SV):=aB 45 0 [(0,.o (.a (.sld 0 0 0 n c))),(1,.o (.a (.sld 1 0 0 m d))),(7,.o (.a (.v (.bool t))))]
theorem i1 (A:List Lf) (n c:Nat) (ty:TypeId) (B:List Lf) (m d:Nat) (ty2:TypeId) (t:Bool):oI (M1 n c m d t) (m0 A ty B ty2):=by delta oI;kernel_rfl
theorem s0 (A:List Lf) (n c:Nat) (ty:TypeId) (B:List Lf) (m d:Nat) (ty2:TypeId):oX ΓE 300 (cpre 1 body) (aI fn [.o (.a (.sld 0 0 0 n c)),.o (.a (.sld 1 0 0 m d))]) (m0 A ty B ty2) [] .normal (M0 n c m d) (m0 A ty B ty2) []:=by delta oX;kernel_rfl
def MP (n c:Nat) (m d:Nat):List (Option SV):=aB 45 0 [(0,.o (.a (.sld 0 0 0 n c))),(1,.o (.a (.sld 1 0 0 m d))),(15,.o (.a (.slg 2 n)))]
section
variable (A:List Lf)
def m1 (ty:TypeId) (B:List Lf) (ty2:TypeId) (us:List Value) (lo:Nat) (hi:Option Nat):List Blk:=[⟨false,ty,.prv (lvals A)⟩,⟨false,ty2,.prv (lvals B)⟩,⟨true,30,.grv 64 us lo hi⟩]
theorem iP (n c:Nat) (ty:TypeId) (B:List Lf) (m d:Nat) (ty2:TypeId) (us:List Value) (lo:Nat) (hi:Option Nat):oI (MP n c m d) (m1 A ty B ty2 us lo hi):=by delta oI;kernel_rfl
theorem c1 (n c:Nat) (ty:TypeId) (B:List Lf) (m d:Nat) (ty2:TypeId) (g:Nat→SV):oU [0,1,3] ΓE R1 0 3 (fill g 0 (M0 n c m d )) (m0 A ty B ty2) [] (MP n c m d) (m1 A ty B ty2 (((lvals A).drop (0+0)).take (n*64)) n none) [0+0+n*64≤(lvals A).length,0<n,Room Tryd.prog 30 n]:=by delta oU;kernel_rfl
theorem gE (n c:Nat) (ty:TypeId) (B:List Lf) (m d:Nat) (ty2:TypeId) (us:List Value) (g:Nat→SV):oU [0,1] ΓE R1 3 8 (fill g 0 (MP n c m d )) (m1 A ty B ty2 us (n+m) none) [(17,[.dyn])] (M1 n c m d false) (m0 A ty B ty2) [0+0+m*64≤(lvals B).length,n*64=us.length,n+m≤n+m,∀v∈((lvals B).drop (0+0)).take (m*64),v.oneCell'=true,0+0+(n+m)*64≤(us++((lvals B).drop (0+0)).take (m*64)).length,n+m≤n+m,((us++((lvals B).drop (0+0)).take (m*64)).drop (0+0)).take ((n+m)*64)=lvals (ak (((us++((lvals B).drop (0+0)).take (m*64)).drop (0+0)).take ((n+m)*64))),(ak (((us++((lvals B).drop (0+0)).take (m*64)).drop (0+0)).take ((n+m)*64))).length=n+m,n+m≤4000000,AllL (ak (((us++((lvals B).drop (0+0)).take (m*64)).drop (0+0)).take ((n+m)*64))),rndD (ak (((us++((lvals B).drop (0+0)).take (m*64)).drop (0+0)).take ((n+m)*64))) (n+m)=true]:=by delta oU;kernel_rfl
theorem rE (n c:Nat) (ty:TypeId) (B:List Lf) (m d:Nat) (ty2:TypeId) (us:List Value) (lo:Nat) (g:Nat→SV):oU [0,1] ΓE R1 3 8 (fill g 0 (MP n c m d )) (m1 A ty B ty2 us lo (some (n+m))) [(17,[.dyn])] (M1 n c m d false) (m0 A ty B ty2) [0+0+m*64≤(lvals B).length,n*64=us.length,n+m≤n+m,Room Tryd.prog 30 (n+m),0+0+(n+m)*64≤(us++((lvals B).drop (0+0)).take (m*64)).length,n+m≤n+m,((us++((lvals B).drop (0+0)).take (m*64)).drop (0+0)).take ((n+m)*64)=lvals (ak (((us++((lvals B).drop (0+0)).take (m*64)).drop (0+0)).take ((n+m)*64))),(ak (((us++((lvals B).drop (0+0)).take (m*64)).drop (0+0)).take ((n+m)*64))).length=n+m,n+m≤4000000,AllL (ak (((us++((lvals B).drop (0+0)).take (m*64)).drop (0+0)).take ((n+m)*64))),rndD (ak (((us++((lvals B).drop (0+0)).take (m*64)).drop (0+0)).take ((n+m)*64))) (n+m)=true]:=by delta oU;kernel_rfl
theorem gP (n c:Nat) (ty:TypeId) (B:List Lf) (m d:Nat) (ty2:TypeId) (us:List Value) (g:Nat→SV):oU [0,1] ΓP R1 3 8 (fill g 0 (MP n c m d )) (m1 A ty B ty2 us (n+m) none) [(17,[.dyn])] (M1 n c m d true) (m0 A ty B ty2) [0+0+m*64≤(lvals B).length,n*64=us.length,n+m≤n+m,∀v∈((lvals B).drop (0+0)).take (m*64),v.oneCell'=true,0+0+(n+m)*64≤(us++((lvals B).drop (0+0)).take (m*64)).length,n+m≤n+m,((us++((lvals B).drop (0+0)).take (m*64)).drop (0+0)).take ((n+m)*64)=lvals (ak (((us++((lvals B).drop (0+0)).take (m*64)).drop (0+0)).take ((n+m)*64))),(ak (((us++((lvals B).drop (0+0)).take (m*64)).drop (0+0)).take ((n+m)*64))).length=n+m,n+m≤4000000,AllL (ak (((us++((lvals B).drop (0+0)).take (m*64)).drop (0+0)).take ((n+m)*64))),rndD (ak (((us++((lvals B).drop (0+0)).take (m*64)).drop (0+0)).take ((n+m)*64))) (n+m)=false,0<n+m]:=by delta oU;kernel_rfl
theorem rP (n c:Nat) (ty:TypeId) (B:List Lf) (m d:Nat) (ty2:TypeId) (us:List Value) (lo:Nat) (g:Nat→SV):oU [0,1] ΓP R1 3 8 (fill g 0 (MP n c m d )) (m1 A ty B ty2 us lo (some (n+m))) [(17,[.dyn])] (M1 n c m d true) (m0 A ty B ty2) [0+0+m*64≤(lvals B).length,n*64=us.length,n+m≤n+m,Room Tryd.prog 30 (n+m),0+0+(n+m)*64≤(us++((lvals B).drop (0+0)).take (m*64)).length,n+m≤n+m,((us++((lvals B).drop (0+0)).take (m*64)).drop (0+0)).take ((n+m)*64)=lvals (ak (((us++((lvals B).drop (0+0)).take (m*64)).drop (0+0)).take ((n+m)*64))),(ak (((us++((lvals B).drop (0+0)).take (m*64)).drop (0+0)).take ((n+m)*64))).length=n+m,n+m≤4000000,AllL (ak (((us++((lvals B).drop (0+0)).take (m*64)).drop (0+0)).take ((n+m)*64))),rndD (ak (((us++((lvals B).drop (0+0)).take (m*64)).drop (0+0)).take ((n+m)*64))) (n+m)=false,0<n+m]:=by delta oU;kernel_rfl
end
def MN (e:Int):List (Option SV):=aB 45 0 [(4,.o (.a (.v (.slice none 0 0)))),(5,.o (.a (int1 .i64 e)))]
theorem iN (A:List Lf) (ty:TypeId) (B:List Lf) (ty2:TypeId) (e:Int):oI (MN e) (m0 A ty B ty2):=by delta oI;kernel_rfl
section
variable (A:List Lf) (n c:Nat) (ty:TypeId) (B:List Lf) (m d:Nat) (ty2:TypeId) (g:Nat→SV)
theorem tE:oX ΓP 300 C (fill g 0 (M1 n c m d false)) (m0 A ty B ty2) [] .ret (MN 1) (m0 A ty B ty2) []:=by delta oX;kernel_rfl
theorem tO:oX ΓP 300 C (fill g 0 (M1 n c m d true)) (m0 A ty B ty2) [] .normal (M0 n c m d) (m0 A ty B ty2) []:=by delta oX;kernel_rfl
end
theorem zn (A:List Lf) (ty:TypeId) (B:List Lf) (ty2:TypeId) (e:Int) (g:Nat→SV):eRes tys (fill g 0 (MN e)) (fun k=>(m0 A ty B ty2 )[k]?) fn.results.toList=some [.a (.v (.slice none 0 0)),.a (int1 .i64 e)]:=by kernel_rfl
section
variable (A:List Lf) (n:Nat) (ty:TypeId) (B:List Lf) (ty2:TypeId) (vs:List Value)
def m3:List Blk:=[⟨false,ty,.prv (lvals A)⟩,⟨false,ty2,.prv (lvals B)⟩,⟨true,33,.grv 65 vs n none⟩]
def m4 (us:List Value) (lo:Nat) (hi:Option Nat):List Blk:=[⟨false,ty,.prv (lvals A)⟩,⟨false,ty2,.prv (lvals B)⟩,⟨true,33,.grv 65 vs n none⟩,⟨true,24,.grv 32 us lo hi⟩]
end
def M3 (n:Nat) (m d:Nat):List (Option SV):=aB 45 0 [(1,.o (.a (.sld 1 0 0 m d))),(8,.o (.a (.slg 2 n))),(10,.o (.a (.v (.slice none 0 0))))]
theorem i3 (A:List Lf) (n:Nat) (ty:TypeId) (B:List Lf) (m d:Nat) (ty2:TypeId) (vs:List Value):oI (M3 n m d) (m3 A n ty B ty2 vs):=by delta oI;kernel_rfl
theorem r4 (A:List Lf) (n c:Nat) (ty:TypeId) (B:List Lf) (m d:Nat) (ty2:TypeId) (g:Nat→SV):oN [0,1,2] ΓP 100 (cpre 2 S4) (fill g 0 (M0 n c m d )) (m0 A ty B ty2) [] .normal (M3 n m d) (m3 A n ty B ty2 (ah (rndA (ak (((lvals A).drop (0+0)).take (n*64))) n))) [0+0+n*64≤(lvals A).length,n≤c,((lvals A).drop (0+0)).take (n*64)=lvals (ak (((lvals A).drop (0+0)).take (n*64))),(ak (((lvals A).drop (0+0)).take (n*64))).length=n,n≤4000000,AllL (ak (((lvals A).drop (0+0)).take (n*64))),rndD (ak (((lvals A).drop (0+0)).take (n*64))) n=false,0<n]:=by delta oN;kernel_rfl
def Mz (n:Nat) (m d:Nat):List (Option SV):=aB 45 0 [(1,.o (.a (.sld 1 0 0 m d))),(8,.o (.a (.slg 2 n))),(10,.o (.a (.v (.slice none 0 0)))),(28,.o (.a (.sld 1 0 0 m d))),(29,.o (.a (int1 .i64 m))),(30,.o (.a (int1 .i64 0)))]
theorem iz (A:List Lf) (n:Nat) (ty:TypeId) (B:List Lf) (m d:Nat) (ty2:TypeId) (vs:List Value):oI (Mz n m d) (m3 A n ty B ty2 vs):=by delta oI;kernel_rfl
def Dz (n:Nat):List (Option SV):=aB 45 0 [(8,.o (.a (.slg 2 n))),(10,.o (.a (.v (.slice none 0 0))))]
theorem iDz (A:List Lf) (n:Nat) (ty:TypeId) (B:List Lf) (ty2:TypeId) (vs:List Value):oI (Dz n) (m3 A n ty B ty2 vs):=by delta oI;kernel_rfl
theorem a6 (A:List Lf) (n:Nat) (ty:TypeId) (B:List Lf) (m d:Nat) (ty2:TypeId) (vs:List Value) (g:Nat→SV):oX ΓP 300 A6 (fill g 0 (M3 n m d )) (m3 A n ty B ty2 vs) [] .normal (Mz n m d) (m3 A n ty B ty2 vs) []:=by delta oX;kernel_rfl
def Ms (n:Nat) (m d:Nat) (u:Nat) (j:Int):List (Option SV):=aB 45 0 [(1,.o (.a (.sld 1 0 0 m d))),(8,.o (.a (.slg 2 n))),(10,.o (.a (.slg 3 u))),(28,.o (.a (.sld 1 0 0 m d))),(29,.o (.a (int1 .i64 m))),(30,.o (.a (int1 .i64 j)))]
def Ds (n:Nat) (u:Nat):List (Option SV):=aB 45 0 [(8,.o (.a (.slg 2 n))),(10,.o (.a (.slg 3 u)))]
section
variable (A:List Lf) (n:Nat) (ty:TypeId) (B:List Lf)
theorem is (m d:Nat) (ty2:TypeId) (vs:List Value) (us:List Value) (lo:Nat) (hi:Option Nat) (u:Nat) (j:Int):oI (Ms n m d u j) (m4 A n ty B ty2 vs us lo hi):=by delta oI;kernel_rfl
theorem iDs (ty2:TypeId) (vs:List Value) (us:List Value) (lo:Nat) (hi:Option Nat) (u:Nat):oI (Ds n u) (m4 A n ty B ty2 vs us lo hi):=by delta oI;kernel_rfl
theorem zy (m d:Nat) (ty2:TypeId) (vs:List Value) (y:B32) (g:Nat→SV):oN [0,1,2,4] ΓP 100 L (fill g 0 (Mz n m d )) (m3 A n ty B ty2 vs) [(31,[.b true]),(38,[.ds (cB32.enc y)]),(39,[.dyn])] .normal (Ms n m d 1 1) (m4 A n ty B ty2 vs (bF y) 1 none) [decide ((0:Int)<m)=true,0≤(0:Int),(0:Int)<m,0+offI 0 0 64+32≤(lvals B).length,SV.o (.g (aY (lvals B) (0+offI 0 0 64) 32))=cB32.enc y,32=1*32,0+0+1*32≤(bF y).length,0<1,Room Tryd.prog 24 1]:=by delta oN;kernel_rfl
theorem sg (m d:Nat) (ty2:TypeId) (vs:List Value) (us:List Value) (u:Nat) (j j':Int) (y:B32) (g:Nat→SV):oX ΓP 300 L (fill g 0 (Ms n m d u j)) (m4 A n ty B ty2 vs us (u+1) none) [(31,[.b true]),(38,[.ds (cB32.enc y)]),(39,[.dyn]),(40,[.dyn]),(41,[.n j'])] .normal (Ms n m d (u+1) j') (m4 A n ty B ty2 vs (us++bF y) (u+1) none) [decide (j<m)=true,0≤j,j<m,0+offI 0 j 64+32≤(lvals B).length,SV.o (.g (aY (lvals B) (0+offI 0 j 64) 32))=cB32.enc y,32=1*32,0+0+1*32≤(bF y).length,u*32=us.length,u+1≤u+1,∀v∈bF y,v.oneCell'=true,IntKind.i64.wrap (j+1)=j']:=by delta oX;kernel_rfl
theorem sr (m d:Nat) (ty2:TypeId) (vs:List Value) (us:List Value) (u:Nat) (j j':Int) (y:B32) (lo:Nat) (g:Nat→SV):oN [0,1,2,5] ΓP 100 L (fill g 0 (Ms n m d u j)) (m4 A n ty B ty2 vs us lo (some (u+1))) [(31,[.b true]),(38,[.ds (cB32.enc y)]),(39,[.dyn]),(40,[.dyn]),(41,[.n j'])] .normal (Ms n m d (u+1) j') (m4 A n ty B ty2 vs (us++bF y) (u+1) none) [decide (j<m)=true,0≤j,j<m,0+offI 0 j 64+32≤(lvals B).length,SV.o (.g (aY (lvals B) (0+offI 0 j 64) 32))=cB32.enc y,32=1*32,0+0+1*32≤(bF y).length,u*32=us.length,u+1≤u+1,Room Tryd.prog 24 (u+1),IntKind.i64.wrap (j+1)=j']:=by delta oN;kernel_rfl
theorem oz (m d:Nat) (ty2:TypeId) (vs:List Value) (g:Nat→SV):oX ΓP 300 L (fill g 0 (Mz n m d )) (m3 A n ty B ty2 vs) [(31,[.b false])] (.exit 0) (Dz n) (m3 A n ty B ty2 vs) [decide ((0:Int)<m)=false]:=by delta oX;kernel_rfl
theorem os (m d:Nat) (ty2:TypeId) (vs:List Value) (us:List Value) (lo:Nat) (hi:Option Nat) (u:Nat) (j:Int) (g:Nat→SV):oX ΓP 300 L (fill g 0 (Ms n m d u j)) (m4 A n ty B ty2 vs us lo hi) [(31,[.b false])] (.exit 0) (Ds n u) (m4 A n ty B ty2 vs us lo hi) [decide (j<m)=false]:=by delta oX;kernel_rfl
end
def mr (A:List Lf) (ty:TypeId) (B:List Lf) (ty2:TypeId) (us:List Value) (r:Nat):List Blk:=[⟨false,ty,.prv (lvals A)⟩,⟨false,ty2,.prv (lvals B)⟩,⟨true,33,.grv 65 us r none⟩]
def MR (r:Nat):List (Option SV):=aB 45 0 [(4,.o (.a (.slg 2 r))),(5,.o (.a (int1 .i64 0)))]
section
variable (A:List Lf) (ty:TypeId) (B:List Lf) (ty2:TypeId) (us:List Value) (r:Nat)
theorem iR:oI (MR r) (mr A ty B ty2 us r):=by delta oI;kernel_rfl
theorem zr (g:Nat→SV):eRes tys (fill g 0 (MR r)) (fun k=>(mr A ty B ty2 us r)[k]?) fn.results.toList=some [.a (.slg 2 r),.a (int1 .i64 0)]:=by kernel_rfl
end
section
variable (H:Nd→Nd→B32) (hH:H=hV) (A:List Lf) (n:Nat) (ty:TypeId) (B:List Lf) (ty2:TypeId) (vs:List Value)
theorem fs (us:List Value) (u:Nat) (g:Nat→SV):oN [0,1,4] (ΓWP H hH) 100 Z (fill g 0 (Ds n u)) (m4 A n ty B ty2 vs us u none) [] .ret (MR (witV H false (au ((vs.drop (0+0)).take (n*65))) (aG ((us.drop (0+0)).take (u*32)))).length) (mr A ty B ty2 (ah (witV H false (au ((vs.drop (0+0)).take (n*65))) (aG ((us.drop (0+0)).take (u*32))))) (witV H false (au ((vs.drop (0+0)).take (n*65))) (aG ((us.drop (0+0)).take (u*32)))).length) [0+0+n*65≤vs.length,n≤n,0+0+u*32≤us.length,u≤u,(vs.drop (0+0)).take (n*65)=ah (au ((vs.drop (0+0)).take (n*65))),(au ((vs.drop (0+0)).take (n*65))).length=n,n<4000001,aN (au ((vs.drop (0+0)).take (n*65))),aM (au ((vs.drop (0+0)).take (n*65)))=true,(us.drop (0+0)).take (u*32)=aD (aG ((us.drop (0+0)).take (u*32))),(aG ((us.drop (0+0)).take (u*32))).length=u,u≤4000000,AllB (aG ((us.drop (0+0)).take (u*32))),(witV H false (au ((vs.drop (0+0)).take (n*65))) (aG ((us.drop (0+0)).take (u*32))))≠[]]:=by delta oN;kernel_rfl
theorem fz (g:Nat→SV):oN [0,1,3] (ΓWL H hH) 100 Z (fill g 0 (Dz n )) (m3 A n ty B ty2 vs) [] .ret (MR (witV H false (au ((vs.drop (0+0)).take (n*65))) []).length) (mr A ty B ty2 (ah (witV H false (au ((vs.drop (0+0)).take (n*65))) [])) (witV H false (au ((vs.drop (0+0)).take (n*65))) []).length) [0+0+n*65≤vs.length,n≤n,(vs.drop (0+0)).take (n*65)=ah (au ((vs.drop (0+0)).take (n*65))),(au ((vs.drop (0+0)).take (n*65))).length=n,0<n,n<4000001,aN (au ((vs.drop (0+0)).take (n*65))),aM (au ((vs.drop (0+0)).take (n*65)))=true]:=by delta oN;kernel_rfl
end
end pw
namespace pn
def m0 (A:List Lf) (ty:TypeId):List Blk:=[⟨false,ty,.prv (lvals A)⟩]
def M0 (n c:Nat) (b:Option Addr):List (Option SV):=aB 45 0 [(0,.o (.a (.sld 0 0 0 n c))),(1,.o (.a (.v (.slice b 0 0))))]
theorem i0 (A:List Lf) (n c:Nat) (ty:TypeId) (b:Option Addr):oI (M0 n c b) (m0 A ty):=by delta oI;kernel_rfl
def M1 (n c:Nat) (b:Option Addr) (t:Bool):List (Option SV):=aB 45 0 [(0,.o (.a (.sld 0 0 0 n c))),(1,.o (.a (.v (.slice b 0 0)))),(7,.o (.a (.v (.bool t))))]
theorem i1 (A:List Lf) (n c:Nat) (ty:TypeId) (b:Option Addr) (t:Bool):oI (M1 n c b t) (m0 A ty):=by delta oI;kernel_rfl
theorem s0 (A:List Lf) (n c:Nat) (ty:TypeId) (b:Option Addr):oX ΓE 300 (cpre 1 body) (aI fn [.o (.a (.sld 0 0 0 n c)),.o (.a (.v (.slice b 0 0)))]) (m0 A ty) [] .normal (M0 n c b) (m0 A ty) []:=by delta oX;kernel_rfl
def MP (n c:Nat) (b:Option Addr):List (Option SV):=aB 45 0 [(0,.o (.a (.sld 0 0 0 n c))),(1,.o (.a (.v (.slice b 0 0)))),(15,.o (.a (.slg 1 n)))]
def m1 (A:List Lf) (ty:TypeId) (us:List Value) (lo:Nat) (hi:Option Nat):List Blk:=[⟨false,ty,.prv (lvals A)⟩,⟨true,30,.grv 64 us lo hi⟩]
section
variable (A:List Lf) (n c:Nat) (ty:TypeId) (b:Option Addr)
theorem iP (us:List Value) (lo:Nat) (hi:Option Nat):oI (MP n c b) (m1 A ty us lo hi):=by delta oI;kernel_rfl
theorem c1 (g:Nat→SV):oU [0,2] ΓE R1 0 3 (fill g 0 (M0 n c b )) (m0 A ty) [] (MP n c b) (m1 A ty (((lvals A).drop (0+0)).take (n*64)) n none) [0+0+n*64≤(lvals A).length,0<n,Room Tryd.prog 30 n]:=by delta oU;kernel_rfl
theorem gE (us:List Value) (g:Nat→SV):oU [0] ΓE R1 3 8 (fill g 0 (MP n c b )) (m1 A ty us n none) [(17,[.dyn])] (M1 n c b false) (m0 A ty) [n*64=us.length,n+0≤n,∀v∈([]:List Value),v.oneCell'=true,0+0+(n+0)*64≤(us++[]).length,n+0≤n+0,((us++[]).drop (0+0)).take ((n+0)*64)=lvals (ak (((us++[]).drop (0+0)).take ((n+0)*64))),(ak (((us++[]).drop (0+0)).take ((n+0)*64))).length=n+0,n+0≤4000000,AllL (ak (((us++[]).drop (0+0)).take ((n+0)*64))),rndD (ak (((us++[]).drop (0+0)).take ((n+0)*64))) (n+0)=true]:=by delta oU;kernel_rfl
theorem gP (us:List Value) (g:Nat→SV):oU [0] ΓP R1 3 8 (fill g 0 (MP n c b )) (m1 A ty us n none) [(17,[.dyn])] (M1 n c b true) (m0 A ty) [n*64=us.length,n+0≤n,∀v∈([]:List Value),v.oneCell'=true,0+0+(n+0)*64≤(us++[]).length,n+0≤n+0,((us++[]).drop (0+0)).take ((n+0)*64)=lvals (ak (((us++[]).drop (0+0)).take ((n+0)*64))),(ak (((us++[]).drop (0+0)).take ((n+0)*64))).length=n+0,n+0≤4000000,AllL (ak (((us++[]).drop (0+0)).take ((n+0)*64))),rndD (ak (((us++[]).drop (0+0)).take ((n+0)*64))) (n+0)=false,0<n+0]:=by delta oU;kernel_rfl
end
def MN (e:Int):List (Option SV):=aB 45 0 [(4,.o (.a (.v (.slice none 0 0)))),(5,.o (.a (int1 .i64 e)))]
theorem iN (A:List Lf) (ty:TypeId) (e:Int):oI (MN e) (m0 A ty):=by delta oI;kernel_rfl
theorem tE (A:List Lf) (n c:Nat) (ty:TypeId) (b:Option Addr) (g:Nat→SV):oX ΓP 300 C (fill g 0 (M1 n c b false)) (m0 A ty) [] .ret (MN 1) (m0 A ty) []:=by delta oX;kernel_rfl
theorem tO (A:List Lf) (n c:Nat) (ty:TypeId) (b:Option Addr) (g:Nat→SV):oX ΓP 300 C (fill g 0 (M1 n c b true)) (m0 A ty) [] .normal (M0 n c b) (m0 A ty) []:=by delta oX;kernel_rfl
theorem zn (A:List Lf) (ty:TypeId) (e:Int) (g:Nat→SV):eRes tys (fill g 0 (MN e)) (fun k=>(m0 A ty )[k]?) fn.results.toList=some [.a (.v (.slice none 0 0)),.a (int1 .i64 e)]:=by kernel_rfl
def m3 (A:List Lf) (n:Nat) (ty:TypeId) (vs:List Value):List Blk:=[⟨false,ty,.prv (lvals A)⟩,⟨true,33,.grv 65 vs n none⟩]
def M3 (n:Nat) (b:Option Addr):List (Option SV):=aB 45 0 [(1,.o (.a (.v (.slice b 0 0)))),(8,.o (.a (.slg 1 n))),(10,.o (.a (.v (.slice none 0 0))))]
theorem i3 (A:List Lf) (n:Nat) (ty:TypeId) (b:Option Addr) (vs:List Value):oI (M3 n b) (m3 A n ty vs):=by delta oI;kernel_rfl
theorem r4 (A:List Lf) (n c:Nat) (ty:TypeId) (b:Option Addr) (g:Nat→SV):oN [0,1] ΓP 100 (cpre 2 S4) (fill g 0 (M0 n c b )) (m0 A ty) [] .normal (M3 n b) (m3 A n ty (ah (rndA (ak (((lvals A).drop (0+0)).take (n*64))) n))) [0+0+n*64≤(lvals A).length,n≤c,((lvals A).drop (0+0)).take (n*64)=lvals (ak (((lvals A).drop (0+0)).take (n*64))),(ak (((lvals A).drop (0+0)).take (n*64))).length=n,n≤4000000,AllL (ak (((lvals A).drop (0+0)).take (n*64))),rndD (ak (((lvals A).drop (0+0)).take (n*64))) n=false,0<n]:=by delta oN;kernel_rfl
def Mz (n:Nat) (b:Option Addr):List (Option SV):=aB 45 0 [(1,.o (.a (.v (.slice b 0 0)))),(8,.o (.a (.slg 1 n))),(10,.o (.a (.v (.slice none 0 0)))),(28,.o (.a (.v (.slice b 0 0)))),(29,.o (.a (int1 .i64 0))),(30,.o (.a (int1 .i64 0)))]
theorem iz (A:List Lf) (n:Nat) (ty:TypeId) (b:Option Addr) (vs:List Value):oI (Mz n b) (m3 A n ty vs):=by delta oI;kernel_rfl
def Dz (n:Nat):List (Option SV):=aB 45 0 [(8,.o (.a (.slg 1 n))),(10,.o (.a (.v (.slice none 0 0))))]
theorem iDz (A:List Lf) (n:Nat) (ty:TypeId) (vs:List Value):oI (Dz n) (m3 A n ty vs):=by delta oI;kernel_rfl
section
variable (A:List Lf) (n:Nat) (ty:TypeId) (b:Option Addr) (vs:List Value) (g:Nat→SV)
theorem a6:oX ΓP 300 A6 (fill g 0 (M3 n b )) (m3 A n ty vs) [] .normal (Mz n b) (m3 A n ty vs) []:=by delta oX;kernel_rfl
theorem oz:oX ΓP 300 L (fill g 0 (Mz n b )) (m3 A n ty vs) [] (.exit 0) (Dz n) (m3 A n ty vs) []:=by delta oX;kernel_rfl
end
def mr (A:List Lf) (ty:TypeId) (us:List Value) (r:Nat):List Blk:=[⟨false,ty,.prv (lvals A)⟩,⟨true,33,.grv 65 us r none⟩]
def MR (r:Nat):List (Option SV):=aB 45 0 [(4,.o (.a (.slg 1 r))),(5,.o (.a (int1 .i64 0)))]
theorem iR (A:List Lf) (ty:TypeId) (us:List Value) (r:Nat):oI (MR r) (mr A ty us r):=by delta oI;kernel_rfl
theorem zr (A:List Lf) (ty:TypeId) (us:List Value) (r:Nat) (g:Nat→SV):eRes tys (fill g 0 (MR r)) (fun k=>(mr A ty us r)[k]?) fn.results.toList=some [.a (.slg 1 r),.a (int1 .i64 0)]:=by kernel_rfl
theorem fz (H:Nd→Nd→B32) (hH:H=hV) (A:List Lf) (n:Nat) (ty:TypeId) (vs:List Value) (g:Nat→SV):oN [0,2] (ΓWL H hH) 100 Z (fill g 0 (Dz n )) (m3 A n ty vs) [] .ret (MR (witV H false (au ((vs.drop (0+0)).take (n*65))) []).length) (mr A ty (ah (witV H false (au ((vs.drop (0+0)).take (n*65))) [])) (witV H false (au ((vs.drop (0+0)).take (n*65))) []).length) [0+0+n*65≤vs.length,n≤n,(vs.drop (0+0)).take (n*65)=ah (au ((vs.drop (0+0)).take (n*65))),(au ((vs.drop (0+0)).take (n*65))).length=n,0<n,n<4000001,aN (au ((vs.drop (0+0)).take (n*65))),aM (au ((vs.drop (0+0)).take (n*65)))=true]:=by delta oN;kernel_rfl
end pn
namespace zw
def m0 (A:List Lf) (ty:TypeId) (B:List Lf) (ty2:TypeId):List Blk:=[⟨false,ty,.prv (lvals A)⟩,⟨false,ty2,.prv (lvals B)⟩]
def M0 (n c:Nat) (m d:Nat):List (Option SV):=aB 45 0 [(0,.o (.a (.sld 0 0 0 n c))),(1,.o (.a (.sld 1 0 0 m d)))]
theorem i0 (A:List Lf) (n c:Nat) (ty:TypeId) (B:List Lf) (m d:Nat) (ty2:TypeId):oI (M0 n c m d) (m0 A ty B ty2):=by delta oI;kernel_rfl
def M1 (n c:Nat) (m d:Nat) (t:Bool):List (Option SV):=aB 45 0 [(0,.o (.a (.sld 0 0 0 n c))),(1,.o (.a (.sld 1 0 0 m d))),(7,.o (.a (.v (.bool t))))]
section
variable (A:List Lf) (n c:Nat) (ty:TypeId) (B:List Lf) (m d:Nat) (ty2:TypeId)
theorem i1 (t:Bool):oI (M1 n c m d t) (m0 A ty B ty2):=by delta oI;kernel_rfl
theorem s0:oX ΓE 300 (cpre 1 body) (aI fn [.o (.a (.sld 0 0 0 n c)),.o (.a (.sld 1 0 0 m d))]) (m0 A ty B ty2) [] .normal (M0 n c m d) (m0 A ty B ty2) []:=by delta oX;kernel_rfl
theorem cE (g:Nat→SV):oU [0,1] ΓE R1 0 11 (fill g 0 (M0 n c m d )) (m0 A ty B ty2) [(15,[.dyn])] (M1 n c m d false) (m0 A ty B ty2) [0+0+n*64≤(lvals A).length,n=0,0+0+m*64≤(lvals B).length,0<m,Room Tryd.prog 30 m,0+0+(m)*64≤(((lvals B).drop (0+0)).take (m*64)).length,m≤m,((((lvals B).drop (0+0)).take (m*64)).drop (0+0)).take ((m)*64)=lvals (ak (((((lvals B).drop (0+0)).take (m*64)).drop (0+0)).take ((m)*64))),(ak (((((lvals B).drop (0+0)).take (m*64)).drop (0+0)).take ((m)*64))).length=m,m≤4000000,AllL (ak (((((lvals B).drop (0+0)).take (m*64)).drop (0+0)).take ((m)*64))),rndD (ak (((((lvals B).drop (0+0)).take (m*64)).drop (0+0)).take ((m)*64))) (m)=true]:=by delta oU;kernel_rfl
theorem cP (g:Nat→SV):oU [0,1] ΓP R1 0 11 (fill g 0 (M0 n c m d )) (m0 A ty B ty2) [(15,[.dyn])] (M1 n c m d true) (m0 A ty B ty2) [0+0+n*64≤(lvals A).length,n=0,0+0+m*64≤(lvals B).length,0<m,Room Tryd.prog 30 m,0+0+(m)*64≤(((lvals B).drop (0+0)).take (m*64)).length,m≤m,((((lvals B).drop (0+0)).take (m*64)).drop (0+0)).take ((m)*64)=lvals (ak (((((lvals B).drop (0+0)).take (m*64)).drop (0+0)).take ((m)*64))),(ak (((((lvals B).drop (0+0)).take (m*64)).drop (0+0)).take ((m)*64))).length=m,m≤4000000,AllL (ak (((((lvals B).drop (0+0)).take (m*64)).drop (0+0)).take ((m)*64))),rndD (ak (((((lvals B).drop (0+0)).take (m*64)).drop (0+0)).take ((m)*64))) (m)=false,0<m]:=by delta oU;kernel_rfl
theorem cZ (g:Nat→SV):oU [0,1] ΓZ R1 0 11 (fill g 0 (M0 n c m d )) (m0 A ty B ty2) [(15,[.dyn]),(17,[.dyn])] (M1 n c m d true) (m0 A ty B ty2) [0+0+n*64≤(lvals A).length,n=0,0+0+m*64≤(lvals B).length,m=0,0+0+0*64≤0,0≤0,(([]:List Value).drop (0+0)).take (0*64)=lvals (ak ((([]:List Value).drop (0+0)).take (0*64))),(ak ((([]:List Value).drop (0+0)).take (0*64))).length=0,0=0]:=by delta oU;kernel_rfl
end
def MN (e:Int):List (Option SV):=aB 45 0 [(4,.o (.a (.v (.slice none 0 0)))),(5,.o (.a (int1 .i64 e)))]
theorem iN (A:List Lf) (ty:TypeId) (B:List Lf) (ty2:TypeId) (e:Int):oI (MN e) (m0 A ty B ty2):=by delta oI;kernel_rfl
section
variable (A:List Lf) (n c:Nat) (ty:TypeId) (B:List Lf) (m d:Nat) (ty2:TypeId) (g:Nat→SV)
theorem tE:oX ΓZ 300 C (fill g 0 (M1 n c m d false)) (m0 A ty B ty2) [] .ret (MN 1) (m0 A ty B ty2) []:=by delta oX;kernel_rfl
theorem tO:oX ΓZ 300 C (fill g 0 (M1 n c m d true)) (m0 A ty B ty2) [] .normal (M0 n c m d) (m0 A ty B ty2) []:=by delta oX;kernel_rfl
end
section
variable (A:List Lf) (ty:TypeId) (B:List Lf) (ty2:TypeId)
theorem zn (e:Int) (g:Nat→SV):eRes tys (fill g 0 (MN e)) (fun k=>(m0 A ty B ty2 )[k]?) fn.results.toList=some [.a (.v (.slice none 0 0)),.a (int1 .i64 e)]:=by kernel_rfl
def m3:List Blk:=[⟨false,ty,.prv (lvals A)⟩,⟨false,ty2,.prv (lvals B)⟩]
def m4 (us:List Value) (lo:Nat) (hi:Option Nat):List Blk:=[⟨false,ty,.prv (lvals A)⟩,⟨false,ty2,.prv (lvals B)⟩,⟨true,24,.grv 32 us lo hi⟩]
end
def M3 (m d:Nat):List (Option SV):=aB 45 0 [(1,.o (.a (.sld 1 0 0 m d))),(8,.o (.a (.v (.slice none 0 0)))),(10,.o (.a (.v (.slice none 0 0))))]
theorem i3 (A:List Lf) (ty:TypeId) (B:List Lf) (m d:Nat) (ty2:TypeId):oI (M3 m d) (m3 A ty B ty2):=by delta oI;kernel_rfl
theorem r4 (A:List Lf) (n c:Nat) (ty:TypeId) (B:List Lf) (m d:Nat) (ty2:TypeId) (g:Nat→SV):oX ΓZ 300 (cpre 2 S4) (fill g 0 (M0 n c m d )) (m0 A ty B ty2) [] .normal (M3 m d) (m3 A ty B ty2) [0+0+n*64≤(lvals A).length,n≤c,((lvals A).drop (0+0)).take (n*64)=lvals (ak (((lvals A).drop (0+0)).take (n*64))),(ak (((lvals A).drop (0+0)).take (n*64))).length=n,n=0]:=by delta oX;kernel_rfl
def Mz (m d:Nat):List (Option SV):=aB 45 0 [(1,.o (.a (.sld 1 0 0 m d))),(8,.o (.a (.v (.slice none 0 0)))),(10,.o (.a (.v (.slice none 0 0)))),(28,.o (.a (.sld 1 0 0 m d))),(29,.o (.a (int1 .i64 m))),(30,.o (.a (int1 .i64 0)))]
theorem iz (A:List Lf) (ty:TypeId) (B:List Lf) (m d:Nat) (ty2:TypeId):oI (Mz m d) (m3 A ty B ty2):=by delta oI;kernel_rfl
def Dz:List (Option SV):=aB 45 0 [(8,.o (.a (.v (.slice none 0 0)))),(10,.o (.a (.v (.slice none 0 0))))]
theorem iDz (A:List Lf) (ty:TypeId) (B:List Lf) (ty2:TypeId):oI (Dz) (m3 A ty B ty2):=by delta oI;kernel_rfl
theorem a6 (A:List Lf) (ty:TypeId) (B:List Lf) (m d:Nat) (ty2:TypeId) (g:Nat→SV):oX ΓZ 300 A6 (fill g 0 (M3 m d )) (m3 A ty B ty2) [] .normal (Mz m d) (m3 A ty B ty2) []:=by delta oX;kernel_rfl
def Ms (m d:Nat) (u:Nat) (j:Int):List (Option SV):=aB 45 0 [(1,.o (.a (.sld 1 0 0 m d))),(8,.o (.a (.v (.slice none 0 0)))),(10,.o (.a (.slg 2 u))),(28,.o (.a (.sld 1 0 0 m d))),(29,.o (.a (int1 .i64 m))),(30,.o (.a (int1 .i64 j)))]
def Ds (u:Nat):List (Option SV):=aB 45 0 [(8,.o (.a (.v (.slice none 0 0)))),(10,.o (.a (.slg 2 u)))]
section
variable (A:List Lf)
theorem is (ty:TypeId) (B:List Lf) (m d:Nat) (ty2:TypeId) (us:List Value) (lo:Nat) (hi:Option Nat) (u:Nat) (j:Int):oI (Ms m d u j) (m4 A ty B ty2 us lo hi):=by delta oI;kernel_rfl
theorem iDs (ty:TypeId) (B:List Lf) (ty2:TypeId) (us:List Value) (lo:Nat) (hi:Option Nat) (u:Nat):oI (Ds u) (m4 A ty B ty2 us lo hi):=by delta oI;kernel_rfl
theorem zy (ty:TypeId) (B:List Lf) (m d:Nat) (ty2:TypeId) (y:B32) (g:Nat→SV):oN [0,1,3] ΓZ 100 L (fill g 0 (Mz m d )) (m3 A ty B ty2) [(31,[.b true]),(38,[.ds (cB32.enc y)]),(39,[.dyn])] .normal (Ms m d 1 1) (m4 A ty B ty2 (bF y) 1 none) [decide ((0:Int)<m)=true,0≤(0:Int),(0:Int)<m,0+offI 0 0 64+32≤(lvals B).length,SV.o (.g (aY (lvals B) (0+offI 0 0 64) 32))=cB32.enc y,32=1*32,0+0+1*32≤(bF y).length,0<1,Room Tryd.prog 24 1]:=by delta oN;kernel_rfl
theorem sg (n:Nat) (ty:TypeId) (B:List Lf) (m d:Nat) (ty2:TypeId) (us:List Value) (u:Nat) (j j':Int) (y:B32) (g:Nat→SV):oX ΓZ 300 L (fill g 0 (Ms m d u j)) (m4 A ty B ty2 us (u+1) none) [(31,[.b true]),(38,[.ds (cB32.enc y)]),(39,[.dyn]),(40,[.dyn]),(41,[.n j'])] .normal (Ms m d (u+1) j') (m4 A ty B ty2 (us++bF y) (u+1) none) [decide (j<m)=true,0≤j,j<m,0+offI 0 j 64+32≤(lvals B).length,SV.o (.g (aY (lvals B) (0+offI 0 j 64) 32))=cB32.enc y,32=1*32,0+0+1*32≤(bF y).length,u*32=us.length,u+1≤u+1,∀v∈bF y,v.oneCell'=true,IntKind.i64.wrap (j+1)=j']:=by delta oX;kernel_rfl
theorem sr (n:Nat) (ty:TypeId) (B:List Lf) (m d:Nat) (ty2:TypeId) (us:List Value) (u:Nat) (j j':Int) (y:B32) (lo:Nat) (g:Nat→SV):oN [0,1,4] ΓZ 100 L (fill g 0 (Ms m d u j)) (m4 A ty B ty2 us lo (some (u+1))) [(31,[.b true]),(38,[.ds (cB32.enc y)]),(39,[.dyn]),(40,[.dyn]),(41,[.n j'])] .normal (Ms m d (u+1) j') (m4 A ty B ty2 (us++bF y) (u+1) none) [decide (j<m)=true,0≤j,j<m,0+offI 0 j 64+32≤(lvals B).length,SV.o (.g (aY (lvals B) (0+offI 0 j 64) 32))=cB32.enc y,32=1*32,0+0+1*32≤(bF y).length,u*32=us.length,u+1≤u+1,Room Tryd.prog 24 (u+1),IntKind.i64.wrap (j+1)=j']:=by delta oN;kernel_rfl
theorem oz (ty:TypeId) (B:List Lf) (m d:Nat) (ty2:TypeId) (g:Nat→SV):oX ΓZ 300 L (fill g 0 (Mz m d )) (m3 A ty B ty2) [(31,[.b false])] (.exit 0) (Dz) (m3 A ty B ty2) [decide ((0:Int)<m)=false]:=by delta oX;kernel_rfl
theorem os (ty:TypeId) (B:List Lf) (m d:Nat) (ty2:TypeId) (us:List Value) (lo:Nat) (hi:Option Nat) (u:Nat) (j:Int) (g:Nat→SV):oX ΓZ 300 L (fill g 0 (Ms m d u j)) (m4 A ty B ty2 us lo hi) [(31,[.b false])] (.exit 0) (Ds u) (m4 A ty B ty2 us lo hi) [decide (j<m)=false]:=by delta oX;kernel_rfl
theorem fz (ty:TypeId) (B:List Lf) (ty2:TypeId) (g:Nat→SV):oX ΓWN 300 Z (fill g 0 (Dz )) (m3 A ty B ty2) [] .ret (MN 0) (m0 A ty B ty2) []:=by delta oX;kernel_rfl
theorem fs (ty:TypeId) (B:List Lf) (ty2:TypeId) (us:List Value) (u:Nat) (g:Nat→SV):oN [0,1] ΓWN 100 Z (fill g 0 (Ds u)) (m4 A ty B ty2 us u none) [] .ret (MN 0) (m0 A ty B ty2) [0+0+u*32≤us.length,u≤u]:=by delta oN;kernel_rfl
end
end zw
namespace zn
def m0 (A:List Lf) (ty:TypeId):List Blk:=[⟨false,ty,.prv (lvals A)⟩]
def M0 (n c:Nat) (b:Option Addr):List (Option SV):=aB 45 0 [(0,.o (.a (.sld 0 0 0 n c))),(1,.o (.a (.v (.slice b 0 0))))]
theorem i0 (A:List Lf) (n c:Nat) (ty:TypeId) (b:Option Addr):oI (M0 n c b) (m0 A ty):=by delta oI;kernel_rfl
def M1 (n c:Nat) (b:Option Addr) (t:Bool):List (Option SV):=aB 45 0 [(0,.o (.a (.sld 0 0 0 n c))),(1,.o (.a (.v (.slice b 0 0)))),(7,.o (.a (.v (.bool t))))]
section
variable (A:List Lf) (n c:Nat) (ty:TypeId) (b:Option Addr)
theorem i1 (t:Bool):oI (M1 n c b t) (m0 A ty):=by delta oI;kernel_rfl
theorem s0:oX ΓE 300 (cpre 1 body) (aI fn [.o (.a (.sld 0 0 0 n c)),.o (.a (.v (.slice b 0 0)))]) (m0 A ty) [] .normal (M0 n c b) (m0 A ty) []:=by delta oX;kernel_rfl
theorem cZ (g:Nat→SV):oU [0] ΓZ R1 0 11 (fill g 0 (M0 n c b )) (m0 A ty) [(15,[.dyn]),(17,[.dyn])] (M1 n c b true) (m0 A ty) [0+0+n*64≤(lvals A).length,n=0,0=0,0+0+0*64≤0,0≤0,(([]:List Value).drop (0+0)).take (0*64)=lvals (ak ((([]:List Value).drop (0+0)).take (0*64))),(ak ((([]:List Value).drop (0+0)).take (0*64))).length=0,0=0]:=by delta oU;kernel_rfl
end
def MN (e:Int):List (Option SV):=aB 45 0 [(4,.o (.a (.v (.slice none 0 0)))),(5,.o (.a (int1 .i64 e)))]
theorem iN (A:List Lf) (ty:TypeId) (e:Int):oI (MN e) (m0 A ty):=by delta oI;kernel_rfl
theorem tE (A:List Lf) (n c:Nat) (ty:TypeId) (b:Option Addr) (g:Nat→SV):oX ΓZ 300 C (fill g 0 (M1 n c b false)) (m0 A ty) [] .ret (MN 1) (m0 A ty) []:=by delta oX;kernel_rfl
theorem tO (A:List Lf) (n c:Nat) (ty:TypeId) (b:Option Addr) (g:Nat→SV):oX ΓZ 300 C (fill g 0 (M1 n c b true)) (m0 A ty) [] .normal (M0 n c b) (m0 A ty) []:=by delta oX;kernel_rfl
theorem zn (A:List Lf) (ty:TypeId) (e:Int) (g:Nat→SV):eRes tys (fill g 0 (MN e)) (fun k=>(m0 A ty )[k]?) fn.results.toList=some [.a (.v (.slice none 0 0)),.a (int1 .i64 e)]:=by kernel_rfl
def m3 (A:List Lf) (ty:TypeId):List Blk:=[⟨false,ty,.prv (lvals A)⟩]
def M3 (b:Option Addr):List (Option SV):=aB 45 0 [(1,.o (.a (.v (.slice b 0 0)))),(8,.o (.a (.v (.slice none 0 0)))),(10,.o (.a (.v (.slice none 0 0))))]
theorem i3 (A:List Lf) (ty:TypeId) (b:Option Addr):oI (M3 b) (m3 A ty):=by delta oI;kernel_rfl
theorem r4 (A:List Lf) (n c:Nat) (ty:TypeId) (b:Option Addr) (g:Nat→SV):oX ΓZ 300 (cpre 2 S4) (fill g 0 (M0 n c b )) (m0 A ty) [] .normal (M3 b) (m3 A ty) [0+0+n*64≤(lvals A).length,n≤c,((lvals A).drop (0+0)).take (n*64)=lvals (ak (((lvals A).drop (0+0)).take (n*64))),(ak (((lvals A).drop (0+0)).take (n*64))).length=n,n=0]:=by delta oX;kernel_rfl
def Mz (b:Option Addr):List (Option SV):=aB 45 0 [(1,.o (.a (.v (.slice b 0 0)))),(8,.o (.a (.v (.slice none 0 0)))),(10,.o (.a (.v (.slice none 0 0)))),(28,.o (.a (.v (.slice b 0 0)))),(29,.o (.a (int1 .i64 0))),(30,.o (.a (int1 .i64 0)))]
theorem iz (A:List Lf) (ty:TypeId) (b:Option Addr):oI (Mz b) (m3 A ty):=by delta oI;kernel_rfl
def Dz:List (Option SV):=aB 45 0 [(8,.o (.a (.v (.slice none 0 0)))),(10,.o (.a (.v (.slice none 0 0))))]
section
variable (A:List Lf) (ty:TypeId)
theorem iDz:oI (Dz) (m3 A ty):=by delta oI;kernel_rfl
theorem a6 (b:Option Addr) (g:Nat→SV):oX ΓZ 300 A6 (fill g 0 (M3 b )) (m3 A ty) [] .normal (Mz b) (m3 A ty) []:=by delta oX;kernel_rfl
theorem oz (b:Option Addr) (g:Nat→SV):oX ΓZ 300 L (fill g 0 (Mz b )) (m3 A ty) [] (.exit 0) (Dz) (m3 A ty) []:=by delta oX;kernel_rfl
theorem fz (g:Nat→SV):oX ΓWN 300 Z (fill g 0 (Dz )) (m3 A ty) [] .ret (MN 0) (m0 A ty) []:=by delta oX;kernel_rfl
end
end zn
namespace nw
def m0 (B:List Lf) (ty2:TypeId):List Blk:=[⟨false,ty2,.prv (lvals B)⟩]
section
variable (a:Option Addr)
def M0 (m d:Nat):List (Option SV):=aB 45 0 [(0,.o (.a (.v (.slice a 0 0)))),(1,.o (.a (.sld 0 0 0 m d)))]
theorem i0 (B:List Lf) (m d:Nat) (ty2:TypeId):oI (M0 a m d) (m0 B ty2):=by delta oI;kernel_rfl
def M1 (m d:Nat) (t:Bool):List (Option SV):=aB 45 0 [(0,.o (.a (.v (.slice a 0 0)))),(1,.o (.a (.sld 0 0 0 m d))),(7,.o (.a (.v (.bool t))))]
theorem i1 (B:List Lf) (m d:Nat) (ty2:TypeId) (t:Bool):oI (M1 a m d t) (m0 B ty2):=by delta oI;kernel_rfl
theorem s0 (B:List Lf) (m d:Nat) (ty2:TypeId):oX ΓE 300 (cpre 1 body) (aI fn [.o (.a (.v (.slice a 0 0))),.o (.a (.sld 0 0 0 m d))]) (m0 B ty2) [] .normal (M0 a m d) (m0 B ty2) []:=by delta oX;kernel_rfl
theorem cE (B:List Lf) (m d:Nat) (ty2:TypeId) (g:Nat→SV):oU [0] ΓE R1 0 11 (fill g 0 (M0 a m d )) (m0 B ty2) [(15,[.dyn])] (M1 a m d false) (m0 B ty2) [0=0,0+0+m*64≤(lvals B).length,0<m,Room Tryd.prog 30 m,0+0+(m)*64≤(((lvals B).drop (0+0)).take (m*64)).length,m≤m,((((lvals B).drop (0+0)).take (m*64)).drop (0+0)).take ((m)*64)=lvals (ak (((((lvals B).drop (0+0)).take (m*64)).drop (0+0)).take ((m)*64))),(ak (((((lvals B).drop (0+0)).take (m*64)).drop (0+0)).take ((m)*64))).length=m,m≤4000000,AllL (ak (((((lvals B).drop (0+0)).take (m*64)).drop (0+0)).take ((m)*64))),rndD (ak (((((lvals B).drop (0+0)).take (m*64)).drop (0+0)).take ((m)*64))) (m)=true]:=by delta oU;kernel_rfl
theorem cP (B:List Lf) (m d:Nat) (ty2:TypeId) (g:Nat→SV):oU [0] ΓP R1 0 11 (fill g 0 (M0 a m d )) (m0 B ty2) [(15,[.dyn])] (M1 a m d true) (m0 B ty2) [0=0,0+0+m*64≤(lvals B).length,0<m,Room Tryd.prog 30 m,0+0+(m)*64≤(((lvals B).drop (0+0)).take (m*64)).length,m≤m,((((lvals B).drop (0+0)).take (m*64)).drop (0+0)).take ((m)*64)=lvals (ak (((((lvals B).drop (0+0)).take (m*64)).drop (0+0)).take ((m)*64))),(ak (((((lvals B).drop (0+0)).take (m*64)).drop (0+0)).take ((m)*64))).length=m,m≤4000000,AllL (ak (((((lvals B).drop (0+0)).take (m*64)).drop (0+0)).take ((m)*64))),rndD (ak (((((lvals B).drop (0+0)).take (m*64)).drop (0+0)).take ((m)*64))) (m)=false,0<m]:=by delta oU;kernel_rfl
theorem cZ (B:List Lf) (m d:Nat) (ty2:TypeId) (g:Nat→SV):oU [0] ΓZ R1 0 11 (fill g 0 (M0 a m d )) (m0 B ty2) [(15,[.dyn]),(17,[.dyn])] (M1 a m d true) (m0 B ty2) [0=0,0+0+m*64≤(lvals B).length,m=0,0+0+0*64≤0,0≤0,(([]:List Value).drop (0+0)).take (0*64)=lvals (ak ((([]:List Value).drop (0+0)).take (0*64))),(ak ((([]:List Value).drop (0+0)).take (0*64))).length=0,0=0]:=by delta oU;kernel_rfl
end
def MN (a:Option Addr) (e:Int):List (Option SV):=aB 45 0 [(4,.o (.a (.v (.slice none 0 0)))),(5,.o (.a (int1 .i64 e)))]
section
variable (a:Option Addr) (B:List Lf)
theorem iN (ty2:TypeId) (e:Int):oI (MN a e) (m0 B ty2):=by delta oI;kernel_rfl
theorem tE (m d:Nat) (ty2:TypeId) (g:Nat→SV):oX ΓZ 300 C (fill g 0 (M1 a m d false)) (m0 B ty2) [] .ret (MN a 1) (m0 B ty2) []:=by delta oX;kernel_rfl
theorem tO (m d:Nat) (ty2:TypeId) (g:Nat→SV):oX ΓZ 300 C (fill g 0 (M1 a m d true)) (m0 B ty2) [] .normal (M0 a m d) (m0 B ty2) []:=by delta oX;kernel_rfl
theorem zn (ty2:TypeId) (e:Int) (g:Nat→SV):eRes tys (fill g 0 (MN a e)) (fun k=>(m0 B ty2 )[k]?) fn.results.toList=some [.a (.v (.slice none 0 0)),.a (int1 .i64 e)]:=by kernel_rfl
end
def m3 (B:List Lf) (ty2:TypeId):List Blk:=[⟨false,ty2,.prv (lvals B)⟩]
def m4 (B:List Lf) (ty2:TypeId) (us:List Value) (lo:Nat) (hi:Option Nat):List Blk:=[⟨false,ty2,.prv (lvals B)⟩,⟨true,24,.grv 32 us lo hi⟩]
def M3 (a:Option Addr) (m d:Nat):List (Option SV):=aB 45 0 [(1,.o (.a (.sld 0 0 0 m d))),(8,.o (.a (.v (.slice none 0 0)))),(10,.o (.a (.v (.slice none 0 0))))]
theorem i3 (a:Option Addr) (B:List Lf) (m d:Nat) (ty2:TypeId):oI (M3 a m d) (m3 B ty2):=by delta oI;kernel_rfl
theorem r4 (a:Option Addr) (B:List Lf) (m d:Nat) (ty2:TypeId) (g:Nat→SV):oX ΓZ 300 (cpre 2 S4) (fill g 0 (M0 a m d )) (m0 B ty2) [] .normal (M3 a m d) (m3 B ty2) []:=by delta oX;kernel_rfl
def Mz (a:Option Addr) (m d:Nat):List (Option SV):=aB 45 0 [(1,.o (.a (.sld 0 0 0 m d))),(8,.o (.a (.v (.slice none 0 0)))),(10,.o (.a (.v (.slice none 0 0)))),(28,.o (.a (.sld 0 0 0 m d))),(29,.o (.a (int1 .i64 m))),(30,.o (.a (int1 .i64 0)))]
theorem iz (a:Option Addr) (B:List Lf) (m d:Nat) (ty2:TypeId):oI (Mz a m d) (m3 B ty2):=by delta oI;kernel_rfl
def Dz (a:Option Addr):List (Option SV):=aB 45 0 [(8,.o (.a (.v (.slice none 0 0)))),(10,.o (.a (.v (.slice none 0 0))))]
theorem iDz (a:Option Addr) (B:List Lf) (ty2:TypeId):oI (Dz a) (m3 B ty2):=by delta oI;kernel_rfl
theorem a6 (a:Option Addr) (B:List Lf) (m d:Nat) (ty2:TypeId) (g:Nat→SV):oX ΓZ 300 A6 (fill g 0 (M3 a m d )) (m3 B ty2) [] .normal (Mz a m d) (m3 B ty2) []:=by delta oX;kernel_rfl
def Ms (a:Option Addr) (m d:Nat) (u:Nat) (j:Int):List (Option SV):=aB 45 0 [(1,.o (.a (.sld 0 0 0 m d))),(8,.o (.a (.v (.slice none 0 0)))),(10,.o (.a (.slg 1 u))),(28,.o (.a (.sld 0 0 0 m d))),(29,.o (.a (int1 .i64 m))),(30,.o (.a (int1 .i64 j)))]
def Ds (a:Option Addr) (u:Nat):List (Option SV):=aB 45 0 [(8,.o (.a (.v (.slice none 0 0)))),(10,.o (.a (.slg 1 u)))]
section
variable (a:Option Addr) (B:List Lf)
theorem is (m d:Nat) (ty2:TypeId) (us:List Value) (lo:Nat) (hi:Option Nat) (u:Nat) (j:Int):oI (Ms a m d u j) (m4 B ty2 us lo hi):=by delta oI;kernel_rfl
theorem iDs (ty2:TypeId) (us:List Value) (lo:Nat) (hi:Option Nat) (u:Nat):oI (Ds a u) (m4 B ty2 us lo hi):=by delta oI;kernel_rfl
theorem zy (m d:Nat) (ty2:TypeId) (y:B32) (g:Nat→SV):oN [0,2] ΓZ 100 L (fill g 0 (Mz a m d )) (m3 B ty2) [(31,[.b true]),(38,[.ds (cB32.enc y)]),(39,[.dyn])] .normal (Ms a m d 1 1) (m4 B ty2 (bF y) 1 none) [decide ((0:Int)<m)=true,0≤(0:Int),(0:Int)<m,0+offI 0 0 64+32≤(lvals B).length,SV.o (.g (aY (lvals B) (0+offI 0 0 64) 32))=cB32.enc y,32=1*32,0+0+1*32≤(bF y).length,0<1,Room Tryd.prog 24 1]:=by delta oN;kernel_rfl
theorem sg (m d:Nat) (ty2:TypeId) (us:List Value) (u:Nat) (j j':Int) (y:B32) (g:Nat→SV):oX ΓZ 300 L (fill g 0 (Ms a m d u j)) (m4 B ty2 us (u+1) none) [(31,[.b true]),(38,[.ds (cB32.enc y)]),(39,[.dyn]),(40,[.dyn]),(41,[.n j'])] .normal (Ms a m d (u+1) j') (m4 B ty2 (us++bF y) (u+1) none) [decide (j<m)=true,0≤j,j<m,0+offI 0 j 64+32≤(lvals B).length,SV.o (.g (aY (lvals B) (0+offI 0 j 64) 32))=cB32.enc y,32=1*32,0+0+1*32≤(bF y).length,u*32=us.length,u+1≤u+1,∀v∈bF y,v.oneCell'=true,IntKind.i64.wrap (j+1)=j']:=by delta oX;kernel_rfl
theorem sr (m d:Nat) (ty2:TypeId) (us:List Value) (u:Nat) (j j':Int) (y:B32) (lo:Nat) (g:Nat→SV):oN [0,3] ΓZ 100 L (fill g 0 (Ms a m d u j)) (m4 B ty2 us lo (some (u+1))) [(31,[.b true]),(38,[.ds (cB32.enc y)]),(39,[.dyn]),(40,[.dyn]),(41,[.n j'])] .normal (Ms a m d (u+1) j') (m4 B ty2 (us++bF y) (u+1) none) [decide (j<m)=true,0≤j,j<m,0+offI 0 j 64+32≤(lvals B).length,SV.o (.g (aY (lvals B) (0+offI 0 j 64) 32))=cB32.enc y,32=1*32,0+0+1*32≤(bF y).length,u*32=us.length,u+1≤u+1,Room Tryd.prog 24 (u+1),IntKind.i64.wrap (j+1)=j']:=by delta oN;kernel_rfl
theorem oz (m d:Nat) (ty2:TypeId) (g:Nat→SV):oX ΓZ 300 L (fill g 0 (Mz a m d )) (m3 B ty2) [(31,[.b false])] (.exit 0) (Dz a) (m3 B ty2) [decide ((0:Int)<m)=false]:=by delta oX;kernel_rfl
theorem os (m d:Nat) (ty2:TypeId) (us:List Value) (lo:Nat) (hi:Option Nat) (u:Nat) (j:Int) (g:Nat→SV):oX ΓZ 300 L (fill g 0 (Ms a m d u j)) (m4 B ty2 us lo hi) [(31,[.b false])] (.exit 0) (Ds a u) (m4 B ty2 us lo hi) [decide (j<m)=false]:=by delta oX;kernel_rfl
theorem fz (ty2:TypeId) (g:Nat→SV):oX ΓWN 300 Z (fill g 0 (Dz a )) (m3 B ty2) [] .ret (MN a 0) (m0 B ty2) []:=by delta oX;kernel_rfl
theorem fs (ty2:TypeId) (us:List Value) (u:Nat) (g:Nat→SV):oN [0] ΓWN 100 Z (fill g 0 (Ds a u)) (m4 B ty2 us u none) [] .ret (MN a 0) (m0 B ty2) [0+0+u*32≤us.length,u≤u]:=by delta oN;kernel_rfl
end
end nw
namespace nn
def m0:List Blk:=[]
section
variable (a:Option Addr) (b:Option Addr)
def M0:List (Option SV):=aB 45 0 [(0,.o (.a (.v (.slice a 0 0)))),(1,.o (.a (.v (.slice b 0 0))))]
theorem i0:oI (M0 a b) (m0):=by delta oI;kernel_rfl
def M1 (t:Bool):List (Option SV):=aB 45 0 [(0,.o (.a (.v (.slice a 0 0)))),(1,.o (.a (.v (.slice b 0 0)))),(7,.o (.a (.v (.bool t))))]
theorem i1 (t:Bool):oI (M1 a b t) (m0):=by delta oI;kernel_rfl
theorem s0:oX ΓE 300 (cpre 1 body) (aI fn [.o (.a (.v (.slice a 0 0))),.o (.a (.v (.slice b 0 0)))]) (m0) [] .normal (M0 a b) (m0) []:=by delta oX;kernel_rfl
theorem cZ (g:Nat→SV):oU [] ΓZ R1 0 11 (fill g 0 (M0 a b )) (m0) [(15,[.dyn]),(17,[.dyn])] (M1 a b true) (m0) [0=0,0=0,0+0+0*64≤0,0≤0,(([]:List Value).drop (0+0)).take (0*64)=lvals (ak ((([]:List Value).drop (0+0)).take (0*64))),(ak ((([]:List Value).drop (0+0)).take (0*64))).length=0,0=0]:=by delta oU;kernel_rfl
end
def MN (a:Option Addr) (e:Int):List (Option SV):=aB 45 0 [(4,.o (.a (.v (.slice none 0 0)))),(5,.o (.a (int1 .i64 e)))]
theorem iN (a:Option Addr) (e:Int):oI (MN a e) (m0):=by delta oI;kernel_rfl
theorem tE (a:Option Addr) (b:Option Addr) (g:Nat→SV):oX ΓZ 300 C (fill g 0 (M1 a b false)) (m0) [] .ret (MN a 1) (m0) []:=by delta oX;kernel_rfl
theorem tO (a:Option Addr) (b:Option Addr) (g:Nat→SV):oX ΓZ 300 C (fill g 0 (M1 a b true)) (m0) [] .normal (M0 a b) (m0) []:=by delta oX;kernel_rfl
theorem zn (a:Option Addr) (e:Int) (g:Nat→SV):eRes tys (fill g 0 (MN a e)) (fun k=>(m0 )[k]?) fn.results.toList=some [.a (.v (.slice none 0 0)),.a (int1 .i64 e)]:=by kernel_rfl
def m3:List Blk:=[]
def M3 (a:Option Addr) (b:Option Addr):List (Option SV):=aB 45 0 [(1,.o (.a (.v (.slice b 0 0)))),(8,.o (.a (.v (.slice none 0 0)))),(10,.o (.a (.v (.slice none 0 0))))]
theorem i3 (a:Option Addr) (b:Option Addr):oI (M3 a b) (m3):=by delta oI;kernel_rfl
theorem r4 (a:Option Addr) (b:Option Addr) (g:Nat→SV):oX ΓZ 300 (cpre 2 S4) (fill g 0 (M0 a b )) (m0) [] .normal (M3 a b) (m3) []:=by delta oX;kernel_rfl
def Mz (a:Option Addr) (b:Option Addr):List (Option SV):=aB 45 0 [(1,.o (.a (.v (.slice b 0 0)))),(8,.o (.a (.v (.slice none 0 0)))),(10,.o (.a (.v (.slice none 0 0)))),(28,.o (.a (.v (.slice b 0 0)))),(29,.o (.a (int1 .i64 0))),(30,.o (.a (int1 .i64 0)))]
theorem iz (a:Option Addr) (b:Option Addr):oI (Mz a b) (m3):=by delta oI;kernel_rfl
def Dz (a:Option Addr):List (Option SV):=aB 45 0 [(8,.o (.a (.v (.slice none 0 0)))),(10,.o (.a (.v (.slice none 0 0))))]
theorem iDz (a:Option Addr):oI (Dz a) (m3):=by delta oI;kernel_rfl
theorem a6 (a:Option Addr) (b:Option Addr) (g:Nat→SV):oX ΓZ 300 A6 (fill g 0 (M3 a b )) (m3) [] .normal (Mz a b) (m3) []:=by delta oX;kernel_rfl
theorem oz (a:Option Addr) (b:Option Addr) (g:Nat→SV):oX ΓZ 300 L (fill g 0 (Mz a b )) (m3) [] (.exit 0) (Dz a) (m3) []:=by delta oX;kernel_rfl
theorem fz (a:Option Addr) (g:Nat→SV):oX ΓWN 300 Z (fill g 0 (Dz a )) (m3) [] .ret (MN a 0) (m0) []:=by delta oX;kernel_rfl
end nn
end rst
end Go.Proofs.YtdccehmekkcheaaDoor

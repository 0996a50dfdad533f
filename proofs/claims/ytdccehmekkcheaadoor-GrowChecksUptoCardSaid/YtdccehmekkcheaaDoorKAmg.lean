/- Package beaconref12: Among: walk, contract. -/
import Derived.Test.YtdccehmekkcheaaDoorKTrPl
import Derived.Test.YtdccehmekkcheaaDoorKMTD
import Derived.Test.YtdccehmekkcheaaDoorKGsP
namespace Go.Proofs.YtdccehmekkcheaaDoor
open Go Go.Eng Go.RowKit
set_option linter.unusedVariables false
set_option linter.unusedSimpArgs false
set_option maxRecDepth 100000
noncomputable def amA (V:List Nd) (B:List Lf):Nat→List Nd
 | 0=>V
 | i+1=>insV (amA V B i) (bE (B.getD i zl))
theorem amA_len (V:List Nd) (B:List Lf):∀i,(amA V B i).length=V.length+i
 | 0=>rfl
 | i+1=>by rw[amA,insV_len,amA_len V B i];omega
theorem bg:aB []:=fun x hx=>by cases hx
theorem amA_ok {V:List Nd} {B:List Lf} (hV:aB V) (hB:AllL B):∀i,i≤B.length→aB (amA V B i)
 | 0,_,x,hx=>hV x hx
 | i+1,hi,x,hx=>by
  rcases mem_insV hx with rfl | hx
  ·exact leaf_nok (hB.at (by omega))
  ·exact amA_ok hV hB i (by omega) x hx
namespace amg
noncomputable abbrev fn:=Tryd.f49
noncomputable def body:Code:=bF fn
noncomputable def L:Code:=cL (cB (cs2 (cs1 (csuf 2 body))))
noncomputable def A2:Code:=cs1 (cs1 (csuf 2 body))
noncomputable def D:Code:=cs2 (csuf 2 body)
noncomputable def X:Code:=cB (cs1 (csuf 2 L))
noncomputable def R12:Code:=cs2 (csuf 2 L)
noncomputable def LI:Code:=cL (cB (cs1 (csuf 3 X)))
noncomputable def R9:Code:=cs1 (cs2 (csuf 3 X))
noncomputable def T:Code:=cs2 (cs2 (csuf 3 X))
theorem bJ:csuf 2 body= .seq (.seq A2 (.block 0 (.loop L))) D:=by kernel_rfl
theorem suf_L:csuf 2 L= .seq (.block 1 X) R12:=by kernel_rfl
theorem suf_X:csuf 3 X= .seq (.block 2 (.loop LI)) (.seq R9 T):=by kernel_rfl
noncomputable def Γ:Cons Tryd.prog GT:=[rleaf.con,blw.con]
namespace pw
def m0 (V:List Nd) (n c:Nat) (ty:TypeId) (B:List Lf) (m d:Nat) (ty2:TypeId):List Blk:=[⟨false,ty,.prv (ah V)⟩,⟨false,ty2,.prv (lvals B)⟩]
def ms (V:List Nd) (n c:Nat) (ty:TypeId) (B:List Lf) (m d:Nat) (ty2:TypeId) (vs:List Value) (lo:Nat) (hi:Option Nat):List Blk:=[⟨false,ty,.prv (ah V)⟩,⟨false,ty2,.prv (lvals B)⟩,⟨true,33,.grv 65 vs lo hi⟩]
def mx (V:List Nd) (n c:Nat) (ty:TypeId) (B:List Lf) (m d:Nat) (ty2:TypeId) (vs:List Value) (lo:Nat) (hi:Option Nat) (x:Nd):List Blk:=[⟨false,ty,.prv (ah V)⟩,⟨false,ty2,.prv (lvals B)⟩,⟨true,33,.grv 65 vs lo hi⟩,⟨true,33,.lit x.row⟩]
def MAs (V:List Nd) (n c:Nat) (ty:TypeId) (B:List Lf) (m d:Nat) (ty2:TypeId) (i:Int) (r:Nat):List (Option SV):=aD 57 0 [(1,.o (.a (.sld 1 0 0 m d))),(5,.o (.a (.slg 2 r))),(13,.o (.a (int1 .i64 m))),(14,.o (.a (int1 .i64 i)))]
theorem iAs (V:List Nd) (n c:Nat) (ty:TypeId) (B:List Lf) (m d:Nat) (ty2:TypeId) (vs:List Value) (lo:Nat) (hi:Option Nat) (i:Int) (r:Nat):aC (ms V n c ty B m d ty2 vs lo hi).length (MAs V n c ty B m d ty2 i r) (ms V n c ty B m d ty2 vs lo hi)=true:=by kernel_rfl
def MDs (V:List Nd) (n c:Nat) (ty:TypeId) (B:List Lf) (m d:Nat) (ty2:TypeId) (r:Nat):List (Option SV):=aD 57 0 [(5,.o (.a (.slg 2 r)))]
theorem iDs (V:List Nd) (n c:Nat) (ty:TypeId) (B:List Lf) (m d:Nat) (ty2:TypeId) (vs:List Value) (lo:Nat) (hi:Option Nat) (r:Nat):aC (ms V n c ty B m d ty2 vs lo hi).length (MDs V n c ty B m d ty2 r) (ms V n c ty B m d ty2 vs lo hi)=true:=by kernel_rfl
def MRs (V:List Nd) (n c:Nat) (ty:TypeId) (B:List Lf) (m d:Nat) (ty2:TypeId) (r:Nat):List (Option SV):=aD 57 0 [(4,.o (.a (.slg 2 r)))]
theorem iRs (V:List Nd) (n c:Nat) (ty:TypeId) (B:List Lf) (m d:Nat) (ty2:TypeId) (vs:List Value) (lo:Nat) (hi:Option Nat) (r:Nat):aC (ms V n c ty B m d ty2 vs lo hi).length (MRs V n c ty B m d ty2 r) (ms V n c ty B m d ty2 vs lo hi)=true:=by kernel_rfl
def M0s (V:List Nd) (n c:Nat) (ty:TypeId) (B:List Lf) (m d:Nat) (ty2:TypeId) (r:Nat):List (Option SV):=aD 57 0 [(1,.o (.a (.sld 1 0 0 m d))),(5,.o (.a (.slg 2 r)))]
section
variable (V:List Nd) (n c:Nat) (ty:TypeId) (B:List Lf) (m d:Nat) (ty2:TypeId)
theorem i0s (vs:List Value) (lo:Nat) (hi:Option Nat) (r:Nat):aC (ms V n c ty B m d ty2 vs lo hi).length (M0s V n c ty B m d ty2 r) (ms V n c ty B m d ty2 vs lo hi)=true:=by kernel_rfl
theorem s0:outN [0,1,3] (M0s V n c ty B m d ty2 n) (exec Γ tys 100 (cpre 2 body) ⟨aF fn [.o (.a (.sld 0 0 0 n c)),.o (.a (.sld 1 0 0 m d))],m0 V n c ty B m d ty2 ,[]⟩)=some (.normal,(live (M0s V n c ty B m d ty2 n)).map (SV.ren (piF [0,1,3])),(M0s V n c ty B m d ty2 n).length,(ms V n c ty B m d ty2 (((ah V).drop (0+0)).take (n*65)) n none).map (fun b=>some (b.ren (piF [0,1,3]))),[0+0+n*65≤(ah V).length,0<n,Room Tryd.prog 33 n]):=by kernel_rfl
theorem a1 (vs:List Value) (lo:Nat) (hi:Option Nat) (r:Nat) (g:Nat→SV):outX (ms V n c ty B m d ty2 vs lo hi).length (MAs V n c ty B m d ty2 0 r) (exec Γ tys 300 A2 ⟨fill g 0 (M0s V n c ty B m d ty2 r),ms V n c ty B m d ty2 vs lo hi,[]⟩)=some (.normal,live (MAs V n c ty B m d ty2 0 r),(MAs V n c ty B m d ty2 0 r).length,ms V n c ty B m d ty2 vs lo hi,[]):=by kernel_rfl
theorem ots (vs:List Value) (lo:Nat) (hi:Option Nat) (i:Int) (r:Nat) (g:Nat→SV):outX (ms V n c ty B m d ty2 vs lo hi).length (MDs V n c ty B m d ty2 r) (exec Γ tys 300 L ⟨fill g 0 (MAs V n c ty B m d ty2 i r),ms V n c ty B m d ty2 vs lo hi,[(15,[.b false])]⟩)=some ((.exit 0),live (MDs V n c ty B m d ty2 r),(MDs V n c ty B m d ty2 r).length,ms V n c ty B m d ty2 vs lo hi,[decide (i<m)=false]):=by kernel_rfl
theorem fs (vs:List Value) (lo:Nat) (hi:Option Nat) (r:Nat) (g:Nat→SV):outX (ms V n c ty B m d ty2 vs lo hi).length (MRs V n c ty B m d ty2 r) (exec Γ tys 300 D ⟨fill g 0 (MDs V n c ty B m d ty2 r),ms V n c ty B m d ty2 vs lo hi,[]⟩)=some (.ret,live (MRs V n c ty B m d ty2 r),(MRs V n c ty B m d ty2 r).length,ms V n c ty B m d ty2 vs lo hi,[]):=by kernel_rfl
theorem zs (vs:List Value) (lo:Nat) (hi:Option Nat) (r:Nat) (g:Nat→SV):eRes tys (fill g 0 (MRs V n c ty B m d ty2 r)) (fun k=>(ms V n c ty B m d ty2 vs lo hi)[k]?) fn.results.toList=some [.a (.slg 2 r)]:=by kernel_rfl
end
def MBs (V:List Nd) (n c:Nat) (ty:TypeId) (B:List Lf) (m d:Nat) (ty2:TypeId) (i:Int) (r:Nat) (k:Int):List (Option SV):=aD 57 0 [(1,.o (.a (.sld 1 0 0 m d))),(5,.o (.a (.slg 2 r))),(7,.o (.a (.ptr 3 0))),(8,.o (.a (int1 .i64 k))),(13,.o (.a (int1 .i64 m))),(14,.o (.a (int1 .i64 i)))]
theorem iBs (V:List Nd) (n c:Nat) (ty:TypeId) (B:List Lf) (m d:Nat) (ty2:TypeId) (vs:List Value) (lo:Nat) (hi:Option Nat) (i:Int) (r:Nat) (k:Int) (x:Nd):aC (mx V n c ty B m d ty2 vs lo hi x).length (MBs V n c ty B m d ty2 i r k) (mx V n c ty B m d ty2 vs lo hi x)=true:=by kernel_rfl
def MTs (V:List Nd) (n c:Nat) (ty:TypeId) (B:List Lf) (m d:Nat) (ty2:TypeId) (i:Int) (r:Nat) (k:Int) (R:Nat):List (Option SV):=aD 57 0 [(1,.o (.a (.sld 1 0 0 m d))),(5,.o (.a (.sld 2 0 0 r R))),(7,.o (.a (.ptr 3 0))),(8,.o (.a (int1 .i64 k))),(13,.o (.a (int1 .i64 m))),(14,.o (.a (int1 .i64 i)))]
def MUs (V:List Nd) (n c:Nat) (ty:TypeId) (B:List Lf) (m d:Nat) (ty2:TypeId) (i:Int) (r:Nat) (R:Nat):List (Option SV):=aD 57 0 [(1,.o (.a (.sld 1 0 0 m d))),(5,.o (.a (.sld 2 0 0 r R))),(13,.o (.a (int1 .i64 m))),(14,.o (.a (int1 .i64 i)))]
section
variable (V:List Nd) (n c:Nat) (ty:TypeId) (B:List Lf) (m d:Nat) (ty2:TypeId)
theorem iUs (vs:List Value) (lo:Nat) (hi:Option Nat) (i:Int) (r:Nat) (R:Nat):aC (ms V n c ty B m d ty2 vs lo hi).length (MUs V n c ty B m d ty2 i r R) (ms V n c ty B m d ty2 vs lo hi)=true:=by kernel_rfl
theorem hds (vs:List Value) (lo:Nat) (hi:Option Nat) (i:Int) (r:Nat) (g:Nat→SV):outX (ms V n c ty B m d ty2 vs lo hi).length (MAs V n c ty B m d ty2 i r) (exec Γ tys 300 (cpre 2 L) ⟨fill g 0 (MAs V n c ty B m d ty2 i r),ms V n c ty B m d ty2 vs lo hi,[(15,[.b true])]⟩)=some (.normal,live (MAs V n c ty B m d ty2 i r),(MAs V n c ty B m d ty2 i r).length,ms V n c ty B m d ty2 vs lo hi,[decide (i<m)=true]):=by kernel_rfl
theorem lfs (vs:List Value) (lo:Nat) (hi:Option Nat) (i:Int) (r:Nat) (z:Lf) (x:Nd) (g:Nat→SV):outX (mx V n c ty B m d ty2 vs lo hi x).length (MBs V n c ty B m d ty2 i r r) (exec Γ tys 300 (cpre 3 X) ⟨fill g 0 (MAs V n c ty B m d ty2 i r),ms V n c ty B m d ty2 vs lo hi,[(20,[.ds (cLf.enc z)]),(21,[.s (cNd.enc x)])]⟩)=some (.normal,live (MBs V n c ty B m d ty2 i r r),(MBs V n c ty B m d ty2 i r r).length,mx V n c ty B m d ty2 vs lo hi x,[0≤i,i<m,0+offI 0 i 64+64≤(lvals B).length,SV.o (.g (aZ (lvals B) (0+offI 0 i 64) 64))=cLf.enc z,LOk z,cNd.enc (bE z)=cNd.enc x]):=by kernel_rfl
theorem in0 (vs:List Value) (lo:Nat) (hi:Option Nat) (i:Int) (r:Nat) (k:Int) (x:Nd) (g:Nat→SV):outX (mx V n c ty B m d ty2 vs lo hi x).length (MBs V n c ty B m d ty2 i r k) (exec Γ tys 300 LI ⟨fill g 0 (MBs V n c ty B m d ty2 i r k),mx V n c ty B m d ty2 vs lo hi x,[(25,[.b false])]⟩)=some ((.exit 2),live (MBs V n c ty B m d ty2 i r k),(MBs V n c ty B m d ty2 i r k).length,mx V n c ty B m d ty2 vs lo hi x,[decide (k>0)=false]):=by kernel_rfl
theorem inx (vs:List Value) (lo:Nat) (hi:Option Nat) (i:Int) (r:Nat) (k:Int) (x:Nd) (k':Int) (y:B32) (g:Nat→SV):outX (mx V n c ty B m d ty2 vs lo hi x).length (MBs V n c ty B m d ty2 i r k) (exec Γ tys 300 LI ⟨fill g 0 (MBs V n c ty B m d ty2 i r k),mx V n c ty B m d ty2 vs lo hi x,[(25,[.b true]),(31,[.n k']),(34,[.ds (cB32.enc y)]),(35,[.s (aG.enc false)])]⟩)=some ((.exit 2),live (MBs V n c ty B m d ty2 i r k),(MBs V n c ty B m d ty2 i r k).length,mx V n c ty B m d ty2 vs lo hi x,[decide (k>0)=true,IntKind.i64.wrap (k-1)=k',0≤k',k'<r,0+(offI 0 k' 65+1)+32≤vs.length,SV.o (.g (aZ vs (0+(offI 0 k' 65+1)) 32))=cB32.enc y,BOk x.pre,BOk y,aG.enc (ltV x.pre y)=aG.enc false]):=by kernel_rfl
theorem ing (vs:List Value) (lo:Nat) (hi:Option Nat) (i:Int) (r:Nat) (k:Int) (x:Nd) (k':Int) (y:B32) (g:Nat→SV):outX (mx V n c ty B m d ty2 vs lo hi x).length (MBs V n c ty B m d ty2 i r k') (exec Γ tys 300 LI ⟨fill g 0 (MBs V n c ty B m d ty2 i r k),mx V n c ty B m d ty2 vs lo hi x,[(25,[.b true]),(31,[.n k']),(34,[.ds (cB32.enc y)]),(35,[.s (aG.enc true)]),(38,[.n k'])]⟩)=some (.normal,live (MBs V n c ty B m d ty2 i r k'),(MBs V n c ty B m d ty2 i r k').length,mx V n c ty B m d ty2 vs lo hi x,[decide (k>0)=true,IntKind.i64.wrap (k-1)=k',0≤k',k'<r,0+(offI 0 k' 65+1)+32≤vs.length,SV.o (.g (aZ vs (0+(offI 0 k' 65+1)) 32))=cB32.enc y,BOk x.pre,BOk y,aG.enc (ltV x.pre y)=aG.enc true,IntKind.i64.wrap (k-1)=k']):=by kernel_rfl
theorem apg (vs:List Value) (lo:Nat) (hi:Option Nat) (i:Int) (r:Nat) (k:Int) (x:Nd) (g:Nat→SV):outX (mx V n c ty B m d ty2 (vs++zn.vals) (r+1) none x).length (MBs V n c ty B m d ty2 i (r+1) k) (exec Γ tys 300 R9 ⟨fill g 0 (MBs V n c ty B m d ty2 i r k),mx V n c ty B m d ty2 vs (r+1) none x,[(41,[.dyn]),(42,[.dyn])]⟩)=some (.normal,live (MBs V n c ty B m d ty2 i (r+1) k),(MBs V n c ty B m d ty2 i (r+1) k).length,mx V n c ty B m d ty2 (vs++zn.vals) (r+1) none x,[65=1*65,0+0+1*65≤65,r*65=vs.length,r+1≤r+1,∀v∈zn.vals,v.oneCell'=true]):=by kernel_rfl
theorem apr (vs:List Value) (lo:Nat) (hi:Option Nat) (i:Int) (r:Nat) (k:Int) (x:Nd) (g:Nat→SV):outN [0,1,5,3] (MBs V n c ty B m d ty2 i (r+1) k) (exec Γ tys 100 R9 ⟨fill g 0 (MBs V n c ty B m d ty2 i r k),mx V n c ty B m d ty2 vs lo (some (r+1)) x,[(41,[.dyn]),(42,[.dyn])]⟩)=some (.normal,(live (MBs V n c ty B m d ty2 i (r+1) k)).map (SV.ren (piF [0,1,5,3])),(MBs V n c ty B m d ty2 i (r+1) k).length,(mx V n c ty B m d ty2 (vs++zn.vals) (r+1) none x).map (fun b=>some (b.ren (piF [0,1,5,3]))),[65=1*65,0+0+1*65≤65,r*65=vs.length,r+1≤r+1,Room Tryd.prog 33 (r+1)]):=by kernel_rfl
theorem tt (vs:List Value) (i:Int) (r:Nat) (k k1:Int) (R:Nat) (x:Nd) (g:Nat→SV):outN [0,1,2] (MUs V n c ty B m d ty2 i r R) (exec Γ tys 100 T ⟨fill g 0 (MTs V n c ty B m d ty2 i r k R),mx V n c ty B m d ty2 vs R (some (R+1)) x,[(45,[.n k1])]⟩)=some (.normal,(live (MUs V n c ty B m d ty2 i r R)).map (SV.ren (piF [0,1,2])),(MUs V n c ty B m d ty2 i r R).length,(ms V n c ty B m d ty2 (putV (0+offI 0 k 65) x.vals (putV (0+advS R k1.toNat 0 65) (((vs.drop (0+advS R k.toNat 0 65)).take ((r-k.toNat)*65)).take (Nat.min (r-k.toNat) (r-k1.toNat)*65)) vs)) R (some (R+1))).map (fun b=>some (b.ren (piF [0,1,2]))),[IntKind.i64.wrap (k+1)=k1,0≤k1,k1≤r,(r:Int)≤R,0≤k,k≤r,(r:Int)≤R,(0+advS R k.toNat 0 65)+(r-k.toNat)*65≤vs.length,(0+advS R k1.toNat 0 65)+Nat.min (r-k.toNat) (r-k1.toNat)*65≤vs.length,∀v∈((vs.drop (0+advS R k.toNat 0 65)).take ((r-k.toNat)*65)),v.oneCell'=true,0≤k,k<r,0+offI 0 k 65+65≤(putV (0+advS R k1.toNat 0 65) (((vs.drop (0+advS R k.toNat 0 65)).take ((r-k.toNat)*65)).take (Nat.min (r-k.toNat) (r-k1.toNat)*65)) vs).length]):=by kernel_rfl
theorem nx (vs:List Value) (lo:Nat) (hi:Option Nat) (i:Int) (r:Nat) (i':Int) (g:Nat→SV):outX (ms V n c ty B m d ty2 vs lo hi).length (MAs V n c ty B m d ty2 i' r) (exec Γ tys 300 R12 ⟨fill g 0 (MAs V n c ty B m d ty2 i r),ms V n c ty B m d ty2 vs lo hi,[(55,[.n i'])]⟩)=some (.normal,live (MAs V n c ty B m d ty2 i' r),(MAs V n c ty B m d ty2 i' r).length,ms V n c ty B m d ty2 vs lo hi,[IntKind.i64.wrap (i+1)=i']):=by kernel_rfl
theorem setT (i:Int) (r:Nat) (k:Int) (R:Nat) (g:Nat→SV):(fill g 0 (MBs V n c ty B m d ty2 i r k)).set 5 (.o (.a (.sld 2 0 0 r R)))=fill g 0 (MTs V n c ty B m d ty2 i r k R):=by kernel_rfl
theorem setU (i:Int) (r:Nat) (R:Nat) (g:Nat→SV):(fill g 0 (MUs V n c ty B m d ty2 i r R)).set 5 (.o (.a (.slg 2 r)))=fill g 0 (MAs V n c ty B m d ty2 i r):=by kernel_rfl
theorem tail (out:List Nd) (x:Nd) (i:Int) (k:Nat) (hk:k≤out.length) (hb:out.length<4000000) (g:Nat→SV) {Post:Ex→List SV→List Blk→Prop} (h:∀g R,out.length+1≤R→Post .normal (fill g 0 (MUs V n c ty B m d ty2 i (out.length+1) R)) (ms V n c ty B m d ty2 (ah (out.take k++x::out.drop k)) R (some (R+1)))):
  aA Tryd.prog GT 2 T (fill g 0 (MBs V n c ty B m d ty2 i (out.length+1) k)) (mx V n c ty B m d ty2 (ah (out++[zn])) (out.length+1) none x) Post:=by
 refine Runs.nameRoom 5 2 (n:=out.length+1) (own:=true) (ty:=33) (s:=65) (vs:=ah (out++[zn])) (lo:=out.length+1) (hi:=none) rfl rfl fun R hR hle=> ?_
 have hl:(ah (out++[zn])).length=(out.length+1)*65:=by rw[aL];simp
 rw[setT V n c ty B m d ty2 i (out.length+1) k R g]
 have hcp:=ins_cp out k R hk hR
 have hput:=ins_put out x k R hk hR
 have ha:0+advS R k 0 65=k*65:=by unfold advS;rw[if_neg (by omega)];omega
 have ha1:0+advS R (k+1) 0 65+Nat.min (out.length+1-k) (out.length+1-(k+1))*65≤(out.length+1)*65:=by
  have hm:Nat.min (out.length+1-k) (out.length+1-(k+1))=out.length-k:=by
   show min _ _=_
   omega
  rw[hm]
  unfold advS
  split
  ·omega
  ·omega
 refine Runs.aN ak mixed [0,1,2] (tt V n c ty B m d ty2 (ah (out++[zn])) i (out.length+1) k ((k+1:Nat):Int) R x g) ⟨by rw[IntKind.wrap_i64];omega,by omega,by omega,by omega,by omega,by omega,by omega,?_,?_,?_,by omega,by omega,?_,trivial⟩ (iUs V n c ty B m d ty2 _ _ _ _ _ _) rfl fun g=> ?_
 ·rw[hl]
  show 0+advS R k 0 65+(out.length+1-k)*65≤_
  rw[ha]
  omega
 ·rw[hl]
  exact ha1
 ·intro v hv
  exact oneL _ v (List.mem_of_mem_drop (List.mem_of_mem_take hv))
 ·show 0+offI 0 (k:Int) 65+65≤(putV (0+advS R (k+1) 0 65) ((((ah (out++[zn])).drop (0+advS R k 0 65)).take ((out.length+1-k)*65)).take (Nat.min (out.length+1-k) (out.length+1-(k+1))*65)) (ah (out++[zn]))).length
  rw[hcp,offs,aL,List.length_append,List.length_take,List.length_drop,List.length_append,List.length_singleton]
  omega
 ·have e:putV (0+offI 0 (k:Int) 65) x.vals (putV (0+advS R (k+1) 0 65) ((((ah (out++[zn])).drop (0+advS R k 0 65)).take ((out.length+1-k)*65)).take (Nat.min (out.length+1-k) (out.length+1-(k+1))*65)) (ah (out++[zn])))=ah (out.take k++x::out.drop k):=by rw[hcp,hput]
  have:=h g R hR
  rw[←e] at this
  exact this
theorem append (out:List Nd) (x:Nd) (i:Int) (k:Nat) (hk:k≤out.length) (h1:1≤out.length) (hb:out.length<4000000) (g:Nat→SV) {Post:Ex→List SV→List Blk→Prop} (h:∀g R,out.length+1≤R→Post .normal (fill g 0 (MUs V n c ty B m d ty2 i (out.length+1) R)) (ms V n c ty B m d ty2 (ah (out.take k++x::out.drop k)) R (some (R+1)))):
  aA Tryd.prog GT 2 (.seq R9 T) (fill g 0 (MBs V n c ty B m d ty2 i out.length k)) (mx V n c ty B m d ty2 (ah out) out.length none x) Post:=by
 have hl:(ah out).length=out.length*65:=aL out
 have e:ah out++zn.vals=ah (out++[zn]):=by rw[nvals_app,nvals_one]
 refine Runs.roomV 2 (out.length+1) (own:=true) (ty:=33) (s:=65) (vs:=ah out) (lo:=out.length) rfl ?_ ?_
 ·refine Runs.seq (Runs.av ak mixed (apg V n c ty B m d ty2 (ah out) 0 none i out.length k x g) ⟨rfl,by omega,by omega,Nat.le_refl _,oneV zn,trivial⟩ (iBs V n c ty B m d ty2 _ _ _ _ _ _ _) rfl fun g=> ?_)
  rw[e]
  exact tail V n c ty B m d ty2 out x i k hk hb g h
 ·refine Runs.seq (Runs.aN ak mixed [0,1,5,3] (apr V n c ty B m d ty2 (ah out) out.length none i out.length k x g) ⟨rfl,by omega,by omega,Nat.le_refl _,roomN _ (by omega),trivial⟩ (iBs V n c ty B m d ty2 _ _ _ _ _ _ _) rfl fun g=> ?_)
  rw[e]
  exact tail V n c ty B m d ty2 out x i k hk hb g h
theorem inner (out:List Nd) (x:Nd) (i:Int) (h1:1≤out.length) (hb:out.length<4000000) (hx:BOk x.pre) (ho:∀y∈out,BOk y.pre) (g:Nat→SV) {Post:Ex→List SV→List Blk→Prop} (h:∀g R,out.length+1≤R→Post .normal (fill g 0 (MUs V n c ty B m d ty2 i (out.length+1) R)) (ms V n c ty B m d ty2 (ah (insV out x)) R (some (R+1)))):
  aA Tryd.prog GT 2 (csuf 3 X) (fill g 0 (MBs V n c ty B m d ty2 i out.length out.length)) (mx V n c ty B m d ty2 (ah out) out.length none x) Post:=by
 rw[suf_X]
 unfold insV at h
 have fin:∀(k:Nat) (g:Nat→SV),k≤out.length→insK out x out.length=k→aA Tryd.prog GT 2 (.seq R9 T) (fill g 0 (MBs V n c ty B m d ty2 i out.length k)) (mx V n c ty B m d ty2 (ah out) out.length none x) Post:=fun k g hk hv=>by
  rw[hv] at h
  exact append V n c ty B m d ty2 out x i k hk h1 hb g h
 refine Runs.seq (Runs.block ?_)
 refine Runs.loopX (fun(k:Nat)=>MBs V n c ty B m d ty2 i out.length k) (fun _=>mx V n c ty B m d ty2 (ah out) out.length none x) (fun k=>k≤out.length∧insK out x out.length=insK out x k) (fun k=>k) ?_ out.length ⟨Nat.le_refl _,rfl⟩ g
 rintro k g ⟨hk,hv⟩
 cases k with
 | zero=>
  refine Runs.av ak mixed (in0 V n c ty B m d ty2 _ _ _ i out.length _ x g) ⟨decide_eq_false (by omega),trivial⟩ (iBs V n c ty B m d ty2 _ _ _ _ _ _ _) rfl fun g=> ?_
  exact fin 0 g hk (by rw[hv];rfl)
 | succ k=>
  obtain⟨a1,a2⟩:=ld_off out rfl (show k<out.length by omega)
  have hw:IntKind.i64.wrap (((k+1:Nat):Int)-1)=(k:Int):=by rw[IntKind.wrap_i64];omega
  have hy:=ho (out.getD k zn) (bU (by omega) _)
  cases hq:ltV x.pre (out.getD k zn).pre with
  | false=>
   refine Runs.av ak mixed (inx V n c ty B m d ty2 _ _ _ i out.length _ x k (out.getD k zn).pre g) ⟨decide_eq_true (by omega),hw,by omega,by omega,a1,a2,hx,hy,by rw[hq],trivial⟩ (iBs V n c ty B m d ty2 _ _ _ _ _ _ _) rfl fun g=> ?_
   exact fin (k+1) g hk (by rw[hv,insK,hq,cond_false])
  | true=>
   refine Runs.av ak mixed (ing V n c ty B m d ty2 _ _ _ i out.length _ x k (out.getD k zn).pre g) ⟨decide_eq_true (by omega),hw,by omega,by omega,a1,a2,hx,hy,by rw[hq],hw,trivial⟩ (iBs V n c ty B m d ty2 _ _ _ _ _ _ _) rfl fun g=> ?_
   exact⟨k,g,rfl,rfl,⟨by omega,by rw[hv,insK,hq,cond_true]⟩,by omega⟩
theorem run (hn:V.length=n) (hc:n≤c) (hV':aB V) (hm:B.length=m) (hB:AllL B) (hb:n+m≤4000000) (h0:0<n):aA Tryd.prog GT 2 body (aF fn [.o (.a (.sld 0 0 0 n c)),.o (.a (.sld 1 0 0 m d))]) [⟨false,ty,.prv (ah V)⟩,⟨false,ty2,.prv (lvals B)⟩] (ay tys fn (aR (.o (.a (.slg 0 (n+m)))) (.new 33 (.grv 65 (ah (amA V B m)) (n+m) none)))):=by
 have dN:((ah V).drop (0+0)).take (n*65)=ah V:=dtn hn
 have ln:(ah V).length=n*65:=by rw[←hn];exact aL V
 refine Runs.of_outNP ak mixed 2 [0,1,3] (s0 V n c ty B m d ty2) ⟨by omega,h0,roomN n (by omega),trivial⟩ (i0s V n c ty B m d ty2 _ _ _ _) rfl fun g=> ?_
 rw[bJ,dN]
 refine Runs.seq (Runs.seq (Runs.av ak mixed (a1 V n c ty B m d ty2 _ _ _ _ g) trivial (iAs V n c ty B m d ty2 _ _ _ _ _) rfl fun g=> ?_))
 refine Runs.block ?_
 have lb:(lvals B).length=m*64:=by rw[←hm];exact bP B
 refine Runs.loopX (fun(i:Nat)=>MAs V n c ty B m d ty2 ((i:Nat):Int) (n+i)) (fun i=>ms V n c ty B m d ty2 (ah (amA V B i)) (n+i) none) (fun i=>i≤m) (fun i=>m-i) ?_ 0 (Nat.zero_le _) g
 rintro i g hi
 rcases Nat.lt_or_ge i m with h | h
 ·have o64:=offs i 64
  have hb6:i*64+64≤m*64:=by have:=Nat.mul_le_mul_right 64 (show i+1≤m by omega);omega
  have hz:=hB.at (show i<B.length by omega)
  have hlen:=amA_len V B i
  have hoks:=amA_ok hV' hB i (by omega)
  refine Runs.bC ak mixed 2 (hds V n c ty B m d ty2 _ _ _ _ _ g) ⟨decide_eq_true (by omega),trivial⟩ (iAs V n c ty B m d ty2 _ _ _ _ _) rfl fun g=> ?_
  rw[suf_L]
  refine Runs.seq (Runs.block ?_)
  refine Runs.bC ak mixed 3 (lfs V n c ty B m d ty2 _ _ _ _ _ (B.getD i zl) (bE (B.getD i zl)) g) ⟨by omega,by omega,by rw[o64];omega,by rw[o64];exact ld_lf B (by omega),hz,rfl,trivial⟩ (iBs V n c ty B m d ty2 _ _ _ _ _ _ _) rfl fun g=> ?_
  have hx:=leaf_ok hz
  have hA:amA V B (i+1)=insV (amA V B i) (bE (B.getD i zl)):=rfl
  have t:=fun PP=>inner V n c ty B m d ty2 (amA V B i) (bE (B.getD i zl)) ((i:Nat):Int) (by omega) (by omega) hx (fun y hy=>(hoks y hy).1) g (Post:=PP)
  rw[show(amA V B i).length=n+i by omega] at t
  refine t _ (fun g R hR=> ?_)
  show aA _ _ _ R12 _ _ _
  refine Runs.hideRoom 5 2 (n+i+1) (n:=n+i+1) (R:=R) (own:=true) (ty:=33) (s:=65) rfl rfl hR ?_
  show aA _ _ _ R12 ((fill g 0 (MUs V n c ty B m d ty2 ((i:Nat):Int) (n+i+1) R)).set 5 _) _ _
  rw[setU V n c ty B m d ty2 _ _ R g,←hA]
  refine Runs.av ak mixed (nx V n c ty B m d ty2 _ _ _ _ (n+i+1) ((i+1:Nat):Int) g) ⟨by rw[IntKind.wrap_i64];omega,trivial⟩ (iAs V n c ty B m d ty2 _ (n+i+1) none _ _) rfl fun g=> ?_
  exact⟨i+1,g,rfl,rfl,by omega,by omega⟩
 ·obtain rfl:i=m:=by omega
  refine Runs.av ak mixed (ots V n c ty B i d ty2 _ _ _ _ _ g) ⟨decide_eq_false (by omega),trivial⟩ (iDs V n c ty B i d ty2 _ _ _ _) rfl fun g=> ?_
  show aA _ _ _ _ _ _ _
  exact Runs.av ak mixed (fs V n c ty B i d ty2 _ _ _ _ g) trivial (iRs V n c ty B i d ty2 _ _ _ _) rfl fun g=>ay.ret (zs V n c ty B i d ty2 _ _ _ _ g) ⟨2,rfl,rfl⟩
end
end pw
namespace pn
def m0 (V:List Nd) (n c:Nat) (ty:TypeId) (b:Option Addr):List Blk:=[⟨false,ty,.prv (ah V)⟩]
def ms (V:List Nd) (n c:Nat) (ty:TypeId) (b:Option Addr) (vs:List Value) (lo:Nat) (hi:Option Nat):List Blk:=[⟨false,ty,.prv (ah V)⟩,⟨true,33,.grv 65 vs lo hi⟩]
def MAs (V:List Nd) (n c:Nat) (ty:TypeId) (b:Option Addr) (i:Int) (r:Nat):List (Option SV):=aD 57 0 [(1,.o (.a (.v (.slice b 0 0)))),(5,.o (.a (.slg 1 r))),(13,.o (.a (int1 .i64 0))),(14,.o (.a (int1 .i64 i)))]
theorem iAs (V:List Nd) (n c:Nat) (ty:TypeId) (b:Option Addr) (vs:List Value) (lo:Nat) (hi:Option Nat) (i:Int) (r:Nat):aC (ms V n c ty b vs lo hi).length (MAs V n c ty b i r) (ms V n c ty b vs lo hi)=true:=by kernel_rfl
def MDs (V:List Nd) (n c:Nat) (ty:TypeId) (b:Option Addr) (r:Nat):List (Option SV):=aD 57 0 [(5,.o (.a (.slg 1 r)))]
theorem iDs (V:List Nd) (n c:Nat) (ty:TypeId) (b:Option Addr) (vs:List Value) (lo:Nat) (hi:Option Nat) (r:Nat):aC (ms V n c ty b vs lo hi).length (MDs V n c ty b r) (ms V n c ty b vs lo hi)=true:=by kernel_rfl
def MRs (V:List Nd) (n c:Nat) (ty:TypeId) (b:Option Addr) (r:Nat):List (Option SV):=aD 57 0 [(4,.o (.a (.slg 1 r)))]
theorem iRs (V:List Nd) (n c:Nat) (ty:TypeId) (b:Option Addr) (vs:List Value) (lo:Nat) (hi:Option Nat) (r:Nat):aC (ms V n c ty b vs lo hi).length (MRs V n c ty b r) (ms V n c ty b vs lo hi)=true:=by kernel_rfl
def M0s (V:List Nd) (n c:Nat) (ty:TypeId) (b:Option Addr) (r:Nat):List (Option SV):=aD 57 0 [(1,.o (.a (.v (.slice b 0 0)))),(5,.o (.a (.slg 1 r)))]
section
variable (V:List Nd) (n c:Nat) (ty:TypeId) (b:Option Addr)
theorem i0s (vs:List Value) (lo:Nat) (hi:Option Nat) (r:Nat):aC (ms V n c ty b vs lo hi).length (M0s V n c ty b r) (ms V n c ty b vs lo hi)=true:=by kernel_rfl
theorem s0:outN [0,2] (M0s V n c ty b n) (exec Γ tys 100 (cpre 2 body) ⟨aF fn [.o (.a (.sld 0 0 0 n c)),.o (.a (.v (.slice b 0 0)))],m0 V n c ty b ,[]⟩)=some (.normal,(live (M0s V n c ty b n)).map (SV.ren (piF [0,2])),(M0s V n c ty b n).length,(ms V n c ty b (((ah V).drop (0+0)).take (n*65)) n none).map (fun b=>some (b.ren (piF [0,2]))),[0+0+n*65≤(ah V).length,0<n,Room Tryd.prog 33 n]):=by kernel_rfl
theorem a1 (vs:List Value) (lo:Nat) (hi:Option Nat) (r:Nat) (g:Nat→SV):outX (ms V n c ty b vs lo hi).length (MAs V n c ty b 0 r) (exec Γ tys 300 A2 ⟨fill g 0 (M0s V n c ty b r),ms V n c ty b vs lo hi,[]⟩)=some (.normal,live (MAs V n c ty b 0 r),(MAs V n c ty b 0 r).length,ms V n c ty b vs lo hi,[]):=by kernel_rfl
theorem ots (vs:List Value) (lo:Nat) (hi:Option Nat) (r:Nat) (g:Nat→SV):outX (ms V n c ty b vs lo hi).length (MDs V n c ty b r) (exec Γ tys 300 L ⟨fill g 0 (MAs V n c ty b 0 r),ms V n c ty b vs lo hi,[]⟩)=some ((.exit 0),live (MDs V n c ty b r),(MDs V n c ty b r).length,ms V n c ty b vs lo hi,[]):=by kernel_rfl
theorem fs (vs:List Value) (lo:Nat) (hi:Option Nat) (r:Nat) (g:Nat→SV):outX (ms V n c ty b vs lo hi).length (MRs V n c ty b r) (exec Γ tys 300 D ⟨fill g 0 (MDs V n c ty b r),ms V n c ty b vs lo hi,[]⟩)=some (.ret,live (MRs V n c ty b r),(MRs V n c ty b r).length,ms V n c ty b vs lo hi,[]):=by kernel_rfl
theorem zs (vs:List Value) (lo:Nat) (hi:Option Nat) (r:Nat) (g:Nat→SV):eRes tys (fill g 0 (MRs V n c ty b r)) (fun k=>(ms V n c ty b vs lo hi)[k]?) fn.results.toList=some [.a (.slg 1 r)]:=by kernel_rfl
theorem run (hn:V.length=n) (hc:n≤c) (hV':aB V) (hb:n≤4000000) (h0:0<n):aA Tryd.prog GT 1 body (aF fn [.o (.a (.sld 0 0 0 n c)),.o (.a (.v (.slice b 0 0)))]) [⟨false,ty,.prv (ah V)⟩] (ay tys fn (aR (.o (.a (.slg 0 (n+0)))) (.new 33 (.grv 65 (ah (amA V [] 0)) (n+0) none)))):=by
 have dN:((ah V).drop (0+0)).take (n*65)=ah V:=dtn hn
 have ln:(ah V).length=n*65:=by rw[←hn];exact aL V
 refine Runs.of_outNP ak mixed 2 [0,2] (s0 V n c ty b) ⟨by omega,h0,roomN n (by omega),trivial⟩ (i0s V n c ty b _ _ _ _) rfl fun g=> ?_
 rw[bJ,dN]
 refine Runs.seq (Runs.seq (Runs.av ak mixed (a1 V n c ty b _ _ _ _ g) trivial (iAs V n c ty b _ _ _ _ _) rfl fun g=> ?_))
 refine Runs.block ?_
 refine Runs.loopX (fun(_:Unit)=>MAs V n c ty b 0 n) (fun _=>ms V n c ty b (ah V) n none) (fun _=>True) (fun _=>0) ?_ () trivial g
 rintro _ g _
 refine Runs.av ak mixed (ots V n c ty b _ _ _ _ g) trivial (iDs V n c ty b _ _ _ _) rfl fun g=> ?_
 show aA _ _ _ _ _ _ _
 exact Runs.av ak mixed (fs V n c ty b _ _ _ _ g) trivial (iRs V n c ty b _ _ _ _) rfl fun g=>ay.ret (zs V n c ty b _ _ _ _ g) ⟨1,rfl,rfl⟩
end
end pn
namespace zw
def m0 (V:List Nd) (n c:Nat) (ty:TypeId) (B:List Lf) (m d:Nat) (ty2:TypeId):List Blk:=[⟨false,ty,.prv (ah V)⟩,⟨false,ty2,.prv (lvals B)⟩]
def ms (V:List Nd) (n c:Nat) (ty:TypeId) (B:List Lf) (m d:Nat) (ty2:TypeId) (vs:List Value) (lo:Nat) (hi:Option Nat):List Blk:=[⟨false,ty,.prv (ah V)⟩,⟨false,ty2,.prv (lvals B)⟩,⟨true,33,.grv 65 vs lo hi⟩]
def mx (V:List Nd) (n c:Nat) (ty:TypeId) (B:List Lf) (m d:Nat) (ty2:TypeId) (vs:List Value) (lo:Nat) (hi:Option Nat) (x:Nd):List Blk:=[⟨false,ty,.prv (ah V)⟩,⟨false,ty2,.prv (lvals B)⟩,⟨true,33,.grv 65 vs lo hi⟩,⟨true,33,.lit x.row⟩]
def MAs (V:List Nd) (n c:Nat) (ty:TypeId) (B:List Lf) (m d:Nat) (ty2:TypeId) (i:Int) (r:Nat):List (Option SV):=aD 57 0 [(1,.o (.a (.sld 1 0 0 m d))),(5,.o (.a (.slg 2 r))),(13,.o (.a (int1 .i64 m))),(14,.o (.a (int1 .i64 i)))]
theorem iAs (V:List Nd) (n c:Nat) (ty:TypeId) (B:List Lf) (m d:Nat) (ty2:TypeId) (vs:List Value) (lo:Nat) (hi:Option Nat) (i:Int) (r:Nat):aC (ms V n c ty B m d ty2 vs lo hi).length (MAs V n c ty B m d ty2 i r) (ms V n c ty B m d ty2 vs lo hi)=true:=by kernel_rfl
def MDs (V:List Nd) (n c:Nat) (ty:TypeId) (B:List Lf) (m d:Nat) (ty2:TypeId) (r:Nat):List (Option SV):=aD 57 0 [(5,.o (.a (.slg 2 r)))]
theorem iDs (V:List Nd) (n c:Nat) (ty:TypeId) (B:List Lf) (m d:Nat) (ty2:TypeId) (vs:List Value) (lo:Nat) (hi:Option Nat) (r:Nat):aC (ms V n c ty B m d ty2 vs lo hi).length (MDs V n c ty B m d ty2 r) (ms V n c ty B m d ty2 vs lo hi)=true:=by kernel_rfl
def MRs (V:List Nd) (n c:Nat) (ty:TypeId) (B:List Lf) (m d:Nat) (ty2:TypeId) (r:Nat):List (Option SV):=aD 57 0 [(4,.o (.a (.slg 2 r)))]
theorem iRs (V:List Nd) (n c:Nat) (ty:TypeId) (B:List Lf) (m d:Nat) (ty2:TypeId) (vs:List Value) (lo:Nat) (hi:Option Nat) (r:Nat):aC (ms V n c ty B m d ty2 vs lo hi).length (MRs V n c ty B m d ty2 r) (ms V n c ty B m d ty2 vs lo hi)=true:=by kernel_rfl
def m0z (V:List Nd) (n c:Nat) (ty:TypeId) (B:List Lf) (m d:Nat) (ty2:TypeId):List Blk:=[⟨false,ty,.prv (ah V)⟩,⟨false,ty2,.prv (lvals B)⟩,⟨true,33,.lit []⟩]
def M0z (V:List Nd) (n c:Nat) (ty:TypeId) (B:List Lf) (m d:Nat) (ty2:TypeId):List (Option SV):=aD 57 0 [(1,.o (.a (.sld 1 0 0 m d))),(5,.o (.a (.slc 2 0 0 0)))]
def MAz (V:List Nd) (n c:Nat) (ty:TypeId) (B:List Lf) (m d:Nat) (ty2:TypeId):List (Option SV):=aD 57 0 [(1,.o (.a (.sld 1 0 0 m d))),(5,.o (.a (.slc 2 0 0 0))),(13,.o (.a (int1 .i64 m))),(14,.o (.a (int1 .i64 0)))]
def MDz (V:List Nd) (n c:Nat) (ty:TypeId) (B:List Lf) (m d:Nat) (ty2:TypeId):List (Option SV):=aD 57 0 [(5,.o (.a (.slc 2 0 0 0)))]
def MRz (V:List Nd) (n c:Nat) (ty:TypeId) (B:List Lf) (m d:Nat) (ty2:TypeId):List (Option SV):=aD 57 0 [(4,.o (.a (.slc 2 0 0 0)))]
section
variable (V:List Nd) (n c:Nat) (ty:TypeId) (B:List Lf) (m d:Nat) (ty2:TypeId)
theorem i0z:aC (m0z V n c ty B m d ty2 ).length (M0z V n c ty B m d ty2 ) (m0z V n c ty B m d ty2 )=true:=by kernel_rfl
theorem iAz:aC (m0z V n c ty B m d ty2 ).length (MAz V n c ty B m d ty2 ) (m0z V n c ty B m d ty2 )=true:=by kernel_rfl
theorem iDz:aC (m0z V n c ty B m d ty2 ).length (MDz V n c ty B m d ty2 ) (m0z V n c ty B m d ty2 )=true:=by kernel_rfl
theorem iRz:aC (m0z V n c ty B m d ty2 ).length (MRz V n c ty B m d ty2 ) (m0z V n c ty B m d ty2 )=true:=by kernel_rfl
theorem s0:outX (m0z V n c ty B m d ty2 ).length (M0z V n c ty B m d ty2 ) (exec Γ tys 300 (cpre 2 body) ⟨aF fn [.o (.a (.sld 0 0 0 n c)),.o (.a (.sld 1 0 0 m d))],m0 V n c ty B m d ty2 ,[(11,[.dyn])]⟩)=some (.normal,live (M0z V n c ty B m d ty2 ),(M0z V n c ty B m d ty2 ).length,m0z V n c ty B m d ty2 ,[0+0+n*65≤(ah V).length,n=0]):=by kernel_rfl
theorem a1z (g:Nat→SV):outX (m0z V n c ty B m d ty2 ).length (MAz V n c ty B m d ty2 ) (exec Γ tys 300 A2 ⟨fill g 0 (M0z V n c ty B m d ty2 ),m0z V n c ty B m d ty2 ,[]⟩)=some (.normal,live (MAz V n c ty B m d ty2 ),(MAz V n c ty B m d ty2 ).length,m0z V n c ty B m d ty2 ,[]):=by kernel_rfl
theorem otz (g:Nat→SV):outX (m0z V n c ty B m d ty2 ).length (MDz V n c ty B m d ty2 ) (exec Γ tys 300 L ⟨fill g 0 (MAz V n c ty B m d ty2 ),m0z V n c ty B m d ty2 ,[(15,[.b false])]⟩)=some ((.exit 0),live (MDz V n c ty B m d ty2 ),(MDz V n c ty B m d ty2 ).length,m0z V n c ty B m d ty2 ,[decide ((0:Int)<m)=false]):=by kernel_rfl
theorem fz (g:Nat→SV):outX (m0z V n c ty B m d ty2 ).length (MRz V n c ty B m d ty2 ) (exec Γ tys 300 D ⟨fill g 0 (MDz V n c ty B m d ty2 ),m0z V n c ty B m d ty2 ,[]⟩)=some (.ret,live (MRz V n c ty B m d ty2 ),(MRz V n c ty B m d ty2 ).length,m0z V n c ty B m d ty2 ,[]):=by kernel_rfl
theorem zz (g:Nat→SV):eRes tys (fill g 0 (MRz V n c ty B m d ty2 )) (fun k=>(m0z V n c ty B m d ty2 )[k]?) fn.results.toList=some [.a (.slc 2 0 0 0)]:=by kernel_rfl
theorem ots (vs:List Value) (lo:Nat) (hi:Option Nat) (i:Int) (r:Nat) (g:Nat→SV):outX (ms V n c ty B m d ty2 vs lo hi).length (MDs V n c ty B m d ty2 r) (exec Γ tys 300 L ⟨fill g 0 (MAs V n c ty B m d ty2 i r),ms V n c ty B m d ty2 vs lo hi,[(15,[.b false])]⟩)=some ((.exit 0),live (MDs V n c ty B m d ty2 r),(MDs V n c ty B m d ty2 r).length,ms V n c ty B m d ty2 vs lo hi,[decide (i<m)=false]):=by kernel_rfl
theorem fs (vs:List Value) (lo:Nat) (hi:Option Nat) (r:Nat) (g:Nat→SV):outX (ms V n c ty B m d ty2 vs lo hi).length (MRs V n c ty B m d ty2 r) (exec Γ tys 300 D ⟨fill g 0 (MDs V n c ty B m d ty2 r),ms V n c ty B m d ty2 vs lo hi,[]⟩)=some (.ret,live (MRs V n c ty B m d ty2 r),(MRs V n c ty B m d ty2 r).length,ms V n c ty B m d ty2 vs lo hi,[]):=by kernel_rfl
theorem zs (vs:List Value) (lo:Nat) (hi:Option Nat) (r:Nat) (g:Nat→SV):eRes tys (fill g 0 (MRs V n c ty B m d ty2 r)) (fun k=>(ms V n c ty B m d ty2 vs lo hi)[k]?) fn.results.toList=some [.a (.slg 2 r)]:=by kernel_rfl
end
def MBs (V:List Nd) (n c:Nat) (ty:TypeId) (B:List Lf) (m d:Nat) (ty2:TypeId) (i:Int) (r:Nat) (k:Int):List (Option SV):=aD 57 0 [(1,.o (.a (.sld 1 0 0 m d))),(5,.o (.a (.slg 2 r))),(7,.o (.a (.ptr 3 0))),(8,.o (.a (int1 .i64 k))),(13,.o (.a (int1 .i64 m))),(14,.o (.a (int1 .i64 i)))]
theorem iBs (V:List Nd) (n c:Nat) (ty:TypeId) (B:List Lf) (m d:Nat) (ty2:TypeId) (vs:List Value) (lo:Nat) (hi:Option Nat) (i:Int) (r:Nat) (k:Int) (x:Nd):aC (mx V n c ty B m d ty2 vs lo hi x).length (MBs V n c ty B m d ty2 i r k) (mx V n c ty B m d ty2 vs lo hi x)=true:=by kernel_rfl
def MTs (V:List Nd) (n c:Nat) (ty:TypeId) (B:List Lf) (m d:Nat) (ty2:TypeId) (i:Int) (r:Nat) (k:Int) (R:Nat):List (Option SV):=aD 57 0 [(1,.o (.a (.sld 1 0 0 m d))),(5,.o (.a (.sld 2 0 0 r R))),(7,.o (.a (.ptr 3 0))),(8,.o (.a (int1 .i64 k))),(13,.o (.a (int1 .i64 m))),(14,.o (.a (int1 .i64 i)))]
def MUs (V:List Nd) (n c:Nat) (ty:TypeId) (B:List Lf) (m d:Nat) (ty2:TypeId) (i:Int) (r:Nat) (R:Nat):List (Option SV):=aD 57 0 [(1,.o (.a (.sld 1 0 0 m d))),(5,.o (.a (.sld 2 0 0 r R))),(13,.o (.a (int1 .i64 m))),(14,.o (.a (int1 .i64 i)))]
theorem iUs (V:List Nd) (n c:Nat) (ty:TypeId) (B:List Lf) (m d:Nat) (ty2:TypeId) (vs:List Value) (lo:Nat) (hi:Option Nat) (i:Int) (r:Nat) (R:Nat):aC (ms V n c ty B m d ty2 vs lo hi).length (MUs V n c ty B m d ty2 i r R) (ms V n c ty B m d ty2 vs lo hi)=true:=by kernel_rfl
def mz (V:List Nd) (n c:Nat) (ty:TypeId) (B:List Lf) (m d:Nat) (ty2:TypeId) (x:Nd):List Blk:=[⟨false,ty,.prv (ah V)⟩,⟨false,ty2,.prv (lvals B)⟩,⟨true,33,.lit []⟩,⟨true,33,.lit x.row⟩]
def MBz (V:List Nd) (n c:Nat) (ty:TypeId) (B:List Lf) (m d:Nat) (ty2:TypeId):List (Option SV):=aD 57 0 [(1,.o (.a (.sld 1 0 0 m d))),(5,.o (.a (.slc 2 0 0 0))),(7,.o (.a (.ptr 3 0))),(8,.o (.a (int1 .i64 0))),(13,.o (.a (int1 .i64 m))),(14,.o (.a (int1 .i64 0)))]
section
variable (V:List Nd) (n c:Nat) (ty:TypeId) (B:List Lf) (m d:Nat) (ty2:TypeId)
theorem iBz (x:Nd):aC (mz V n c ty B m d ty2 x).length (MBz V n c ty B m d ty2 ) (mz V n c ty B m d ty2 x)=true:=by kernel_rfl
theorem hdz (g:Nat→SV):outX (m0z V n c ty B m d ty2 ).length (MAz V n c ty B m d ty2 ) (exec Γ tys 300 (cpre 2 L) ⟨fill g 0 (MAz V n c ty B m d ty2 ),m0z V n c ty B m d ty2 ,[(15,[.b true])]⟩)=some (.normal,live (MAz V n c ty B m d ty2 ),(MAz V n c ty B m d ty2 ).length,m0z V n c ty B m d ty2 ,[decide ((0:Int)<m)=true]):=by kernel_rfl
theorem lfz (z:Lf) (x:Nd) (g:Nat→SV):outX (mz V n c ty B m d ty2 x).length (MBz V n c ty B m d ty2 ) (exec Γ tys 300 (cpre 3 X) ⟨fill g 0 (MAz V n c ty B m d ty2 ),m0z V n c ty B m d ty2 ,[(20,[.ds (cLf.enc z)]),(21,[.s (cNd.enc x)])]⟩)=some (.normal,live (MBz V n c ty B m d ty2 ),(MBz V n c ty B m d ty2 ).length,mz V n c ty B m d ty2 x,[0≤(0:Int),(0:Int)<m,0+offI 0 0 64+64≤(lvals B).length,SV.o (.g (aZ (lvals B) (0+offI 0 0 64) 64))=cLf.enc z,LOk z,cNd.enc (bE z)=cNd.enc x]):=by kernel_rfl
theorem inz (x:Nd) (g:Nat→SV):outX (mz V n c ty B m d ty2 x).length (MBz V n c ty B m d ty2 ) (exec Γ tys 300 LI ⟨fill g 0 (MBz V n c ty B m d ty2 ),mz V n c ty B m d ty2 x,[]⟩)=some ((.exit 2),live (MBz V n c ty B m d ty2 ),(MBz V n c ty B m d ty2 ).length,mz V n c ty B m d ty2 x,[]):=by kernel_rfl
theorem apz (x:Nd) (g:Nat→SV):outN [0,1,5,3] (MBs V n c ty B m d ty2 0 1 0) (exec Γ tys 100 R9 ⟨fill g 0 (MBz V n c ty B m d ty2 ),mz V n c ty B m d ty2 x,[(41,[.dyn])]⟩)=some (.normal,(live (MBs V n c ty B m d ty2 0 1 0)).map (SV.ren (piF [0,1,5,3])),(MBs V n c ty B m d ty2 0 1 0).length,(mx V n c ty B m d ty2 zn.vals 1 none x).map (fun b=>some (b.ren (piF [0,1,5,3]))),[65=1*65,0+0+1*65≤65,0<1,Room Tryd.prog 33 1]):=by kernel_rfl
theorem hds (vs:List Value) (lo:Nat) (hi:Option Nat) (i:Int) (r:Nat) (g:Nat→SV):outX (ms V n c ty B m d ty2 vs lo hi).length (MAs V n c ty B m d ty2 i r) (exec Γ tys 300 (cpre 2 L) ⟨fill g 0 (MAs V n c ty B m d ty2 i r),ms V n c ty B m d ty2 vs lo hi,[(15,[.b true])]⟩)=some (.normal,live (MAs V n c ty B m d ty2 i r),(MAs V n c ty B m d ty2 i r).length,ms V n c ty B m d ty2 vs lo hi,[decide (i<m)=true]):=by kernel_rfl
theorem lfs (vs:List Value) (lo:Nat) (hi:Option Nat) (i:Int) (r:Nat) (z:Lf) (x:Nd) (g:Nat→SV):outX (mx V n c ty B m d ty2 vs lo hi x).length (MBs V n c ty B m d ty2 i r r) (exec Γ tys 300 (cpre 3 X) ⟨fill g 0 (MAs V n c ty B m d ty2 i r),ms V n c ty B m d ty2 vs lo hi,[(20,[.ds (cLf.enc z)]),(21,[.s (cNd.enc x)])]⟩)=some (.normal,live (MBs V n c ty B m d ty2 i r r),(MBs V n c ty B m d ty2 i r r).length,mx V n c ty B m d ty2 vs lo hi x,[0≤i,i<m,0+offI 0 i 64+64≤(lvals B).length,SV.o (.g (aZ (lvals B) (0+offI 0 i 64) 64))=cLf.enc z,LOk z,cNd.enc (bE z)=cNd.enc x]):=by kernel_rfl
theorem in0 (vs:List Value) (lo:Nat) (hi:Option Nat) (i:Int) (r:Nat) (k:Int) (x:Nd) (g:Nat→SV):outX (mx V n c ty B m d ty2 vs lo hi x).length (MBs V n c ty B m d ty2 i r k) (exec Γ tys 300 LI ⟨fill g 0 (MBs V n c ty B m d ty2 i r k),mx V n c ty B m d ty2 vs lo hi x,[(25,[.b false])]⟩)=some ((.exit 2),live (MBs V n c ty B m d ty2 i r k),(MBs V n c ty B m d ty2 i r k).length,mx V n c ty B m d ty2 vs lo hi x,[decide (k>0)=false]):=by kernel_rfl
theorem inx (vs:List Value) (lo:Nat) (hi:Option Nat) (i:Int) (r:Nat) (k:Int) (x:Nd) (k':Int) (y:B32) (g:Nat→SV):outX (mx V n c ty B m d ty2 vs lo hi x).length (MBs V n c ty B m d ty2 i r k) (exec Γ tys 300 LI ⟨fill g 0 (MBs V n c ty B m d ty2 i r k),mx V n c ty B m d ty2 vs lo hi x,[(25,[.b true]),(31,[.n k']),(34,[.ds (cB32.enc y)]),(35,[.s (aG.enc false)])]⟩)=some ((.exit 2),live (MBs V n c ty B m d ty2 i r k),(MBs V n c ty B m d ty2 i r k).length,mx V n c ty B m d ty2 vs lo hi x,[decide (k>0)=true,IntKind.i64.wrap (k-1)=k',0≤k',k'<r,0+(offI 0 k' 65+1)+32≤vs.length,SV.o (.g (aZ vs (0+(offI 0 k' 65+1)) 32))=cB32.enc y,BOk x.pre,BOk y,aG.enc (ltV x.pre y)=aG.enc false]):=by kernel_rfl
theorem ing (vs:List Value) (lo:Nat) (hi:Option Nat) (i:Int) (r:Nat) (k:Int) (x:Nd) (k':Int) (y:B32) (g:Nat→SV):outX (mx V n c ty B m d ty2 vs lo hi x).length (MBs V n c ty B m d ty2 i r k') (exec Γ tys 300 LI ⟨fill g 0 (MBs V n c ty B m d ty2 i r k),mx V n c ty B m d ty2 vs lo hi x,[(25,[.b true]),(31,[.n k']),(34,[.ds (cB32.enc y)]),(35,[.s (aG.enc true)]),(38,[.n k'])]⟩)=some (.normal,live (MBs V n c ty B m d ty2 i r k'),(MBs V n c ty B m d ty2 i r k').length,mx V n c ty B m d ty2 vs lo hi x,[decide (k>0)=true,IntKind.i64.wrap (k-1)=k',0≤k',k'<r,0+(offI 0 k' 65+1)+32≤vs.length,SV.o (.g (aZ vs (0+(offI 0 k' 65+1)) 32))=cB32.enc y,BOk x.pre,BOk y,aG.enc (ltV x.pre y)=aG.enc true,IntKind.i64.wrap (k-1)=k']):=by kernel_rfl
theorem apg (vs:List Value) (lo:Nat) (hi:Option Nat) (i:Int) (r:Nat) (k:Int) (x:Nd) (g:Nat→SV):outX (mx V n c ty B m d ty2 (vs++zn.vals) (r+1) none x).length (MBs V n c ty B m d ty2 i (r+1) k) (exec Γ tys 300 R9 ⟨fill g 0 (MBs V n c ty B m d ty2 i r k),mx V n c ty B m d ty2 vs (r+1) none x,[(41,[.dyn]),(42,[.dyn])]⟩)=some (.normal,live (MBs V n c ty B m d ty2 i (r+1) k),(MBs V n c ty B m d ty2 i (r+1) k).length,mx V n c ty B m d ty2 (vs++zn.vals) (r+1) none x,[65=1*65,0+0+1*65≤65,r*65=vs.length,r+1≤r+1,∀v∈zn.vals,v.oneCell'=true]):=by kernel_rfl
theorem apr (vs:List Value) (lo:Nat) (hi:Option Nat) (i:Int) (r:Nat) (k:Int) (x:Nd) (g:Nat→SV):outN [0,1,5,3] (MBs V n c ty B m d ty2 i (r+1) k) (exec Γ tys 100 R9 ⟨fill g 0 (MBs V n c ty B m d ty2 i r k),mx V n c ty B m d ty2 vs lo (some (r+1)) x,[(41,[.dyn]),(42,[.dyn])]⟩)=some (.normal,(live (MBs V n c ty B m d ty2 i (r+1) k)).map (SV.ren (piF [0,1,5,3])),(MBs V n c ty B m d ty2 i (r+1) k).length,(mx V n c ty B m d ty2 (vs++zn.vals) (r+1) none x).map (fun b=>some (b.ren (piF [0,1,5,3]))),[65=1*65,0+0+1*65≤65,r*65=vs.length,r+1≤r+1,Room Tryd.prog 33 (r+1)]):=by kernel_rfl
theorem tt (vs:List Value) (i:Int) (r:Nat) (k k1:Int) (R:Nat) (x:Nd) (g:Nat→SV):outN [0,1,2] (MUs V n c ty B m d ty2 i r R) (exec Γ tys 100 T ⟨fill g 0 (MTs V n c ty B m d ty2 i r k R),mx V n c ty B m d ty2 vs R (some (R+1)) x,[(45,[.n k1])]⟩)=some (.normal,(live (MUs V n c ty B m d ty2 i r R)).map (SV.ren (piF [0,1,2])),(MUs V n c ty B m d ty2 i r R).length,(ms V n c ty B m d ty2 (putV (0+offI 0 k 65) x.vals (putV (0+advS R k1.toNat 0 65) (((vs.drop (0+advS R k.toNat 0 65)).take ((r-k.toNat)*65)).take (Nat.min (r-k.toNat) (r-k1.toNat)*65)) vs)) R (some (R+1))).map (fun b=>some (b.ren (piF [0,1,2]))),[IntKind.i64.wrap (k+1)=k1,0≤k1,k1≤r,(r:Int)≤R,0≤k,k≤r,(r:Int)≤R,(0+advS R k.toNat 0 65)+(r-k.toNat)*65≤vs.length,(0+advS R k1.toNat 0 65)+Nat.min (r-k.toNat) (r-k1.toNat)*65≤vs.length,∀v∈((vs.drop (0+advS R k.toNat 0 65)).take ((r-k.toNat)*65)),v.oneCell'=true,0≤k,k<r,0+offI 0 k 65+65≤(putV (0+advS R k1.toNat 0 65) (((vs.drop (0+advS R k.toNat 0 65)).take ((r-k.toNat)*65)).take (Nat.min (r-k.toNat) (r-k1.toNat)*65)) vs).length]):=by kernel_rfl
theorem nx (vs:List Value) (lo:Nat) (hi:Option Nat) (i:Int) (r:Nat) (i':Int) (g:Nat→SV):outX (ms V n c ty B m d ty2 vs lo hi).length (MAs V n c ty B m d ty2 i' r) (exec Γ tys 300 R12 ⟨fill g 0 (MAs V n c ty B m d ty2 i r),ms V n c ty B m d ty2 vs lo hi,[(55,[.n i'])]⟩)=some (.normal,live (MAs V n c ty B m d ty2 i' r),(MAs V n c ty B m d ty2 i' r).length,ms V n c ty B m d ty2 vs lo hi,[IntKind.i64.wrap (i+1)=i']):=by kernel_rfl
theorem setT (i:Int) (r:Nat) (k:Int) (R:Nat) (g:Nat→SV):(fill g 0 (MBs V n c ty B m d ty2 i r k)).set 5 (.o (.a (.sld 2 0 0 r R)))=fill g 0 (MTs V n c ty B m d ty2 i r k R):=by kernel_rfl
theorem setU (i:Int) (r:Nat) (R:Nat) (g:Nat→SV):(fill g 0 (MUs V n c ty B m d ty2 i r R)).set 5 (.o (.a (.slg 2 r)))=fill g 0 (MAs V n c ty B m d ty2 i r):=by kernel_rfl
theorem tail (out:List Nd) (x:Nd) (i:Int) (k:Nat) (hk:k≤out.length) (hb:out.length<4000000) (g:Nat→SV) {Post:Ex→List SV→List Blk→Prop} (h:∀g R,out.length+1≤R→Post .normal (fill g 0 (MUs V n c ty B m d ty2 i (out.length+1) R)) (ms V n c ty B m d ty2 (ah (out.take k++x::out.drop k)) R (some (R+1)))):
  aA Tryd.prog GT 2 T (fill g 0 (MBs V n c ty B m d ty2 i (out.length+1) k)) (mx V n c ty B m d ty2 (ah (out++[zn])) (out.length+1) none x) Post:=by
 refine Runs.nameRoom 5 2 (n:=out.length+1) (own:=true) (ty:=33) (s:=65) (vs:=ah (out++[zn])) (lo:=out.length+1) (hi:=none) rfl rfl fun R hR hle=> ?_
 have hl:(ah (out++[zn])).length=(out.length+1)*65:=by rw[aL];simp
 rw[setT V n c ty B m d ty2 i (out.length+1) k R g]
 have hcp:=ins_cp out k R hk hR
 have hput:=ins_put out x k R hk hR
 have ha:0+advS R k 0 65=k*65:=by unfold advS;rw[if_neg (by omega)];omega
 have ha1:0+advS R (k+1) 0 65+Nat.min (out.length+1-k) (out.length+1-(k+1))*65≤(out.length+1)*65:=by
  have hm:Nat.min (out.length+1-k) (out.length+1-(k+1))=out.length-k:=by
   show min _ _=_
   omega
  rw[hm]
  unfold advS
  split
  ·omega
  ·omega
 refine Runs.aN ak mixed [0,1,2] (tt V n c ty B m d ty2 (ah (out++[zn])) i (out.length+1) k ((k+1:Nat):Int) R x g) ⟨by rw[IntKind.wrap_i64];omega,by omega,by omega,by omega,by omega,by omega,by omega,?_,?_,?_,by omega,by omega,?_,trivial⟩ (iUs V n c ty B m d ty2 _ _ _ _ _ _) rfl fun g=> ?_
 ·rw[hl]
  show 0+advS R k 0 65+(out.length+1-k)*65≤_
  rw[ha]
  omega
 ·rw[hl]
  exact ha1
 ·intro v hv
  exact oneL _ v (List.mem_of_mem_drop (List.mem_of_mem_take hv))
 ·show 0+offI 0 (k:Int) 65+65≤(putV (0+advS R (k+1) 0 65) ((((ah (out++[zn])).drop (0+advS R k 0 65)).take ((out.length+1-k)*65)).take (Nat.min (out.length+1-k) (out.length+1-(k+1))*65)) (ah (out++[zn]))).length
  rw[hcp,offs,aL,List.length_append,List.length_take,List.length_drop,List.length_append,List.length_singleton]
  omega
 ·have e:putV (0+offI 0 (k:Int) 65) x.vals (putV (0+advS R (k+1) 0 65) ((((ah (out++[zn])).drop (0+advS R k 0 65)).take ((out.length+1-k)*65)).take (Nat.min (out.length+1-k) (out.length+1-(k+1))*65)) (ah (out++[zn])))=ah (out.take k++x::out.drop k):=by rw[hcp,hput]
  have:=h g R hR
  rw[←e] at this
  exact this
theorem append (out:List Nd) (x:Nd) (i:Int) (k:Nat) (hk:k≤out.length) (h1:1≤out.length) (hb:out.length<4000000) (g:Nat→SV) {Post:Ex→List SV→List Blk→Prop} (h:∀g R,out.length+1≤R→Post .normal (fill g 0 (MUs V n c ty B m d ty2 i (out.length+1) R)) (ms V n c ty B m d ty2 (ah (out.take k++x::out.drop k)) R (some (R+1)))):
  aA Tryd.prog GT 2 (.seq R9 T) (fill g 0 (MBs V n c ty B m d ty2 i out.length k)) (mx V n c ty B m d ty2 (ah out) out.length none x) Post:=by
 have hl:(ah out).length=out.length*65:=aL out
 have e:ah out++zn.vals=ah (out++[zn]):=by rw[nvals_app,nvals_one]
 refine Runs.roomV 2 (out.length+1) (own:=true) (ty:=33) (s:=65) (vs:=ah out) (lo:=out.length) rfl ?_ ?_
 ·refine Runs.seq (Runs.av ak mixed (apg V n c ty B m d ty2 (ah out) 0 none i out.length k x g) ⟨rfl,by omega,by omega,Nat.le_refl _,oneV zn,trivial⟩ (iBs V n c ty B m d ty2 _ _ _ _ _ _ _) rfl fun g=> ?_)
  rw[e]
  exact tail V n c ty B m d ty2 out x i k hk hb g h
 ·refine Runs.seq (Runs.aN ak mixed [0,1,5,3] (apr V n c ty B m d ty2 (ah out) out.length none i out.length k x g) ⟨rfl,by omega,by omega,Nat.le_refl _,roomN _ (by omega),trivial⟩ (iBs V n c ty B m d ty2 _ _ _ _ _ _ _) rfl fun g=> ?_)
  rw[e]
  exact tail V n c ty B m d ty2 out x i k hk hb g h
theorem inner (out:List Nd) (x:Nd) (i:Int) (h1:1≤out.length) (hb:out.length<4000000) (hx:BOk x.pre) (ho:∀y∈out,BOk y.pre) (g:Nat→SV) {Post:Ex→List SV→List Blk→Prop} (h:∀g R,out.length+1≤R→Post .normal (fill g 0 (MUs V n c ty B m d ty2 i (out.length+1) R)) (ms V n c ty B m d ty2 (ah (insV out x)) R (some (R+1)))):
  aA Tryd.prog GT 2 (csuf 3 X) (fill g 0 (MBs V n c ty B m d ty2 i out.length out.length)) (mx V n c ty B m d ty2 (ah out) out.length none x) Post:=by
 rw[suf_X]
 unfold insV at h
 have fin:∀(k:Nat) (g:Nat→SV),k≤out.length→insK out x out.length=k→aA Tryd.prog GT 2 (.seq R9 T) (fill g 0 (MBs V n c ty B m d ty2 i out.length k)) (mx V n c ty B m d ty2 (ah out) out.length none x) Post:=fun k g hk hv=>by
  rw[hv] at h
  exact append V n c ty B m d ty2 out x i k hk h1 hb g h
 refine Runs.seq (Runs.block ?_)
 refine Runs.loopX (fun(k:Nat)=>MBs V n c ty B m d ty2 i out.length k) (fun _=>mx V n c ty B m d ty2 (ah out) out.length none x) (fun k=>k≤out.length∧insK out x out.length=insK out x k) (fun k=>k) ?_ out.length ⟨Nat.le_refl _,rfl⟩ g
 rintro k g ⟨hk,hv⟩
 cases k with
 | zero=>
  refine Runs.av ak mixed (in0 V n c ty B m d ty2 _ _ _ i out.length _ x g) ⟨decide_eq_false (by omega),trivial⟩ (iBs V n c ty B m d ty2 _ _ _ _ _ _ _) rfl fun g=> ?_
  exact fin 0 g hk (by rw[hv];rfl)
 | succ k=>
  obtain⟨a1,a2⟩:=ld_off out rfl (show k<out.length by omega)
  have hw:IntKind.i64.wrap (((k+1:Nat):Int)-1)=(k:Int):=by rw[IntKind.wrap_i64];omega
  have hy:=ho (out.getD k zn) (bU (by omega) _)
  cases hq:ltV x.pre (out.getD k zn).pre with
  | false=>
   refine Runs.av ak mixed (inx V n c ty B m d ty2 _ _ _ i out.length _ x k (out.getD k zn).pre g) ⟨decide_eq_true (by omega),hw,by omega,by omega,a1,a2,hx,hy,by rw[hq],trivial⟩ (iBs V n c ty B m d ty2 _ _ _ _ _ _ _) rfl fun g=> ?_
   exact fin (k+1) g hk (by rw[hv,insK,hq,cond_false])
  | true=>
   refine Runs.av ak mixed (ing V n c ty B m d ty2 _ _ _ i out.length _ x k (out.getD k zn).pre g) ⟨decide_eq_true (by omega),hw,by omega,by omega,a1,a2,hx,hy,by rw[hq],hw,trivial⟩ (iBs V n c ty B m d ty2 _ _ _ _ _ _ _) rfl fun g=> ?_
   exact⟨k,g,rfl,rfl,⟨by omega,by rw[hv,insK,hq,cond_true]⟩,by omega⟩
end
def MA (V:List Nd) (n c:Nat) (ty:TypeId) (B:List Lf) (m d:Nat) (ty2:TypeId):Nat→List (Option SV)
 | 0=>MAz V n c ty B m d ty2
 | i+1=>MAs V n c ty B m d ty2 ((i+1:Nat):Int) (i+1)
noncomputable def mA (V:List Nd) (n c:Nat) (ty:TypeId) (B:List Lf) (m d:Nat) (ty2:TypeId):Nat→List Blk
 | 0=>m0z V n c ty B m d ty2
 | i+1=>ms V n c ty B m d ty2 (ah (amA [] B (i+1))) (i+1) none
theorem run (V:List Nd) (n c:Nat) (ty:TypeId) (B:List Lf) (m d:Nat) (ty2:TypeId) (hn:V.length=n) (hc:n≤c) (hV':aB V) (hm:B.length=m) (hB:AllL B) (hb:n+m≤4000000) (h0:n=0):aA Tryd.prog GT 2 body (aF fn [.o (.a (.sld 0 0 0 n c)),.o (.a (.sld 1 0 0 m d))]) [⟨false,ty,.prv (ah V)⟩,⟨false,ty2,.prv (lvals B)⟩] (ay tys fn (fun r mm=>(m=0∧aR (.o (.a (.slc 0 0 0 0))) (.new 33 (.lit [])) r mm)∨(0<m∧aR (.o (.a (.slg 0 (n+m)))) (.new 33 (.grv 65 (ah (amA V B m)) (n+m) none)) r mm))):=by
 subst h0
 obtain rfl:=List.eq_nil_of_length_eq_zero hn
 refine Runs.bC ak mixed 2 (s0 [] 0 c ty B m d ty2) ⟨by omega,rfl,trivial⟩ (i0z [] 0 c ty B m d ty2) rfl fun g=> ?_
 rw[bJ]
 refine Runs.seq (Runs.seq (Runs.av ak mixed (a1z [] 0 c ty B m d ty2 g) trivial (iAz [] 0 c ty B m d ty2) rfl fun g=> ?_))
 refine Runs.block ?_
 have lb:(lvals B).length=m*64:=by rw[←hm];exact bP B
 refine Runs.loopX (fun(i:Nat)=>MA [] 0 c ty B m d ty2 i) (fun i=>mA [] 0 c ty B m d ty2 i) (fun i=>i≤m) (fun i=>m-i) ?_ 0 (Nat.zero_le _) g
 rintro i g hi
 rcases Nat.lt_or_ge i m with h | h
 ·have o64:=offs i 64
  have hb6:i*64+64≤m*64:=by have:=Nat.mul_le_mul_right 64 (show i+1≤m by omega);omega
  have hz:=hB.at (show i<B.length by omega)
  cases i with
  | zero=>
   refine Runs.bC ak mixed 2 (hdz [] 0 c ty B m d ty2 g) ⟨decide_eq_true (by omega),trivial⟩ (iAz [] 0 c ty B m d ty2) rfl fun g=> ?_
   rw[suf_L]
   refine Runs.seq (Runs.block ?_)
   refine Runs.bC ak mixed 3 (lfz [] 0 c ty B m d ty2 (B.getD 0 zl) (bE (B.getD 0 zl)) g) ⟨by omega,by omega,by show 0+offI 0 ((0:Nat):Int) 64+64≤_;rw[o64];omega,by show SV.o (.g (aZ (lvals B) (0+offI 0 ((0:Nat):Int) 64) 64))=_;rw[o64];exact ld_lf B (by omega),hz,rfl,trivial⟩ (iBz [] 0 c ty B m d ty2 _) rfl fun g=> ?_
   rw[suf_X]
   refine Runs.seq (Runs.block ?_)
   refine Runs.loopX (fun(_:Unit)=>MBz [] 0 c ty B m d ty2) (fun _=>mz [] 0 c ty B m d ty2 (bE (B.getD 0 zl))) (fun _=>True) (fun _=>0) ?_ () trivial g
   rintro _ g _
   refine Runs.av ak mixed (inz [] 0 c ty B m d ty2 _ g) trivial (iBz [] 0 c ty B m d ty2 _) rfl fun g=> ?_
   show aA _ _ _ _ _ _ _
   refine Runs.seq (Runs.aN ak mixed [0,1,5,3] (apz [] 0 c ty B m d ty2 _ g) ⟨rfl,by omega,by omega,roomN 1 (by omega),trivial⟩ (iBs [] 0 c ty B m d ty2 _ _ _ _ _ _ _) rfl fun g=> ?_)
   refine tail [] 0 c ty B m d ty2 [] (bE (B.getD 0 zl)) 0 0 (Nat.le_refl _) (by simp) g fun g R hR=> ?_
   show aA _ _ _ R12 _ _ _
   refine Runs.hideRoom 5 2 1 (n:=1) (R:=R) (own:=true) (ty:=33) (s:=65) rfl rfl (by simpa using hR) ?_
   show aA _ _ _ R12 ((fill g 0 (MUs [] 0 c ty B m d ty2 0 1 R)).set 5 _) _ _
   rw[setU [] 0 c ty B m d ty2 0 1 R g]
   refine Runs.av ak mixed (nx [] 0 c ty B m d ty2 _ _ _ 0 1 1 g) ⟨by rw[IntKind.wrap_i64];rfl,trivial⟩ (iAs [] 0 c ty B m d ty2 _ 1 none _ _) rfl fun g=> ?_
   exact⟨1,g,rfl,rfl,by omega,by omega⟩
  | succ i=>
   have hlen:=amA_len [] B (i+1)
   simp only[List.length_nil,Nat.zero_add] at hlen
   have hoks:=amA_ok bg hB (i+1) (by omega)
   refine Runs.bC ak mixed 2 (hds [] 0 c ty B m d ty2 _ _ _ _ _ g) ⟨decide_eq_true (by omega),trivial⟩ (iAs [] 0 c ty B m d ty2 _ _ _ _ _) rfl fun g=> ?_
   rw[suf_L]
   refine Runs.seq (Runs.block ?_)
   refine Runs.bC ak mixed 3 (lfs [] 0 c ty B m d ty2 _ _ _ _ _ (B.getD (i+1) zl) (bE (B.getD (i+1) zl)) g) ⟨by omega,by omega,by rw[o64];omega,by rw[o64];exact ld_lf B (by omega),hz,rfl,trivial⟩ (iBs [] 0 c ty B m d ty2 _ _ _ _ _ _ _) rfl fun g=> ?_
   have hx:=leaf_ok hz
   have hA:amA [] B ((i+1)+1)=insV (amA [] B (i+1)) (bE (B.getD (i+1) zl)):=rfl
   have t:=fun PP=>inner [] 0 c ty B m d ty2 (amA [] B (i+1)) (bE (B.getD (i+1) zl)) (((i+1):Nat):Int) (by omega) (by omega) hx (fun y hy=>(hoks y hy).1) g (Post:=PP)
   rw[hlen] at t
   refine t _ (fun g R hR=> ?_)
   show aA _ _ _ R12 _ _ _
   refine Runs.hideRoom 5 2 ((i+1)+1) (n:=(i+1)+1) (R:=R) (own:=true) (ty:=33) (s:=65) rfl rfl hR ?_
   show aA _ _ _ R12 ((fill g 0 (MUs [] 0 c ty B m d ty2 (((i+1):Nat):Int) ((i+1)+1) R)).set 5 _) _ _
   rw[setU [] 0 c ty B m d ty2 _ _ R g,←hA]
   refine Runs.av ak mixed (nx [] 0 c ty B m d ty2 _ _ _ _ ((i+1)+1) (((i+1)+1:Nat):Int) g) ⟨by rw[IntKind.wrap_i64];omega,trivial⟩ (iAs [] 0 c ty B m d ty2 _ ((i+1)+1) none _ _) rfl fun g=> ?_
   exact⟨(i+1)+1,g,rfl,rfl,by omega,by omega⟩
 ·obtain rfl:i=m:=by omega
  cases i with
  | zero=>
   refine Runs.av ak mixed (otz [] 0 c ty B 0 d ty2 g) ⟨decide_eq_false (by omega),trivial⟩ (iDz [] 0 c ty B 0 d ty2) rfl fun g=> ?_
   show aA _ _ _ _ _ _ _
   exact Runs.av ak mixed (fz [] 0 c ty B 0 d ty2 g) trivial (iRz [] 0 c ty B 0 d ty2) rfl fun g=>ay.ret (zz [] 0 c ty B 0 d ty2 g) (.inl ⟨rfl,2,rfl,rfl⟩)
  | succ i=>
   refine Runs.av ak mixed (ots [] 0 c ty B (i+1) d ty2 _ _ _ _ _ g) ⟨decide_eq_false (by omega),trivial⟩ (iDs [] 0 c ty B (i+1) d ty2 _ _ _ _) rfl fun g=> ?_
   show aA _ _ _ _ _ _ _
   refine Runs.av ak mixed (fs [] 0 c ty B (i+1) d ty2 _ _ _ _ g) trivial (iRs [] 0 c ty B (i+1) d ty2 _ _ _ _) rfl fun g=>ay.ret (zs [] 0 c ty B (i+1) d ty2 _ _ _ _ g) (.inr ⟨by omega,?_⟩)
   rw[Nat.zero_add]
   exact⟨2,rfl,rfl⟩
end zw
namespace zn
def m0 (V:List Nd) (n c:Nat) (ty:TypeId) (b:Option Addr):List Blk:=[⟨false,ty,.prv (ah V)⟩]
def m0z (V:List Nd) (n c:Nat) (ty:TypeId) (b:Option Addr):List Blk:=[⟨false,ty,.prv (ah V)⟩,⟨true,33,.lit []⟩]
def M0z (V:List Nd) (n c:Nat) (ty:TypeId) (b:Option Addr):List (Option SV):=aD 57 0 [(1,.o (.a (.v (.slice b 0 0)))),(5,.o (.a (.slc 1 0 0 0)))]
def MAz (V:List Nd) (n c:Nat) (ty:TypeId) (b:Option Addr):List (Option SV):=aD 57 0 [(1,.o (.a (.v (.slice b 0 0)))),(5,.o (.a (.slc 1 0 0 0))),(13,.o (.a (int1 .i64 0))),(14,.o (.a (int1 .i64 0)))]
def MDz (V:List Nd) (n c:Nat) (ty:TypeId) (b:Option Addr):List (Option SV):=aD 57 0 [(5,.o (.a (.slc 1 0 0 0)))]
def MRz (V:List Nd) (n c:Nat) (ty:TypeId) (b:Option Addr):List (Option SV):=aD 57 0 [(4,.o (.a (.slc 1 0 0 0)))]
section
variable (V:List Nd) (n c:Nat) (ty:TypeId) (b:Option Addr)
theorem i0z:aC (m0z V n c ty b ).length (M0z V n c ty b ) (m0z V n c ty b )=true:=by kernel_rfl
theorem iAz:aC (m0z V n c ty b ).length (MAz V n c ty b ) (m0z V n c ty b )=true:=by kernel_rfl
theorem iDz:aC (m0z V n c ty b ).length (MDz V n c ty b ) (m0z V n c ty b )=true:=by kernel_rfl
theorem iRz:aC (m0z V n c ty b ).length (MRz V n c ty b ) (m0z V n c ty b )=true:=by kernel_rfl
theorem s0:outX (m0z V n c ty b ).length (M0z V n c ty b ) (exec Γ tys 300 (cpre 2 body) ⟨aF fn [.o (.a (.sld 0 0 0 n c)),.o (.a (.v (.slice b 0 0)))],m0 V n c ty b ,[(11,[.dyn])]⟩)=some (.normal,live (M0z V n c ty b ),(M0z V n c ty b ).length,m0z V n c ty b ,[0+0+n*65≤(ah V).length,n=0]):=by kernel_rfl
theorem a1z (g:Nat→SV):outX (m0z V n c ty b ).length (MAz V n c ty b ) (exec Γ tys 300 A2 ⟨fill g 0 (M0z V n c ty b ),m0z V n c ty b ,[]⟩)=some (.normal,live (MAz V n c ty b ),(MAz V n c ty b ).length,m0z V n c ty b ,[]):=by kernel_rfl
theorem otz (g:Nat→SV):outX (m0z V n c ty b ).length (MDz V n c ty b ) (exec Γ tys 300 L ⟨fill g 0 (MAz V n c ty b ),m0z V n c ty b ,[]⟩)=some ((.exit 0),live (MDz V n c ty b ),(MDz V n c ty b ).length,m0z V n c ty b ,[]):=by kernel_rfl
theorem fz (g:Nat→SV):outX (m0z V n c ty b ).length (MRz V n c ty b ) (exec Γ tys 300 D ⟨fill g 0 (MDz V n c ty b ),m0z V n c ty b ,[]⟩)=some (.ret,live (MRz V n c ty b ),(MRz V n c ty b ).length,m0z V n c ty b ,[]):=by kernel_rfl
theorem zz (g:Nat→SV):eRes tys (fill g 0 (MRz V n c ty b )) (fun k=>(m0z V n c ty b )[k]?) fn.results.toList=some [.a (.slc 1 0 0 0)]:=by kernel_rfl
theorem run (hn:V.length=n) (hc:n≤c) (hV':aB V) (hb:n≤4000000) (h0:n=0):aA Tryd.prog GT 1 body (aF fn [.o (.a (.sld 0 0 0 n c)),.o (.a (.v (.slice b 0 0)))]) [⟨false,ty,.prv (ah V)⟩] (ay tys fn (aR (.o (.a (.slc 0 0 0 0))) (.new 33 (.lit [])))):=by
 subst h0
 obtain rfl:=List.eq_nil_of_length_eq_zero hn
 refine Runs.bC ak mixed 2 (s0 [] 0 c ty b) ⟨by omega,rfl,trivial⟩ (i0z [] 0 c ty b) rfl fun g=> ?_
 rw[bJ]
 refine Runs.seq (Runs.seq (Runs.av ak mixed (a1z [] 0 c ty b g) trivial (iAz [] 0 c ty b) rfl fun g=> ?_))
 refine Runs.block ?_
 refine Runs.loopX (fun(_:Unit)=>MAz [] 0 c ty b) (fun _=>m0z [] 0 c ty b) (fun _=>True) (fun _=>0) ?_ () trivial g
 rintro _ g _
 refine Runs.av ak mixed (otz [] 0 c ty b g) trivial (iDz [] 0 c ty b) rfl fun g=> ?_
 show aA _ _ _ _ _ _ _
 exact Runs.av ak mixed (fz [] 0 c ty b g) trivial (iRz [] 0 c ty b) rfl fun g=>ay.ret (zz [] 0 c ty b g) ⟨1,rfl,rfl⟩
end
end zn
namespace nw
def m0 (a:Option Addr) (B:List Lf) (m d:Nat) (ty2:TypeId):List Blk:=[⟨false,ty2,.prv (lvals B)⟩]
def ms (a:Option Addr) (B:List Lf) (m d:Nat) (ty2:TypeId) (vs:List Value) (lo:Nat) (hi:Option Nat):List Blk:=[⟨false,ty2,.prv (lvals B)⟩,⟨true,33,.grv 65 vs lo hi⟩]
def mx (a:Option Addr) (B:List Lf) (m d:Nat) (ty2:TypeId) (vs:List Value) (lo:Nat) (hi:Option Nat) (x:Nd):List Blk:=[⟨false,ty2,.prv (lvals B)⟩,⟨true,33,.grv 65 vs lo hi⟩,⟨true,33,.lit x.row⟩]
def MAs (a:Option Addr) (B:List Lf) (m d:Nat) (ty2:TypeId) (i:Int) (r:Nat):List (Option SV):=aD 57 0 [(1,.o (.a (.sld 0 0 0 m d))),(5,.o (.a (.slg 1 r))),(13,.o (.a (int1 .i64 m))),(14,.o (.a (int1 .i64 i)))]
theorem iAs (a:Option Addr) (B:List Lf) (m d:Nat) (ty2:TypeId) (vs:List Value) (lo:Nat) (hi:Option Nat) (i:Int) (r:Nat):aC (ms a B m d ty2 vs lo hi).length (MAs a B m d ty2 i r) (ms a B m d ty2 vs lo hi)=true:=by kernel_rfl
def MDs (a:Option Addr) (B:List Lf) (m d:Nat) (ty2:TypeId) (r:Nat):List (Option SV):=aD 57 0 [(5,.o (.a (.slg 1 r)))]
theorem iDs (a:Option Addr) (B:List Lf) (m d:Nat) (ty2:TypeId) (vs:List Value) (lo:Nat) (hi:Option Nat) (r:Nat):aC (ms a B m d ty2 vs lo hi).length (MDs a B m d ty2 r) (ms a B m d ty2 vs lo hi)=true:=by kernel_rfl
def MRs (a:Option Addr) (B:List Lf) (m d:Nat) (ty2:TypeId) (r:Nat):List (Option SV):=aD 57 0 [(4,.o (.a (.slg 1 r)))]
theorem iRs (a:Option Addr) (B:List Lf) (m d:Nat) (ty2:TypeId) (vs:List Value) (lo:Nat) (hi:Option Nat) (r:Nat):aC (ms a B m d ty2 vs lo hi).length (MRs a B m d ty2 r) (ms a B m d ty2 vs lo hi)=true:=by kernel_rfl
def m0z (a:Option Addr) (B:List Lf) (m d:Nat) (ty2:TypeId):List Blk:=[⟨false,ty2,.prv (lvals B)⟩,⟨true,33,.lit []⟩]
def M0z (a:Option Addr) (B:List Lf) (m d:Nat) (ty2:TypeId):List (Option SV):=aD 57 0 [(1,.o (.a (.sld 0 0 0 m d))),(5,.o (.a (.slc 1 0 0 0)))]
def MAz (a:Option Addr) (B:List Lf) (m d:Nat) (ty2:TypeId):List (Option SV):=aD 57 0 [(1,.o (.a (.sld 0 0 0 m d))),(5,.o (.a (.slc 1 0 0 0))),(13,.o (.a (int1 .i64 m))),(14,.o (.a (int1 .i64 0)))]
def MDz (a:Option Addr) (B:List Lf) (m d:Nat) (ty2:TypeId):List (Option SV):=aD 57 0 [(5,.o (.a (.slc 1 0 0 0)))]
def MRz (a:Option Addr) (B:List Lf) (m d:Nat) (ty2:TypeId):List (Option SV):=aD 57 0 [(4,.o (.a (.slc 1 0 0 0)))]
section
variable (a:Option Addr) (B:List Lf) (m d:Nat) (ty2:TypeId)
theorem i0z:aC (m0z a B m d ty2 ).length (M0z a B m d ty2 ) (m0z a B m d ty2 )=true:=by kernel_rfl
theorem iAz:aC (m0z a B m d ty2 ).length (MAz a B m d ty2 ) (m0z a B m d ty2 )=true:=by kernel_rfl
theorem iDz:aC (m0z a B m d ty2 ).length (MDz a B m d ty2 ) (m0z a B m d ty2 )=true:=by kernel_rfl
theorem iRz:aC (m0z a B m d ty2 ).length (MRz a B m d ty2 ) (m0z a B m d ty2 )=true:=by kernel_rfl
theorem s0:outX (m0z a B m d ty2 ).length (M0z a B m d ty2 ) (exec Γ tys 300 (cpre 2 body) ⟨aF fn [.o (.a (.v (.slice a 0 0))),.o (.a (.sld 0 0 0 m d))],m0 a B m d ty2 ,[(11,[.dyn])]⟩)=some (.normal,live (M0z a B m d ty2 ),(M0z a B m d ty2 ).length,m0z a B m d ty2 ,[0=0]):=by kernel_rfl
theorem a1z (g:Nat→SV):outX (m0z a B m d ty2 ).length (MAz a B m d ty2 ) (exec Γ tys 300 A2 ⟨fill g 0 (M0z a B m d ty2 ),m0z a B m d ty2 ,[]⟩)=some (.normal,live (MAz a B m d ty2 ),(MAz a B m d ty2 ).length,m0z a B m d ty2 ,[]):=by kernel_rfl
theorem otz (g:Nat→SV):outX (m0z a B m d ty2 ).length (MDz a B m d ty2 ) (exec Γ tys 300 L ⟨fill g 0 (MAz a B m d ty2 ),m0z a B m d ty2 ,[(15,[.b false])]⟩)=some ((.exit 0),live (MDz a B m d ty2 ),(MDz a B m d ty2 ).length,m0z a B m d ty2 ,[decide ((0:Int)<m)=false]):=by kernel_rfl
theorem fz (g:Nat→SV):outX (m0z a B m d ty2 ).length (MRz a B m d ty2 ) (exec Γ tys 300 D ⟨fill g 0 (MDz a B m d ty2 ),m0z a B m d ty2 ,[]⟩)=some (.ret,live (MRz a B m d ty2 ),(MRz a B m d ty2 ).length,m0z a B m d ty2 ,[]):=by kernel_rfl
theorem zz (g:Nat→SV):eRes tys (fill g 0 (MRz a B m d ty2 )) (fun k=>(m0z a B m d ty2 )[k]?) fn.results.toList=some [.a (.slc 1 0 0 0)]:=by kernel_rfl
theorem ots (vs:List Value) (lo:Nat) (hi:Option Nat) (i:Int) (r:Nat) (g:Nat→SV):outX (ms a B m d ty2 vs lo hi).length (MDs a B m d ty2 r) (exec Γ tys 300 L ⟨fill g 0 (MAs a B m d ty2 i r),ms a B m d ty2 vs lo hi,[(15,[.b false])]⟩)=some ((.exit 0),live (MDs a B m d ty2 r),(MDs a B m d ty2 r).length,ms a B m d ty2 vs lo hi,[decide (i<m)=false]):=by kernel_rfl
theorem fs (vs:List Value) (lo:Nat) (hi:Option Nat) (r:Nat) (g:Nat→SV):outX (ms a B m d ty2 vs lo hi).length (MRs a B m d ty2 r) (exec Γ tys 300 D ⟨fill g 0 (MDs a B m d ty2 r),ms a B m d ty2 vs lo hi,[]⟩)=some (.ret,live (MRs a B m d ty2 r),(MRs a B m d ty2 r).length,ms a B m d ty2 vs lo hi,[]):=by kernel_rfl
theorem zs (vs:List Value) (lo:Nat) (hi:Option Nat) (r:Nat) (g:Nat→SV):eRes tys (fill g 0 (MRs a B m d ty2 r)) (fun k=>(ms a B m d ty2 vs lo hi)[k]?) fn.results.toList=some [.a (.slg 1 r)]:=by kernel_rfl
end
def MBs (a:Option Addr) (B:List Lf) (m d:Nat) (ty2:TypeId) (i:Int) (r:Nat) (k:Int):List (Option SV):=aD 57 0 [(1,.o (.a (.sld 0 0 0 m d))),(5,.o (.a (.slg 1 r))),(7,.o (.a (.ptr 2 0))),(8,.o (.a (int1 .i64 k))),(13,.o (.a (int1 .i64 m))),(14,.o (.a (int1 .i64 i)))]
theorem iBs (a:Option Addr) (B:List Lf) (m d:Nat) (ty2:TypeId) (vs:List Value) (lo:Nat) (hi:Option Nat) (i:Int) (r:Nat) (k:Int) (x:Nd):aC (mx a B m d ty2 vs lo hi x).length (MBs a B m d ty2 i r k) (mx a B m d ty2 vs lo hi x)=true:=by kernel_rfl
def MTs (a:Option Addr) (B:List Lf) (m d:Nat) (ty2:TypeId) (i:Int) (r:Nat) (k:Int) (R:Nat):List (Option SV):=aD 57 0 [(1,.o (.a (.sld 0 0 0 m d))),(5,.o (.a (.sld 1 0 0 r R))),(7,.o (.a (.ptr 2 0))),(8,.o (.a (int1 .i64 k))),(13,.o (.a (int1 .i64 m))),(14,.o (.a (int1 .i64 i)))]
def MUs (a:Option Addr) (B:List Lf) (m d:Nat) (ty2:TypeId) (i:Int) (r:Nat) (R:Nat):List (Option SV):=aD 57 0 [(1,.o (.a (.sld 0 0 0 m d))),(5,.o (.a (.sld 1 0 0 r R))),(13,.o (.a (int1 .i64 m))),(14,.o (.a (int1 .i64 i)))]
theorem iUs (a:Option Addr) (B:List Lf) (m d:Nat) (ty2:TypeId) (vs:List Value) (lo:Nat) (hi:Option Nat) (i:Int) (r:Nat) (R:Nat):aC (ms a B m d ty2 vs lo hi).length (MUs a B m d ty2 i r R) (ms a B m d ty2 vs lo hi)=true:=by kernel_rfl
def mz (a:Option Addr) (B:List Lf) (m d:Nat) (ty2:TypeId) (x:Nd):List Blk:=[⟨false,ty2,.prv (lvals B)⟩,⟨true,33,.lit []⟩,⟨true,33,.lit x.row⟩]
def MBz (a:Option Addr) (B:List Lf) (m d:Nat) (ty2:TypeId):List (Option SV):=aD 57 0 [(1,.o (.a (.sld 0 0 0 m d))),(5,.o (.a (.slc 1 0 0 0))),(7,.o (.a (.ptr 2 0))),(8,.o (.a (int1 .i64 0))),(13,.o (.a (int1 .i64 m))),(14,.o (.a (int1 .i64 0)))]
section
variable (a:Option Addr) (B:List Lf) (m d:Nat) (ty2:TypeId)
theorem iBz (x:Nd):aC (mz a B m d ty2 x).length (MBz a B m d ty2 ) (mz a B m d ty2 x)=true:=by kernel_rfl
theorem hdz (g:Nat→SV):outX (m0z a B m d ty2 ).length (MAz a B m d ty2 ) (exec Γ tys 300 (cpre 2 L) ⟨fill g 0 (MAz a B m d ty2 ),m0z a B m d ty2 ,[(15,[.b true])]⟩)=some (.normal,live (MAz a B m d ty2 ),(MAz a B m d ty2 ).length,m0z a B m d ty2 ,[decide ((0:Int)<m)=true]):=by kernel_rfl
theorem lfz (z:Lf) (x:Nd) (g:Nat→SV):outX (mz a B m d ty2 x).length (MBz a B m d ty2 ) (exec Γ tys 300 (cpre 3 X) ⟨fill g 0 (MAz a B m d ty2 ),m0z a B m d ty2 ,[(20,[.ds (cLf.enc z)]),(21,[.s (cNd.enc x)])]⟩)=some (.normal,live (MBz a B m d ty2 ),(MBz a B m d ty2 ).length,mz a B m d ty2 x,[0≤(0:Int),(0:Int)<m,0+offI 0 0 64+64≤(lvals B).length,SV.o (.g (aZ (lvals B) (0+offI 0 0 64) 64))=cLf.enc z,LOk z,cNd.enc (bE z)=cNd.enc x]):=by kernel_rfl
theorem inz (x:Nd) (g:Nat→SV):outX (mz a B m d ty2 x).length (MBz a B m d ty2 ) (exec Γ tys 300 LI ⟨fill g 0 (MBz a B m d ty2 ),mz a B m d ty2 x,[]⟩)=some ((.exit 2),live (MBz a B m d ty2 ),(MBz a B m d ty2 ).length,mz a B m d ty2 x,[]):=by kernel_rfl
theorem apz (x:Nd) (g:Nat→SV):outN [0,4,2] (MBs a B m d ty2 0 1 0) (exec Γ tys 100 R9 ⟨fill g 0 (MBz a B m d ty2 ),mz a B m d ty2 x,[(41,[.dyn])]⟩)=some (.normal,(live (MBs a B m d ty2 0 1 0)).map (SV.ren (piF [0,4,2])),(MBs a B m d ty2 0 1 0).length,(mx a B m d ty2 zn.vals 1 none x).map (fun b=>some (b.ren (piF [0,4,2]))),[65=1*65,0+0+1*65≤65,0<1,Room Tryd.prog 33 1]):=by kernel_rfl
theorem hds (vs:List Value) (lo:Nat) (hi:Option Nat) (i:Int) (r:Nat) (g:Nat→SV):outX (ms a B m d ty2 vs lo hi).length (MAs a B m d ty2 i r) (exec Γ tys 300 (cpre 2 L) ⟨fill g 0 (MAs a B m d ty2 i r),ms a B m d ty2 vs lo hi,[(15,[.b true])]⟩)=some (.normal,live (MAs a B m d ty2 i r),(MAs a B m d ty2 i r).length,ms a B m d ty2 vs lo hi,[decide (i<m)=true]):=by kernel_rfl
theorem lfs (vs:List Value) (lo:Nat) (hi:Option Nat) (i:Int) (r:Nat) (z:Lf) (x:Nd) (g:Nat→SV):outX (mx a B m d ty2 vs lo hi x).length (MBs a B m d ty2 i r r) (exec Γ tys 300 (cpre 3 X) ⟨fill g 0 (MAs a B m d ty2 i r),ms a B m d ty2 vs lo hi,[(20,[.ds (cLf.enc z)]),(21,[.s (cNd.enc x)])]⟩)=some (.normal,live (MBs a B m d ty2 i r r),(MBs a B m d ty2 i r r).length,mx a B m d ty2 vs lo hi x,[0≤i,i<m,0+offI 0 i 64+64≤(lvals B).length,SV.o (.g (aZ (lvals B) (0+offI 0 i 64) 64))=cLf.enc z,LOk z,cNd.enc (bE z)=cNd.enc x]):=by kernel_rfl
theorem in0 (vs:List Value) (lo:Nat) (hi:Option Nat) (i:Int) (r:Nat) (k:Int) (x:Nd) (g:Nat→SV):outX (mx a B m d ty2 vs lo hi x).length (MBs a B m d ty2 i r k) (exec Γ tys 300 LI ⟨fill g 0 (MBs a B m d ty2 i r k),mx a B m d ty2 vs lo hi x,[(25,[.b false])]⟩)=some ((.exit 2),live (MBs a B m d ty2 i r k),(MBs a B m d ty2 i r k).length,mx a B m d ty2 vs lo hi x,[decide (k>0)=false]):=by kernel_rfl
theorem inx (vs:List Value) (lo:Nat) (hi:Option Nat) (i:Int) (r:Nat) (k:Int) (x:Nd) (k':Int) (y:B32) (g:Nat→SV):outX (mx a B m d ty2 vs lo hi x).length (MBs a B m d ty2 i r k) (exec Γ tys 300 LI ⟨fill g 0 (MBs a B m d ty2 i r k),mx a B m d ty2 vs lo hi x,[(25,[.b true]),(31,[.n k']),(34,[.ds (cB32.enc y)]),(35,[.s (aG.enc false)])]⟩)=some ((.exit 2),live (MBs a B m d ty2 i r k),(MBs a B m d ty2 i r k).length,mx a B m d ty2 vs lo hi x,[decide (k>0)=true,IntKind.i64.wrap (k-1)=k',0≤k',k'<r,0+(offI 0 k' 65+1)+32≤vs.length,SV.o (.g (aZ vs (0+(offI 0 k' 65+1)) 32))=cB32.enc y,BOk x.pre,BOk y,aG.enc (ltV x.pre y)=aG.enc false]):=by kernel_rfl
theorem ing (vs:List Value) (lo:Nat) (hi:Option Nat) (i:Int) (r:Nat) (k:Int) (x:Nd) (k':Int) (y:B32) (g:Nat→SV):outX (mx a B m d ty2 vs lo hi x).length (MBs a B m d ty2 i r k') (exec Γ tys 300 LI ⟨fill g 0 (MBs a B m d ty2 i r k),mx a B m d ty2 vs lo hi x,[(25,[.b true]),(31,[.n k']),(34,[.ds (cB32.enc y)]),(35,[.s (aG.enc true)]),(38,[.n k'])]⟩)=some (.normal,live (MBs a B m d ty2 i r k'),(MBs a B m d ty2 i r k').length,mx a B m d ty2 vs lo hi x,[decide (k>0)=true,IntKind.i64.wrap (k-1)=k',0≤k',k'<r,0+(offI 0 k' 65+1)+32≤vs.length,SV.o (.g (aZ vs (0+(offI 0 k' 65+1)) 32))=cB32.enc y,BOk x.pre,BOk y,aG.enc (ltV x.pre y)=aG.enc true,IntKind.i64.wrap (k-1)=k']):=by kernel_rfl
theorem apg (vs:List Value) (lo:Nat) (hi:Option Nat) (i:Int) (r:Nat) (k:Int) (x:Nd) (g:Nat→SV):outX (mx a B m d ty2 (vs++zn.vals) (r+1) none x).length (MBs a B m d ty2 i (r+1) k) (exec Γ tys 300 R9 ⟨fill g 0 (MBs a B m d ty2 i r k),mx a B m d ty2 vs (r+1) none x,[(41,[.dyn]),(42,[.dyn])]⟩)=some (.normal,live (MBs a B m d ty2 i (r+1) k),(MBs a B m d ty2 i (r+1) k).length,mx a B m d ty2 (vs++zn.vals) (r+1) none x,[65=1*65,0+0+1*65≤65,r*65=vs.length,r+1≤r+1,∀v∈zn.vals,v.oneCell'=true]):=by kernel_rfl
theorem apr (vs:List Value) (lo:Nat) (hi:Option Nat) (i:Int) (r:Nat) (k:Int) (x:Nd) (g:Nat→SV):outN [0,4,2] (MBs a B m d ty2 i (r+1) k) (exec Γ tys 100 R9 ⟨fill g 0 (MBs a B m d ty2 i r k),mx a B m d ty2 vs lo (some (r+1)) x,[(41,[.dyn]),(42,[.dyn])]⟩)=some (.normal,(live (MBs a B m d ty2 i (r+1) k)).map (SV.ren (piF [0,4,2])),(MBs a B m d ty2 i (r+1) k).length,(mx a B m d ty2 (vs++zn.vals) (r+1) none x).map (fun b=>some (b.ren (piF [0,4,2]))),[65=1*65,0+0+1*65≤65,r*65=vs.length,r+1≤r+1,Room Tryd.prog 33 (r+1)]):=by kernel_rfl
theorem tt (vs:List Value) (i:Int) (r:Nat) (k k1:Int) (R:Nat) (x:Nd) (g:Nat→SV):outN [0,1] (MUs a B m d ty2 i r R) (exec Γ tys 100 T ⟨fill g 0 (MTs a B m d ty2 i r k R),mx a B m d ty2 vs R (some (R+1)) x,[(45,[.n k1])]⟩)=some (.normal,(live (MUs a B m d ty2 i r R)).map (SV.ren (piF [0,1])),(MUs a B m d ty2 i r R).length,(ms a B m d ty2 (putV (0+offI 0 k 65) x.vals (putV (0+advS R k1.toNat 0 65) (((vs.drop (0+advS R k.toNat 0 65)).take ((r-k.toNat)*65)).take (Nat.min (r-k.toNat) (r-k1.toNat)*65)) vs)) R (some (R+1))).map (fun b=>some (b.ren (piF [0,1]))),[IntKind.i64.wrap (k+1)=k1,0≤k1,k1≤r,(r:Int)≤R,0≤k,k≤r,(r:Int)≤R,(0+advS R k.toNat 0 65)+(r-k.toNat)*65≤vs.length,(0+advS R k1.toNat 0 65)+Nat.min (r-k.toNat) (r-k1.toNat)*65≤vs.length,∀v∈((vs.drop (0+advS R k.toNat 0 65)).take ((r-k.toNat)*65)),v.oneCell'=true,0≤k,k<r,0+offI 0 k 65+65≤(putV (0+advS R k1.toNat 0 65) (((vs.drop (0+advS R k.toNat 0 65)).take ((r-k.toNat)*65)).take (Nat.min (r-k.toNat) (r-k1.toNat)*65)) vs).length]):=by kernel_rfl
theorem nx (vs:List Value) (lo:Nat) (hi:Option Nat) (i:Int) (r:Nat) (i':Int) (g:Nat→SV):outX (ms a B m d ty2 vs lo hi).length (MAs a B m d ty2 i' r) (exec Γ tys 300 R12 ⟨fill g 0 (MAs a B m d ty2 i r),ms a B m d ty2 vs lo hi,[(55,[.n i'])]⟩)=some (.normal,live (MAs a B m d ty2 i' r),(MAs a B m d ty2 i' r).length,ms a B m d ty2 vs lo hi,[IntKind.i64.wrap (i+1)=i']):=by kernel_rfl
theorem setT (i:Int) (r:Nat) (k:Int) (R:Nat) (g:Nat→SV):(fill g 0 (MBs a B m d ty2 i r k)).set 5 (.o (.a (.sld 1 0 0 r R)))=fill g 0 (MTs a B m d ty2 i r k R):=by kernel_rfl
theorem setU (i:Int) (r:Nat) (R:Nat) (g:Nat→SV):(fill g 0 (MUs a B m d ty2 i r R)).set 5 (.o (.a (.slg 1 r)))=fill g 0 (MAs a B m d ty2 i r):=by kernel_rfl
theorem tail (out:List Nd) (x:Nd) (i:Int) (k:Nat) (hk:k≤out.length) (hb:out.length<4000000) (g:Nat→SV) {Post:Ex→List SV→List Blk→Prop} (h:∀g R,out.length+1≤R→Post .normal (fill g 0 (MUs a B m d ty2 i (out.length+1) R)) (ms a B m d ty2 (ah (out.take k++x::out.drop k)) R (some (R+1)))):
  aA Tryd.prog GT 1 T (fill g 0 (MBs a B m d ty2 i (out.length+1) k)) (mx a B m d ty2 (ah (out++[zn])) (out.length+1) none x) Post:=by
 refine Runs.nameRoom 5 1 (n:=out.length+1) (own:=true) (ty:=33) (s:=65) (vs:=ah (out++[zn])) (lo:=out.length+1) (hi:=none) rfl rfl fun R hR hle=> ?_
 have hl:(ah (out++[zn])).length=(out.length+1)*65:=by rw[aL];simp
 rw[setT a B m d ty2 i (out.length+1) k R g]
 have hcp:=ins_cp out k R hk hR
 have hput:=ins_put out x k R hk hR
 have ha:0+advS R k 0 65=k*65:=by unfold advS;rw[if_neg (by omega)];omega
 have ha1:0+advS R (k+1) 0 65+Nat.min (out.length+1-k) (out.length+1-(k+1))*65≤(out.length+1)*65:=by
  have hm:Nat.min (out.length+1-k) (out.length+1-(k+1))=out.length-k:=by
   show min _ _=_
   omega
  rw[hm]
  unfold advS
  split
  ·omega
  ·omega
 refine Runs.aN ak mixed [0,1] (tt a B m d ty2 (ah (out++[zn])) i (out.length+1) k ((k+1:Nat):Int) R x g) ⟨by rw[IntKind.wrap_i64];omega,by omega,by omega,by omega,by omega,by omega,by omega,?_,?_,?_,by omega,by omega,?_,trivial⟩ (iUs a B m d ty2 _ _ _ _ _ _) rfl fun g=> ?_
 ·rw[hl]
  show 0+advS R k 0 65+(out.length+1-k)*65≤_
  rw[ha]
  omega
 ·rw[hl]
  exact ha1
 ·intro v hv
  exact oneL _ v (List.mem_of_mem_drop (List.mem_of_mem_take hv))
 ·show 0+offI 0 (k:Int) 65+65≤(putV (0+advS R (k+1) 0 65) ((((ah (out++[zn])).drop (0+advS R k 0 65)).take ((out.length+1-k)*65)).take (Nat.min (out.length+1-k) (out.length+1-(k+1))*65)) (ah (out++[zn]))).length
  rw[hcp,offs,aL,List.length_append,List.length_take,List.length_drop,List.length_append,List.length_singleton]
  omega
 ·have e:putV (0+offI 0 (k:Int) 65) x.vals (putV (0+advS R (k+1) 0 65) ((((ah (out++[zn])).drop (0+advS R k 0 65)).take ((out.length+1-k)*65)).take (Nat.min (out.length+1-k) (out.length+1-(k+1))*65)) (ah (out++[zn])))=ah (out.take k++x::out.drop k):=by rw[hcp,hput]
  have:=h g R hR
  rw[←e] at this
  exact this
theorem append (out:List Nd) (x:Nd) (i:Int) (k:Nat) (hk:k≤out.length) (h1:1≤out.length) (hb:out.length<4000000) (g:Nat→SV) {Post:Ex→List SV→List Blk→Prop} (h:∀g R,out.length+1≤R→Post .normal (fill g 0 (MUs a B m d ty2 i (out.length+1) R)) (ms a B m d ty2 (ah (out.take k++x::out.drop k)) R (some (R+1)))):
  aA Tryd.prog GT 1 (.seq R9 T) (fill g 0 (MBs a B m d ty2 i out.length k)) (mx a B m d ty2 (ah out) out.length none x) Post:=by
 have hl:(ah out).length=out.length*65:=aL out
 have e:ah out++zn.vals=ah (out++[zn]):=by rw[nvals_app,nvals_one]
 refine Runs.roomV 1 (out.length+1) (own:=true) (ty:=33) (s:=65) (vs:=ah out) (lo:=out.length) rfl ?_ ?_
 ·refine Runs.seq (Runs.av ak mixed (apg a B m d ty2 (ah out) 0 none i out.length k x g) ⟨rfl,by omega,by omega,Nat.le_refl _,oneV zn,trivial⟩ (iBs a B m d ty2 _ _ _ _ _ _ _) rfl fun g=> ?_)
  rw[e]
  exact tail a B m d ty2 out x i k hk hb g h
 ·refine Runs.seq (Runs.aN ak mixed [0,4,2] (apr a B m d ty2 (ah out) out.length none i out.length k x g) ⟨rfl,by omega,by omega,Nat.le_refl _,roomN _ (by omega),trivial⟩ (iBs a B m d ty2 _ _ _ _ _ _ _) rfl fun g=> ?_)
  rw[e]
  exact tail a B m d ty2 out x i k hk hb g h
theorem inner (out:List Nd) (x:Nd) (i:Int) (h1:1≤out.length) (hb:out.length<4000000) (hx:BOk x.pre) (ho:∀y∈out,BOk y.pre) (g:Nat→SV) {Post:Ex→List SV→List Blk→Prop} (h:∀g R,out.length+1≤R→Post .normal (fill g 0 (MUs a B m d ty2 i (out.length+1) R)) (ms a B m d ty2 (ah (insV out x)) R (some (R+1)))):
  aA Tryd.prog GT 1 (csuf 3 X) (fill g 0 (MBs a B m d ty2 i out.length out.length)) (mx a B m d ty2 (ah out) out.length none x) Post:=by
 rw[suf_X]
 unfold insV at h
 have fin:∀(k:Nat) (g:Nat→SV),k≤out.length→insK out x out.length=k→aA Tryd.prog GT 1 (.seq R9 T) (fill g 0 (MBs a B m d ty2 i out.length k)) (mx a B m d ty2 (ah out) out.length none x) Post:=fun k g hk hv=>by
  rw[hv] at h
  exact append a B m d ty2 out x i k hk h1 hb g h
 refine Runs.seq (Runs.block ?_)
 refine Runs.loopX (fun(k:Nat)=>MBs a B m d ty2 i out.length k) (fun _=>mx a B m d ty2 (ah out) out.length none x) (fun k=>k≤out.length∧insK out x out.length=insK out x k) (fun k=>k) ?_ out.length ⟨Nat.le_refl _,rfl⟩ g
 rintro k g ⟨hk,hv⟩
 cases k with
 | zero=>
  refine Runs.av ak mixed (in0 a B m d ty2 _ _ _ i out.length _ x g) ⟨decide_eq_false (by omega),trivial⟩ (iBs a B m d ty2 _ _ _ _ _ _ _) rfl fun g=> ?_
  exact fin 0 g hk (by rw[hv];rfl)
 | succ k=>
  obtain⟨a1,a2⟩:=ld_off out rfl (show k<out.length by omega)
  have hw:IntKind.i64.wrap (((k+1:Nat):Int)-1)=(k:Int):=by rw[IntKind.wrap_i64];omega
  have hy:=ho (out.getD k zn) (bU (by omega) _)
  cases hq:ltV x.pre (out.getD k zn).pre with
  | false=>
   refine Runs.av ak mixed (inx a B m d ty2 _ _ _ i out.length _ x k (out.getD k zn).pre g) ⟨decide_eq_true (by omega),hw,by omega,by omega,a1,a2,hx,hy,by rw[hq],trivial⟩ (iBs a B m d ty2 _ _ _ _ _ _ _) rfl fun g=> ?_
   exact fin (k+1) g hk (by rw[hv,insK,hq,cond_false])
  | true=>
   refine Runs.av ak mixed (ing a B m d ty2 _ _ _ i out.length _ x k (out.getD k zn).pre g) ⟨decide_eq_true (by omega),hw,by omega,by omega,a1,a2,hx,hy,by rw[hq],hw,trivial⟩ (iBs a B m d ty2 _ _ _ _ _ _ _) rfl fun g=> ?_
   exact⟨k,g,rfl,rfl,⟨by omega,by rw[hv,insK,hq,cond_true]⟩,by omega⟩
end
def MA (a:Option Addr) (B:List Lf) (m d:Nat) (ty2:TypeId):Nat→List (Option SV)
 | 0=>MAz a B m d ty2
 | i+1=>MAs a B m d ty2 ((i+1:Nat):Int) (i+1)
noncomputable def mA (a:Option Addr) (B:List Lf) (m d:Nat) (ty2:TypeId):Nat→List Blk
 | 0=>m0z a B m d ty2
 | i+1=>ms a B m d ty2 (ah (amA [] B (i+1))) (i+1) none
theorem run (a:Option Addr) (B:List Lf) (m d:Nat) (ty2:TypeId) (hm:B.length=m) (hB:AllL B) (hb:m≤4000000):aA Tryd.prog GT 1 body (aF fn [.o (.a (.v (.slice a 0 0))),.o (.a (.sld 0 0 0 m d))]) [⟨false,ty2,.prv (lvals B)⟩] (ay tys fn (fun r mm=>(m=0∧aR (.o (.a (.slc 0 0 0 0))) (.new 33 (.lit [])) r mm)∨(0<m∧aR (.o (.a (.slg 0 (0+m)))) (.new 33 (.grv 65 (ah (amA [] B m)) (0+m) none)) r mm))):=by
 refine Runs.bC ak mixed 2 (s0 a B m d ty2) ⟨rfl,trivial⟩ (i0z a B m d ty2) rfl fun g=> ?_
 rw[bJ]
 refine Runs.seq (Runs.seq (Runs.av ak mixed (a1z a B m d ty2 g) trivial (iAz a B m d ty2) rfl fun g=> ?_))
 refine Runs.block ?_
 have lb:(lvals B).length=m*64:=by rw[←hm];exact bP B
 refine Runs.loopX (fun(i:Nat)=>MA a B m d ty2 i) (fun i=>mA a B m d ty2 i) (fun i=>i≤m) (fun i=>m-i) ?_ 0 (Nat.zero_le _) g
 rintro i g hi
 rcases Nat.lt_or_ge i m with h | h
 ·have o64:=offs i 64
  have hb6:i*64+64≤m*64:=by have:=Nat.mul_le_mul_right 64 (show i+1≤m by omega);omega
  have hz:=hB.at (show i<B.length by omega)
  cases i with
  | zero=>
   refine Runs.bC ak mixed 2 (hdz a B m d ty2 g) ⟨decide_eq_true (by omega),trivial⟩ (iAz a B m d ty2) rfl fun g=> ?_
   rw[suf_L]
   refine Runs.seq (Runs.block ?_)
   refine Runs.bC ak mixed 3 (lfz a B m d ty2 (B.getD 0 zl) (bE (B.getD 0 zl)) g) ⟨by omega,by omega,by show 0+offI 0 ((0:Nat):Int) 64+64≤_;rw[o64];omega,by show SV.o (.g (aZ (lvals B) (0+offI 0 ((0:Nat):Int) 64) 64))=_;rw[o64];exact ld_lf B (by omega),hz,rfl,trivial⟩ (iBz a B m d ty2 _) rfl fun g=> ?_
   rw[suf_X]
   refine Runs.seq (Runs.block ?_)
   refine Runs.loopX (fun(_:Unit)=>MBz a B m d ty2) (fun _=>mz a B m d ty2 (bE (B.getD 0 zl))) (fun _=>True) (fun _=>0) ?_ () trivial g
   rintro _ g _
   refine Runs.av ak mixed (inz a B m d ty2 _ g) trivial (iBz a B m d ty2 _) rfl fun g=> ?_
   show aA _ _ _ _ _ _ _
   refine Runs.seq (Runs.aN ak mixed [0,4,2] (apz a B m d ty2 _ g) ⟨rfl,by omega,by omega,roomN 1 (by omega),trivial⟩ (iBs a B m d ty2 _ _ _ _ _ _ _) rfl fun g=> ?_)
   refine tail a B m d ty2 [] (bE (B.getD 0 zl)) 0 0 (Nat.le_refl _) (by simp) g fun g R hR=> ?_
   show aA _ _ _ R12 _ _ _
   refine Runs.hideRoom 5 1 1 (n:=1) (R:=R) (own:=true) (ty:=33) (s:=65) rfl rfl (by simpa using hR) ?_
   show aA _ _ _ R12 ((fill g 0 (MUs a B m d ty2 0 1 R)).set 5 _) _ _
   rw[setU a B m d ty2 0 1 R g]
   refine Runs.av ak mixed (nx a B m d ty2 _ _ _ 0 1 1 g) ⟨by rw[IntKind.wrap_i64];rfl,trivial⟩ (iAs a B m d ty2 _ 1 none _ _) rfl fun g=> ?_
   exact⟨1,g,rfl,rfl,by omega,by omega⟩
  | succ i=>
   have hlen:=amA_len [] B (i+1)
   simp only[List.length_nil,Nat.zero_add] at hlen
   have hoks:=amA_ok bg hB (i+1) (by omega)
   refine Runs.bC ak mixed 2 (hds a B m d ty2 _ _ _ _ _ g) ⟨decide_eq_true (by omega),trivial⟩ (iAs a B m d ty2 _ _ _ _ _) rfl fun g=> ?_
   rw[suf_L]
   refine Runs.seq (Runs.block ?_)
   refine Runs.bC ak mixed 3 (lfs a B m d ty2 _ _ _ _ _ (B.getD (i+1) zl) (bE (B.getD (i+1) zl)) g) ⟨by omega,by omega,by rw[o64];omega,by rw[o64];exact ld_lf B (by omega),hz,rfl,trivial⟩ (iBs a B m d ty2 _ _ _ _ _ _ _) rfl fun g=> ?_
   have hx:=leaf_ok hz
   have hA:amA [] B ((i+1)+1)=insV (amA [] B (i+1)) (bE (B.getD (i+1) zl)):=rfl
   have t:=fun PP=>inner a B m d ty2 (amA [] B (i+1)) (bE (B.getD (i+1) zl)) (((i+1):Nat):Int) (by omega) (by omega) hx (fun y hy=>(hoks y hy).1) g (Post:=PP)
   rw[hlen] at t
   refine t _ (fun g R hR=> ?_)
   show aA _ _ _ R12 _ _ _
   refine Runs.hideRoom 5 1 ((i+1)+1) (n:=(i+1)+1) (R:=R) (own:=true) (ty:=33) (s:=65) rfl rfl hR ?_
   show aA _ _ _ R12 ((fill g 0 (MUs a B m d ty2 (((i+1):Nat):Int) ((i+1)+1) R)).set 5 _) _ _
   rw[setU a B m d ty2 _ _ R g,←hA]
   refine Runs.av ak mixed (nx a B m d ty2 _ _ _ _ ((i+1)+1) (((i+1)+1:Nat):Int) g) ⟨by rw[IntKind.wrap_i64];omega,trivial⟩ (iAs a B m d ty2 _ ((i+1)+1) none _ _) rfl fun g=> ?_
   exact⟨(i+1)+1,g,rfl,rfl,by omega,by omega⟩
 ·obtain rfl:i=m:=by omega
  cases i with
  | zero=>
   refine Runs.av ak mixed (otz a B 0 d ty2 g) ⟨decide_eq_false (by omega),trivial⟩ (iDz a B 0 d ty2) rfl fun g=> ?_
   show aA _ _ _ _ _ _ _
   exact Runs.av ak mixed (fz a B 0 d ty2 g) trivial (iRz a B 0 d ty2) rfl fun g=>ay.ret (zz a B 0 d ty2 g) (.inl ⟨rfl,1,rfl,rfl⟩)
  | succ i=>
   refine Runs.av ak mixed (ots a B (i+1) d ty2 _ _ _ _ _ g) ⟨decide_eq_false (by omega),trivial⟩ (iDs a B (i+1) d ty2 _ _ _ _) rfl fun g=> ?_
   show aA _ _ _ _ _ _ _
   refine Runs.av ak mixed (fs a B (i+1) d ty2 _ _ _ _ g) trivial (iRs a B (i+1) d ty2 _ _ _ _) rfl fun g=>ay.ret (zs a B (i+1) d ty2 _ _ _ _ g) (.inr ⟨by omega,?_⟩)
   rw[Nat.zero_add]
   exact⟨1,rfl,rfl⟩
end nw
namespace nn
def m0 (a:Option Addr) (b:Option Addr):List Blk:=[]
def m0z (a:Option Addr) (b:Option Addr):List Blk:=[⟨true,33,.lit []⟩]
def M0z (a:Option Addr) (b:Option Addr):List (Option SV):=aD 57 0 [(1,.o (.a (.v (.slice b 0 0)))),(5,.o (.a (.slc 0 0 0 0)))]
def MAz (a:Option Addr) (b:Option Addr):List (Option SV):=aD 57 0 [(1,.o (.a (.v (.slice b 0 0)))),(5,.o (.a (.slc 0 0 0 0))),(13,.o (.a (int1 .i64 0))),(14,.o (.a (int1 .i64 0)))]
def MDz (a:Option Addr) (b:Option Addr):List (Option SV):=aD 57 0 [(5,.o (.a (.slc 0 0 0 0)))]
def MRz (a:Option Addr) (b:Option Addr):List (Option SV):=aD 57 0 [(4,.o (.a (.slc 0 0 0 0)))]
section
variable (a:Option Addr) (b:Option Addr)
theorem i0z:aC (m0z a b ).length (M0z a b ) (m0z a b )=true:=by kernel_rfl
theorem iAz:aC (m0z a b ).length (MAz a b ) (m0z a b )=true:=by kernel_rfl
theorem iDz:aC (m0z a b ).length (MDz a b ) (m0z a b )=true:=by kernel_rfl
theorem iRz:aC (m0z a b ).length (MRz a b ) (m0z a b )=true:=by kernel_rfl
theorem s0:outX (m0z a b ).length (M0z a b ) (exec Γ tys 300 (cpre 2 body) ⟨aF fn [.o (.a (.v (.slice a 0 0))),.o (.a (.v (.slice b 0 0)))],m0 a b ,[(11,[.dyn])]⟩)=some (.normal,live (M0z a b ),(M0z a b ).length,m0z a b ,[0=0]):=by kernel_rfl
theorem a1z (g:Nat→SV):outX (m0z a b ).length (MAz a b ) (exec Γ tys 300 A2 ⟨fill g 0 (M0z a b ),m0z a b ,[]⟩)=some (.normal,live (MAz a b ),(MAz a b ).length,m0z a b ,[]):=by kernel_rfl
theorem otz (g:Nat→SV):outX (m0z a b ).length (MDz a b ) (exec Γ tys 300 L ⟨fill g 0 (MAz a b ),m0z a b ,[]⟩)=some ((.exit 0),live (MDz a b ),(MDz a b ).length,m0z a b ,[]):=by kernel_rfl
theorem fz (g:Nat→SV):outX (m0z a b ).length (MRz a b ) (exec Γ tys 300 D ⟨fill g 0 (MDz a b ),m0z a b ,[]⟩)=some (.ret,live (MRz a b ),(MRz a b ).length,m0z a b ,[]):=by kernel_rfl
theorem zz (g:Nat→SV):eRes tys (fill g 0 (MRz a b )) (fun k=>(m0z a b )[k]?) fn.results.toList=some [.a (.slc 0 0 0 0)]:=by kernel_rfl
theorem run:aA Tryd.prog GT 0 body (aF fn [.o (.a (.v (.slice a 0 0))),.o (.a (.v (.slice b 0 0)))]) [] (ay tys fn (aR (.o (.a (.slc 0 0 0 0))) (.new 33 (.lit [])))):=by
 refine Runs.bC ak mixed 2 (s0 a b) ⟨rfl,trivial⟩ (i0z a b) rfl fun g=> ?_
 rw[bJ]
 refine Runs.seq (Runs.seq (Runs.av ak mixed (a1z a b g) trivial (iAz a b) rfl fun g=> ?_))
 refine Runs.block ?_
 refine Runs.loopX (fun(_:Unit)=>MAz a b) (fun _=>m0z a b) (fun _=>True) (fun _=>0) ?_ () trivial g
 rintro _ g _
 refine Runs.av ak mixed (otz a b g) trivial (iDz a b) rfl fun g=> ?_
 show aA _ _ _ _ _ _ _
 exact Runs.av ak mixed (fz a b g) trivial (iRz a b) rfl fun g=>ay.ret (zz a b g) ⟨0,rfl,rfl⟩
end
end nn
end amg
end Go.Proofs.YtdccehmekkcheaaDoor

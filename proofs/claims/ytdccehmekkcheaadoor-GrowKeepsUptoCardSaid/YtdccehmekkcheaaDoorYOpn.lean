/- SameNodes; Open of both sides: contracts. -/
import Derived.Test.YtdccehmekkcheaaDoorYFo
import Derived.Test.YtdccehmekkcheaaDoorYMTE
import Derived.Test.YtdccehmekkcheaaDoorYTrPl
import Derived.Test.YtdccehmekkcheaaDoorYTLn
namespace Go.Proofs.YtdccehmekkcheaaDoor
open Go Go.Eng Go.RowKit
set_option linter.unusedVariables false
set_option linter.unusedSimpArgs false
set_option maxRecDepth 100000
theorem leaf_good {z:Lf} (h:LOk z):GoodP (leafV z):=⟨by show(0:Int)≤256;omega,by show(256:Int)≤256;omega,fst_all h.1 (by show 256≤(256:Int).toNat;omega)⟩
theorem mem_rnd {l:List Lf} {n:Nd} (hn:n∈rndA l l.length):∃z∈l,leafV z=n:=by
 have q:=(rnd_perm l l.length (Nat.le_refl _)).mem_iff.1 hn
 rw[leaves_all] at q
 exact List.mem_map.1 q
theorem rnd_ap {l:List Lf} (h:AllL l) (hd:rndD l l.length=false):Ap (rndA l l.length):=by
 have hk:=rnd_nok h l.length (Nat.le_refl _)
 refine⟨fun n hn=> ?_,(rnd_pair h l.length (Nat.le_refl _) hd).imp_of_mem fun {a b} ha hb hab=> ?_,hk⟩
 ·obtain⟨z,hz,rfl⟩:=mem_rnd hn
  exact leaf_good (h z hz)
 ·have hc:=com_lt (hk a ha).1 (hk b hb).1 hab.ne
  obtain⟨z,hz,rfl⟩:=mem_rnd ha
  obtain⟨y,hy,rfl⟩:=mem_rnd hb
  exact⟨hab,by show _<(256:Int);omega,by show _<(256:Int);omega⟩
theorem tnd_apart {l:List Lf} (h:AllL l) (hd:rndD l l.length=false):aM (tndV l)=true:=by
 rw[←rnd_tnd h hd]
 exact(ap_iff (rnd_nok h _ (Nat.le_refl _))).2 (rnd_ap h hd)
theorem ap_dup {l:List Lf} (h:AllL l):aM (tndV l)= !(rndD l l.length):=by
 cases hd:rndD l l.length with
 | false=>exact tnd_apart h hd
 | true=>
  cases ha:aM (tndV l) with
  | false=>rfl
  | true=>rw[ne_dup (apart_ne h ha) _ (Nat.le_refl _)] at hd;cases hd
namespace smn
noncomputable abbrev fn:=Tryd.f41
noncomputable def body:Code:=bG fn
noncomputable def L:Code:=cL (cB (cs2 (cs1 (csuf 2 body))))
noncomputable def A1:Code:=cs1 (cs1 (csuf 2 body))
noncomputable def D:Code:=cs2 (csuf 2 body)
noncomputable def Γ:Cons Tryd.prog GT:=[]
theorem bN:csuf 2 body= .seq (.seq A1 (.block 0 (.loop L))) D:=by kernel_rfl
def M0 (n c d:Nat):List (Option SV):=aB 26 0 [(0,.o (.a (.sld 0 0 0 n c))),(1,.o (.a (.sld 1 0 0 n d)))]
def M1 (n c d:Nat) (j:Int):List (Option SV):=aB 26 0 [(0,.o (.a (.sld 0 0 0 n c))),(1,.o (.a (.sld 1 0 0 n d))),(12,.o (.a (int1 .i64 n))),(13,.o (.a (int1 .i64 j)))]
def MR:List (Option SV):=aB 26 0 [(4,.o (.a (.v (.bool true))))]
section
variable (l:List Nd)
theorem i0 (n c d:Nat) (ty ty2:TypeId):oI (M0 n c d) ([⟨false,ty,.prv (ah l)⟩,⟨false,ty2,.prv (ah l)⟩]:List Blk):=by delta oI;kernel_rfl
theorem i1 (n c d:Nat) (ty ty2:TypeId) (j:Int):oI (M1 n c d j) ([⟨false,ty,.prv (ah l)⟩,⟨false,ty2,.prv (ah l)⟩]:List Blk):=by delta oI;kernel_rfl
theorem iR (ty ty2:TypeId):oI MR ([⟨false,ty,.prv (ah l)⟩,⟨false,ty2,.prv (ah l)⟩]:List Blk):=by delta oI;kernel_rfl
theorem s0 (n c d:Nat) (ty ty2:TypeId):oX Γ 300 (cpre 2 body) (aI fn [.o (.a (.sld 0 0 0 n c)),.o (.a (.sld 1 0 0 n d))]) ([⟨false,ty,.prv (ah l)⟩,⟨false,ty2,.prv (ah l)⟩]:List Blk) [(10,[.b false])] .normal (M0 n c d) ([⟨false,ty,.prv (ah l)⟩,⟨false,ty2,.prv (ah l)⟩]:List Blk) [((n:Int) !=n)=false]:=by delta oX;kernel_rfl
theorem a1 (n c d:Nat) (ty ty2:TypeId) (g:Nat→SV):oX Γ 300 A1 (fill g 0 (M0 n c d )) ([⟨false,ty,.prv (ah l)⟩,⟨false,ty2,.prv (ah l)⟩]:List Blk) [] .normal (M1 n c d 0) ([⟨false,ty,.prv (ah l)⟩,⟨false,ty2,.prv (ah l)⟩]:List Blk) []:=by delta oX;kernel_rfl
theorem stp (n c d:Nat) (ty ty2:TypeId) (j j':Int) (y:Nd) (g:Nat→SV):oX Γ 300 L (fill g 0 (M1 n c d j)) ([⟨false,ty,.prv (ah l)⟩,⟨false,ty2,.prv (ah l)⟩]:List Blk) [(14,[.b true]),(19,[.ds (cNd.enc y)]),(23,[.ds (cNd.enc y)]),(24,[.b false]),(25,[.n j'])] .normal (M1 n c d j') ([⟨false,ty,.prv (ah l)⟩,⟨false,ty2,.prv (ah l)⟩]:List Blk) [decide (j<n)=true,0≤j,j<n,0+offI 0 j 65+65≤(ah l).length,SV.o (.g (aY (ah l) (0+offI 0 j 65) 65))=cNd.enc y,0≤j,j<n,0+offI 0 j 65+65≤(ah l).length,SV.o (.g (aY (ah l) (0+offI 0 j 65) 65))=cNd.enc y,FlatEq Tryd.prog 33 (.i64::List.replicate 64 .u8),(!eqL (y.len::(y.pre.to++y.hash.to)) (y.len::(y.pre.to++y.hash.to)))=false,IntKind.i64.wrap (j+1)=j']:=by delta oX;kernel_rfl
theorem out (n c d:Nat) (ty ty2:TypeId) (j:Int) (g:Nat→SV):oX Γ 300 L (fill g 0 (M1 n c d j)) ([⟨false,ty,.prv (ah l)⟩,⟨false,ty2,.prv (ah l)⟩]:List Blk) [(14,[.b false])] (.exit 0) (M0 n c d) ([⟨false,ty,.prv (ah l)⟩,⟨false,ty2,.prv (ah l)⟩]:List Blk) [decide (j<n)=false]:=by delta oX;kernel_rfl
theorem fin (n c d:Nat) (ty ty2:TypeId) (g:Nat→SV):oX Γ 300 D (fill g 0 (M0 n c d )) ([⟨false,ty,.prv (ah l)⟩,⟨false,ty2,.prv (ah l)⟩]:List Blk) [] .ret MR ([⟨false,ty,.prv (ah l)⟩,⟨false,ty2,.prv (ah l)⟩]:List Blk) []:=by delta oX;kernel_rfl
end
theorem zr (g:Nat→SV) (mm:Nat→Option Blk):eRes tys (fill g 0 MR) mm fn.results.toList=some [.a (bool1 true)]:=by kernel_rfl
theorem nil (a b:Option Addr):runOut Γ tys fn 300 [.o (.a (.v (.slice a 0 0))),.o (.a (.v (.slice b 0 0)))] []=some (aK.enc true,[]):=by kernel_rfl
theorem run (l:List Nd) (n c d:Nat) (ty ty2:TypeId) (hn:l.length=n) (hm:n≤8000000) (hc:n≤c) (hd:n≤d):aC Tryd.prog GT 2 body (aI fn [.o (.a (.sld 0 0 0 n c)),.o (.a (.sld 1 0 0 n d))]) ([⟨false,ty,.prv (ah l)⟩,⟨false,ty2,.prv (ah l)⟩]:List Blk) (aF tys fn (aT (aK.enc true) .none)):=by
 have hl:(ah l).length=n*65:=by rw[←hn];exact aV l
 refine Runs.aW aj mixed 2 (s0 l n c d ty ty2 ) ⟨by simp,trivial⟩ (i0 l n c d ty ty2 ) rfl fun g=> ?_
 rw[bN]
 refine Runs.seq (Runs.seq (Runs.aA aj mixed (a1 l n c d ty ty2 g) trivial (i1 l n c d ty ty2 _) rfl fun g=> ?_))
 refine Runs.block ?_
 refine Runs.bn (fun(i:Nat)=>M1 n c d (i:Int)) (fun _=>([⟨false,ty,.prv (ah l)⟩,⟨false,ty2,.prv (ah l)⟩]:List Blk)) (fun i=>i≤n) (fun i=>n-i) ?_ 0 (Nat.zero_le _) g
 rintro i g hi
 rcases Nat.lt_or_ge i n with h | h
 ·obtain⟨q1,q2⟩:=ld_node hn h
  refine Runs.aA aj mixed (stp l n c d ty ty2 _ ((i+1:Nat):Int) _ g) ⟨decide_eq_true (by omega),by omega,by omega,q1,q2,by omega,by omega,q1,q2,flat_nd,by rw[eqL_refl];rfl,by rw[IntKind.wrap_i64];omega,trivial⟩ (i1 l n c d ty ty2 _) rfl fun g=> ?_
  exact⟨i+1,g,rfl,rfl,by omega,by omega⟩
 ·refine Runs.aA aj mixed (out l n c d ty ty2 _ g) ⟨decide_eq_false (by omega),trivial⟩ (i0 l n c d ty ty2 ) rfl fun g=> ?_
  show aC _ _ _ _ _ _ _
  exact Runs.aA aj mixed (fin l n c d ty ty2 g) trivial (iR l ty ty2 ) rfl fun g=>aF.ret (zr g _) rfl
def spec:List PArg→Option (SV × LEff × Cst)
 | [.winv _ vs n ty,.winv _ ws m ty2]=>some (aK.enc true,.none,[vs=ws,n=m,vs=ah (au vs),(au vs).length=n,n≤8000000])
 | [.val (.o (.a (.v (.slice a 0 0)))),.val (.o (.a (.v (.slice b 0 0))))]=>some (aK.enc true,.none,[])
 | _=>none
noncomputable def con:Con Tryd.prog GT:=Con.parts aj 41 fn Tryd.func41 (by kernel_rfl) (c:=body) (by kernel_rfl) [.winv 65,.winv 65] spec
 (fun ps r e p h hp=>by
  unfold spec at h
  split at h<;>cases h
  ·exact⟨rfl,fun b hb=>by simp only[aR,PArg.blk,List.append_nil,List.nil_append,List.cons_append,List.mem_cons,List.not_mem_nil,or_false] at hb;rcases hb with rfl | rfl<;>rfl⟩
  ·exact⟨rfl,fun b hb=>by simp[aR,PArg.blk] at hb⟩)
 (fun ps r e p cap h hp hi=>by
  unfold spec at h
  split at h<;>cases h
  ·rename_i s1 vs n ty s2 ws m ty2
   obtain⟨p1,p2,p3,p4,p5,_⟩:=hp
   obtain⟨⟨_,hc1⟩,⟨_,hc2⟩,_⟩:=hi
   subst p1 p2
   have q:=run (au vs) n (cap 0) (cap 1) ty ty2 p4 p5 hc1 hc2
   rw[←p3] at q
   exact q
  ·exact runs_of_out1 aj mixed (by kernel_rfl) (nil _ _) trivial)
end smn
end Go.Proofs.YtdccehmekkcheaaDoor

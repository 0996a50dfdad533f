/- SameNodes; Open of both sides: contracts. -/
import Derived.Test.YtdccehmekkcheaaDoorUMTE
import Derived.Test.YtdccehmekkcheaaDoorUTrPl
import Derived.Test.YtdccehmekkcheaaDoorUTLn
namespace Go.Proofs.YtdccehmekkcheaaDoor
open Go Go.Eng Go.RowKit
set_option linter.unusedVariables false
set_option linter.unusedSimpArgs false
set_option maxRecDepth 100000
noncomputable def opT (H:Nd→Nd→B32) (l:List Lf) (x:B32):List Nd:=aroV H true (tndV l) [x]
noncomputable def opR (H:Nd→Nd→B32) (l:List Lf) (x:B32):List Nd:=witV H true (rndA l l.length) [x]
theorem own_ne (H:Nd→Nd→B32) (hH:∀a b,BOk (H a b)) {l:List Nd} (h:Ap l) (h0:l≠[]) (ks:List B32):witV H true l ks≠[]:=fun e=>by
 obtain⟨n,hn⟩:=List.exists_mem_of_ne_nil l h0
 rcases(witV_spec H hH true h h0 ks).all n hn with⟨p,hp,_⟩ | ⟨q,_⟩
 ·rw[e] at hp;cases hp
 ·cases q
theorem leaf_good {z:Lf} (h:LOk z):GoodP (leafV z):=⟨by show(0:Int)≤256;omega,by show(256:Int)≤256;omega,fst_all h.1 (by show 256≤(256:Int).toNat;omega)⟩
theorem mem_rnd {l:List Lf} {n:Nd} (hn:n∈rndA l l.length):∃z∈l,leafV z=n:=by
 have q:=(rnd_perm l l.length (Nat.le_refl _)).mem_iff.1 hn
 rw[leaves_all] at q
 exact List.mem_map.1 q
theorem rnd_ap {l:List Lf} (h:AllL l) (hd:rndD l l.length=false):Ap (rndA l l.length):=by
 have hk:=rnd_nok h l.length (Nat.le_refl _)
 refine⟨fun n hn=> ?_,(rnd_pair h l.length (Nat.le_refl _) hd).imp_of_mem fun {a b} ha hb hab=> ?_,hk⟩
 ·obtain⟨z,hz,rfl⟩:=mem_rnd hn
  exact leaf_good (h z hz)
 ·have hc:=com_lt (hk a ha).1 (hk b hb).1 hab.ne
  obtain⟨z,hz,rfl⟩:=mem_rnd ha
  obtain⟨y,hy,rfl⟩:=mem_rnd hb
  exact⟨hab,by show _<(256:Int);omega,by show _<(256:Int);omega⟩
theorem tnd_apart {l:List Lf} (h:AllL l) (hd:rndD l l.length=false):aP (tndV l)=true:=by
 rw[←rnd_tnd h hd]
 exact(ap_iff (rnd_nok h _ (Nat.le_refl _))).2 (rnd_ap h hd)
theorem ap_dup {l:List Lf} (h:AllL l):aP (tndV l)= !(rndD l l.length):=by
 cases hd:rndD l l.length with
 | false=>exact tnd_apart h hd
 | true=>
  cases ha:aP (tndV l) with
  | false=>rfl
  | true=>rw[ne_dup (apart_ne h ha) _ (Nat.le_refl _)] at hd;cases hd
namespace smn
noncomputable abbrev fn:=Tryd.f41
noncomputable def body:Code:=bq fn
noncomputable def L:Code:=cL (cB (cs2 (cs1 (csuf 2 body))))
noncomputable def A1:Code:=cs1 (cs1 (csuf 2 body))
noncomputable def D:Code:=cs2 (csuf 2 body)
noncomputable def Γ:Cons Tryd.prog GT:=[]
theorem bG:csuf 2 body= .seq (.seq A1 (.block 0 (.loop L))) D:=by kernel_rfl
def M0 (l:List Nd) (n c d:Nat) (ty ty2:TypeId):List (Option SV):=aF 26 0 [(0,.o (.a (.sld 0 0 0 n c))),(1,.o (.a (.sld 1 0 0 n d)))]
def M1 (l:List Nd) (n c d:Nat) (ty ty2:TypeId) (j:Int):List (Option SV):=aF 26 0 [(0,.o (.a (.sld 0 0 0 n c))),(1,.o (.a (.sld 1 0 0 n d))),(12,.o (.a (int1 .i64 n))),(13,.o (.a (int1 .i64 j)))]
def MR:List (Option SV):=aF 26 0 [(4,.o (.a (.v (.bool true))))]
section
variable (l:List Nd)
theorem i0 (n c d:Nat) (ty ty2:TypeId):aD (([⟨false,ty,.prv (ah l)⟩,⟨false,ty2,.prv (ah l)⟩]:List Blk)).length (M0 l n c d ty ty2 ) (([⟨false,ty,.prv (ah l)⟩,⟨false,ty2,.prv (ah l)⟩]:List Blk))=true:=by kernel_rfl
theorem i1 (n c d:Nat) (ty ty2:TypeId) (j:Int):aD (([⟨false,ty,.prv (ah l)⟩,⟨false,ty2,.prv (ah l)⟩]:List Blk)).length (M1 l n c d ty ty2 j) (([⟨false,ty,.prv (ah l)⟩,⟨false,ty2,.prv (ah l)⟩]:List Blk))=true:=by kernel_rfl
theorem iR (n c d:Nat) (ty ty2:TypeId):aD (([⟨false,ty,.prv (ah l)⟩,⟨false,ty2,.prv (ah l)⟩]:List Blk)).length (MR) (([⟨false,ty,.prv (ah l)⟩,⟨false,ty2,.prv (ah l)⟩]:List Blk))=true:=by kernel_rfl
theorem s0 (n c d:Nat) (ty ty2:TypeId):outX (([⟨false,ty,.prv (ah l)⟩,⟨false,ty2,.prv (ah l)⟩]:List Blk)).length (M0 l n c d ty ty2 ) (exec Γ tys 300 (cpre 2 body) ⟨aH fn [.o (.a (.sld 0 0 0 n c)),.o (.a (.sld 1 0 0 n d))],([⟨false,ty,.prv (ah l)⟩,⟨false,ty2,.prv (ah l)⟩]:List Blk),[(10,[.b false])]⟩)=some (.normal,live (M0 l n c d ty ty2 ),(M0 l n c d ty ty2 ).length,([⟨false,ty,.prv (ah l)⟩,⟨false,ty2,.prv (ah l)⟩]:List Blk),[((n:Int) !=n)=false]):=by kernel_rfl
theorem a1 (n c d:Nat) (ty ty2:TypeId) (g:Nat→SV):outX (([⟨false,ty,.prv (ah l)⟩,⟨false,ty2,.prv (ah l)⟩]:List Blk)).length (M1 l n c d ty ty2 0) (exec Γ tys 300 A1 ⟨fill g 0 (M0 l n c d ty ty2 ),([⟨false,ty,.prv (ah l)⟩,⟨false,ty2,.prv (ah l)⟩]:List Blk),[]⟩)=some (.normal,live (M1 l n c d ty ty2 0),(M1 l n c d ty ty2 0).length,([⟨false,ty,.prv (ah l)⟩,⟨false,ty2,.prv (ah l)⟩]:List Blk),[]):=by kernel_rfl
theorem stp (n c d:Nat) (ty ty2:TypeId) (j j':Int) (y:Nd) (g:Nat→SV):outX (([⟨false,ty,.prv (ah l)⟩,⟨false,ty2,.prv (ah l)⟩]:List Blk)).length (M1 l n c d ty ty2 j') (exec Γ tys 300 L ⟨fill g 0 (M1 l n c d ty ty2 j),([⟨false,ty,.prv (ah l)⟩,⟨false,ty2,.prv (ah l)⟩]:List Blk),[(14,[.b true]),(19,[.ds (cNd.enc y)]),(23,[.ds (cNd.enc y)]),(24,[.b false]),(25,[.n j'])]⟩)=some (.normal,live (M1 l n c d ty ty2 j'),(M1 l n c d ty ty2 j').length,([⟨false,ty,.prv (ah l)⟩,⟨false,ty2,.prv (ah l)⟩]:List Blk),[decide (j<n)=true,0≤j,j<n,0+offI 0 j 65+65≤(ah l).length,SV.o (.g (aZ (ah l) (0+offI 0 j 65) 65))=cNd.enc y,0≤j,j<n,0+offI 0 j 65+65≤(ah l).length,SV.o (.g (aZ (ah l) (0+offI 0 j 65) 65))=cNd.enc y,FlatEq Tryd.prog 33 (.i64::List.replicate 64 .u8),(!eqL (y.len::(y.pre.to++y.hash.to)) (y.len::(y.pre.to++y.hash.to)))=false,IntKind.i64.wrap (j+1)=j']):=by kernel_rfl
theorem out (n c d:Nat) (ty ty2:TypeId) (j:Int) (g:Nat→SV):outX (([⟨false,ty,.prv (ah l)⟩,⟨false,ty2,.prv (ah l)⟩]:List Blk)).length (M0 l n c d ty ty2 ) (exec Γ tys 300 L ⟨fill g 0 (M1 l n c d ty ty2 j),([⟨false,ty,.prv (ah l)⟩,⟨false,ty2,.prv (ah l)⟩]:List Blk),[(14,[.b false])]⟩)=some ((.exit 0),live (M0 l n c d ty ty2 ),(M0 l n c d ty ty2 ).length,([⟨false,ty,.prv (ah l)⟩,⟨false,ty2,.prv (ah l)⟩]:List Blk),[decide (j<n)=false]):=by kernel_rfl
theorem fin (n c d:Nat) (ty ty2:TypeId) (g:Nat→SV):outX (([⟨false,ty,.prv (ah l)⟩,⟨false,ty2,.prv (ah l)⟩]:List Blk)).length (MR) (exec Γ tys 300 D ⟨fill g 0 (M0 l n c d ty ty2 ),([⟨false,ty,.prv (ah l)⟩,⟨false,ty2,.prv (ah l)⟩]:List Blk),[]⟩)=some (.ret,live (MR),(MR).length,([⟨false,ty,.prv (ah l)⟩,⟨false,ty2,.prv (ah l)⟩]:List Blk),[]):=by kernel_rfl
end
theorem zr (g:Nat→SV) (mm:Nat→Option Blk):eRes tys (fill g 0 MR) mm fn.results.toList=some [.a (bool1 true)]:=by kernel_rfl
theorem nil (a b:Option Addr):runOut Γ tys fn 300 [.o (.a (.v (.slice a 0 0))),.o (.a (.v (.slice b 0 0)))] []=some (aI.enc true,[]):=by kernel_rfl
theorem run (l:List Nd) (n c d:Nat) (ty ty2:TypeId) (hn:l.length=n) (hm:n≤8000000) (hc:n≤c) (hd:n≤d):aC Tryd.prog GT 2 body (aH fn [.o (.a (.sld 0 0 0 n c)),.o (.a (.sld 1 0 0 n d))]) ([⟨false,ty,.prv (ah l)⟩,⟨false,ty2,.prv (ah l)⟩]:List Blk) (aG tys fn (aS (aI.enc true) .none)):=by
 have hl:(ah l).length=n*65:=by rw[←hn];exact aR l
 refine Runs.bD aj mixed 2 (s0 l n c d ty ty2 ) ⟨by simp,trivial⟩ (i0 l n c d ty ty2 ) rfl fun g=> ?_
 rw[bG]
 refine Runs.seq (Runs.seq (Runs.au aj mixed (a1 l n c d ty ty2 g) trivial (i1 l n c d ty ty2 _) rfl fun g=> ?_))
 refine Runs.block ?_
 refine Runs.bC (fun(i:Nat)=>M1 l n c d ty ty2 (i:Int)) (fun _=>([⟨false,ty,.prv (ah l)⟩,⟨false,ty2,.prv (ah l)⟩]:List Blk)) (fun i=>i≤n) (fun i=>n-i) ?_ 0 (Nat.zero_le _) g
 rintro i g hi
 rcases Nat.lt_or_ge i n with h | h
 ·obtain⟨q1,q2⟩:=ld_node hn h
  refine Runs.au aj mixed (stp l n c d ty ty2 _ ((i+1:Nat):Int) _ g) ⟨decide_eq_true (by omega),by omega,by omega,q1,q2,by omega,by omega,q1,q2,flat_nd,by rw[eqL_refl];rfl,by rw[IntKind.wrap_i64];omega,trivial⟩ (i1 l n c d ty ty2 _) rfl fun g=> ?_
  exact⟨i+1,g,rfl,rfl,by omega,by omega⟩
 ·refine Runs.au aj mixed (out l n c d ty ty2 _ g) ⟨decide_eq_false (by omega),trivial⟩ (i0 l n c d ty ty2 ) rfl fun g=> ?_
  show aC _ _ _ _ _ _ _
  exact Runs.au aj mixed (fin l n c d ty ty2 g) trivial (iR l n c d ty ty2 ) rfl fun g=>aG.ret (zr g _) rfl
def spec:List PArg→Option (SV × LEff × Cst)
 | [.winv _ vs n ty,.winv _ ws m ty2]=>some (aI.enc true,.none,[vs=ws,n=m,vs=ah (ak vs),(ak vs).length=n,n≤8000000])
 | [.val (.o (.a (.v (.slice a 0 0)))),.val (.o (.a (.v (.slice b 0 0))))]=>some (aI.enc true,.none,[])
 | _=>none
noncomputable def con:Con Tryd.prog GT:=Con.parts aj 41 fn Tryd.func41 (by kernel_rfl) (c:=body) (by kernel_rfl) [.winv 65,.winv 65] spec
 (fun ps r e p h hp=>by
  unfold spec at h
  split at h<;>cases h
  ·exact⟨rfl,fun b hb=>by simp only[aN,PArg.blk,List.append_nil,List.nil_append,List.cons_append,List.mem_cons,List.not_mem_nil,or_false] at hb;rcases hb with rfl | rfl<;>rfl⟩
  ·exact⟨rfl,fun b hb=>by simp[aN,PArg.blk] at hb⟩)
 (fun ps r e p cap h hp hi=>by
  unfold spec at h
  split at h<;>cases h
  ·rename_i s1 vs n ty s2 ws m ty2
   obtain⟨p1,p2,p3,p4,p5,_⟩:=hp
   obtain⟨⟨_,hc1⟩,⟨_,hc2⟩,_⟩:=hi
   subst p1 p2
   have q:=run (ak vs) n (cap 0) (cap 1) ty ty2 p4 p5 hc1 hc2
   rw[←p3] at q
   exact q
  ·exact runs_of_out1 aj mixed (by kernel_rfl) (nil _ _) trivial)
end smn
namespace top
noncomputable abbrev fn:=Tryd.f40
noncomputable def body:Code:=bq fn
noncomputable def ΓE:Cons Tryd.prog GT:=[tnd.con,tap.con]
noncomputable def ΓP (H:Nd→Nd→B32) (hH:H=hV):Cons Tryd.prog GT:=[tnd.con,tap.con,tar.cP H hH]
noncomputable def ΓZ (H:Nd→Nd→B32) (hH:H=hV):Cons Tryd.prog GT:=[tnd.con,tap.con,tar.cZ H hH]
def MN (e:Int):List (Option SV):=aF 16 0 [(4,.o (.a (.v (.slice none 0 0)))),(5,.o (.a (int1 .i64 e)))]
def MR (r:Nat):List (Option SV):=aF 16 0 [(4,.o (.a (.slg 1 r))),(5,.o (.a (int1 .i64 0)))]
section
variable (l:List Lf) (ty:TypeId)
def m0:List Blk:=[⟨false,ty,.prv (lvals l)⟩]
def mr (us:List Value) (r:Nat):List Blk:=[⟨false,ty,.prv (lvals l)⟩,⟨true,33,.grv 65 us r none⟩]
theorem iN (e:Int):aD (m0 l ty).length (MN e) (m0 l ty)=true:=by kernel_rfl
theorem iR (us:List Value) (r:Nat):aD (mr l ty us r).length (MR r) (mr l ty us r)=true:=by kernel_rfl
theorem zn (e:Int) (g:Nat→SV):eRes tys (fill g 0 (MN e)) (fun k=>(m0 l ty)[k]?) fn.results.toList=some [.a (.v (.slice none 0 0)),.a (int1 .i64 e)]:=by kernel_rfl
theorem zr (us:List Value) (r:Nat) (g:Nat→SV):eRes tys (fill g 0 (MR r)) (fun k=>(mr l ty us r)[k]?) fn.results.toList=some [.a (.slg 1 r),.a (int1 .i64 0)]:=by kernel_rfl
end
section
variable (H:Nd→Nd→B32)
theorem sE (hH:H=hV) (l:List Lf) (n c:Nat) (ty:TypeId) (x:B32):outN [0] (MN 1) (exec ΓE tys 100 body ⟨aH fn [.o (.a (.sld 0 0 0 n c)),cB32.enc x],[⟨false,ty,.prv (lvals l)⟩],[(10,[.s (aI.enc false)])]⟩)=some (.ret,(live (MN 1)).map (SV.ren (piF [0])),(MN 1).length,(m0 l ty).map (fun b=>some (b.ren (piF [0]))),[0+0+n*64≤(lvals l).length,n≤c,((lvals l).drop (0+0)).take (n*64)=lvals (aB (((lvals l).drop (0+0)).take (n*64))),(aB (((lvals l).drop (0+0)).take (n*64))).length=n,n≤4000000,AllL (aB (((lvals l).drop (0+0)).take (n*64))),0+0+n*65≤(ah (tndV (aB (((lvals l).drop (0+0)).take (n*64))))).length,n≤n,((ah (tndV (aB (((lvals l).drop (0+0)).take (n*64))))).drop (0+0)).take (n*65)=ah (ak (((ah (tndV (aB (((lvals l).drop (0+0)).take (n*64))))).drop (0+0)).take (n*65))),(ak (((ah (tndV (aB (((lvals l).drop (0+0)).take (n*64))))).drop (0+0)).take (n*65))).length=n,n<aQ,aL (ak (((ah (tndV (aB (((lvals l).drop (0+0)).take (n*64))))).drop (0+0)).take (n*65))),aI.enc (aP (ak (((ah (tndV (aB (((lvals l).drop (0+0)).take (n*64))))).drop (0+0)).take (n*65))))=aI.enc false]):=by kernel_rfl
theorem sZ (hH:H=hV) (l:List Lf) (n c:Nat) (ty:TypeId) (x:B32):outN [0] (MN 0) (exec (ΓZ H hH) tys 100 body ⟨aH fn [.o (.a (.sld 0 0 0 n c)),cB32.enc x],[⟨false,ty,.prv (lvals l)⟩],[(10,[.s (aI.enc true)]),(14,[.dyn])]⟩)=some (.ret,(live (MN 0)).map (SV.ren (piF [0])),(MN 0).length,(m0 l ty).map (fun b=>some (b.ren (piF [0]))),[0+0+n*64≤(lvals l).length,n≤c,((lvals l).drop (0+0)).take (n*64)=lvals (aB (((lvals l).drop (0+0)).take (n*64))),(aB (((lvals l).drop (0+0)).take (n*64))).length=n,n≤4000000,AllL (aB (((lvals l).drop (0+0)).take (n*64))),0+0+n*65≤(ah (tndV (aB (((lvals l).drop (0+0)).take (n*64))))).length,n≤n,((ah (tndV (aB (((lvals l).drop (0+0)).take (n*64))))).drop (0+0)).take (n*65)=ah (ak (((ah (tndV (aB (((lvals l).drop (0+0)).take (n*64))))).drop (0+0)).take (n*65))),(ak (((ah (tndV (aB (((lvals l).drop (0+0)).take (n*64))))).drop (0+0)).take (n*65))).length=n,n<aQ,aL (ak (((ah (tndV (aB (((lvals l).drop (0+0)).take (n*64))))).drop (0+0)).take (n*65))),aI.enc (aP (ak (((ah (tndV (aB (((lvals l).drop (0+0)).take (n*64))))).drop (0+0)).take (n*65))))=aI.enc true,32=1*32,0+0+n*65≤(ah (tndV (aB (((lvals l).drop (0+0)).take (n*64))))).length,n≤n,0+0+1*32≤(aW x).length,1≤1,((ah (tndV (aB (((lvals l).drop (0+0)).take (n*64))))).drop (0+0)).take (n*65)=ah (ak (((ah (tndV (aB (((lvals l).drop (0+0)).take (n*64))))).drop (0+0)).take (n*65))),(ak (((ah (tndV (aB (((lvals l).drop (0+0)).take (n*64))))).drop (0+0)).take (n*65))).length=n,n<4000001,aL (ak (((ah (tndV (aB (((lvals l).drop (0+0)).take (n*64))))).drop (0+0)).take (n*65))),aP (ak (((ah (tndV (aB (((lvals l).drop (0+0)).take (n*64))))).drop (0+0)).take (n*65)))=true,((aW x).drop (0+0)).take (1*32)=aA (ay (((aW x).drop (0+0)).take (1*32))),(ay (((aW x).drop (0+0)).take (1*32))).length=1,1≤4000000,AllB (ay (((aW x).drop (0+0)).take (1*32))),(aroV H true (ak (((ah (tndV (aB (((lvals l).drop (0+0)).take (n*64))))).drop (0+0)).take (n*65))) (ay (((aW x).drop (0+0)).take (1*32))))=[]]):=by kernel_rfl
theorem sP (hH:H=hV) (l:List Lf) (n c:Nat) (ty:TypeId) (x:B32):outN [0,4] (MR (aroV H true (ak (((ah (tndV (aB (((lvals l).drop (0+0)).take (n*64))))).drop (0+0)).take (n*65))) (ay (((aW x).drop (0+0)).take (1*32)))).length) (exec (ΓP H hH) tys 100 body ⟨aH fn [.o (.a (.sld 0 0 0 n c)),cB32.enc x],[⟨false,ty,.prv (lvals l)⟩],[(10,[.s (aI.enc true)]),(14,[.dyn])]⟩)=some (.ret,(live (MR (aroV H true (ak (((ah (tndV (aB (((lvals l).drop (0+0)).take (n*64))))).drop (0+0)).take (n*65))) (ay (((aW x).drop (0+0)).take (1*32)))).length)).map (SV.ren (piF [0,4])),(MR (aroV H true (ak (((ah (tndV (aB (((lvals l).drop (0+0)).take (n*64))))).drop (0+0)).take (n*65))) (ay (((aW x).drop (0+0)).take (1*32)))).length).length,(mr l ty (ah (aroV H true (ak (((ah (tndV (aB (((lvals l).drop (0+0)).take (n*64))))).drop (0+0)).take (n*65))) (ay (((aW x).drop (0+0)).take (1*32))))) (aroV H true (ak (((ah (tndV (aB (((lvals l).drop (0+0)).take (n*64))))).drop (0+0)).take (n*65))) (ay (((aW x).drop (0+0)).take (1*32)))).length).map (fun b=>some (b.ren (piF [0,4]))),[0+0+n*64≤(lvals l).length,n≤c,((lvals l).drop (0+0)).take (n*64)=lvals (aB (((lvals l).drop (0+0)).take (n*64))),(aB (((lvals l).drop (0+0)).take (n*64))).length=n,n≤4000000,AllL (aB (((lvals l).drop (0+0)).take (n*64))),0+0+n*65≤(ah (tndV (aB (((lvals l).drop (0+0)).take (n*64))))).length,n≤n,((ah (tndV (aB (((lvals l).drop (0+0)).take (n*64))))).drop (0+0)).take (n*65)=ah (ak (((ah (tndV (aB (((lvals l).drop (0+0)).take (n*64))))).drop (0+0)).take (n*65))),(ak (((ah (tndV (aB (((lvals l).drop (0+0)).take (n*64))))).drop (0+0)).take (n*65))).length=n,n<aQ,aL (ak (((ah (tndV (aB (((lvals l).drop (0+0)).take (n*64))))).drop (0+0)).take (n*65))),aI.enc (aP (ak (((ah (tndV (aB (((lvals l).drop (0+0)).take (n*64))))).drop (0+0)).take (n*65))))=aI.enc true,32=1*32,0+0+n*65≤(ah (tndV (aB (((lvals l).drop (0+0)).take (n*64))))).length,n≤n,0+0+1*32≤(aW x).length,1≤1,((ah (tndV (aB (((lvals l).drop (0+0)).take (n*64))))).drop (0+0)).take (n*65)=ah (ak (((ah (tndV (aB (((lvals l).drop (0+0)).take (n*64))))).drop (0+0)).take (n*65))),(ak (((ah (tndV (aB (((lvals l).drop (0+0)).take (n*64))))).drop (0+0)).take (n*65))).length=n,n<4000001,aL (ak (((ah (tndV (aB (((lvals l).drop (0+0)).take (n*64))))).drop (0+0)).take (n*65))),aP (ak (((ah (tndV (aB (((lvals l).drop (0+0)).take (n*64))))).drop (0+0)).take (n*65)))=true,((aW x).drop (0+0)).take (1*32)=aA (ay (((aW x).drop (0+0)).take (1*32))),(ay (((aW x).drop (0+0)).take (1*32))).length=1,1≤4000000,AllB (ay (((aW x).drop (0+0)).take (1*32))),(aroV H true (ak (((ah (tndV (aB (((lvals l).drop (0+0)).take (n*64))))).drop (0+0)).take (n*65))) (ay (((aW x).drop (0+0)).take (1*32))))≠[]]):=by kernel_rfl
theorem runE (hH:H=hV) (l:List Lf) (n c:Nat) (ty:TypeId) (x:B32) (hn:l.length=n) (hm:n≤4000000) (hc:n≤c) (hok:AllL l) (hx:BOk x) (ha:aP (tndV l)=false):aC Tryd.prog GT 1 body (aH fn [.o (.a (.sld 0 0 0 n c)),cB32.enc x]) [⟨false,ty,.prv (lvals l)⟩] (aG tys fn (aS (.t [.a (.v (.slice none 0 0)),.a (int1 .i64 1)]) .none)):=by
 obtain⟨y1,y2⟩:=lfN_two n hn
 have hl:(lvals l).length=n*64:=by rw[←hn];exact bR l
 have hHk:∀a b,BOk (H a b):=fun a b=>by rw[hH];exact hV_ok a b
 have ht:(tndV l).length=n:=by rw[tnd_len,hn]
 have hz:(ah (tndV l)).length=n*65:=by rw[aR,ht]
 obtain⟨z1,z2⟩:=apN_two n ht
 have hk:aL (tndV l):=tnd_ok hok
 have w1:((aW x).drop (0+0)).take (1*32)=aW x:=by rw[Nat.add_zero,List.drop_zero,List.take_of_length_le (by rw[bS];omega)]
 have w2:ay (aW x)=[x]:=by have:=bvDec_vals [x];rwa [show aA [x]=aW x from List.append_nil _] at this
 have w3:aW x=aA [x]:=(List.append_nil _).symm
 have hab:AllB [x]:=fun z hz=>by rw[List.mem_singleton.1 hz];exact hx
 exact Runs.aK aj mixed [0] (sE H hH l n c ty x ) ⟨by omega,hc,y1,by rw[y2];exact hn,hm,by rw[y2];exact hok,by rw[y2,hz];omega,Nat.le_refl _,by rw[y2];exact z1,by rw[y2,z2];exact ht,by unfold aQ;omega,by rw[y2,z2];exact hk,by rw[y2,z2,ha],trivial⟩ (iN _ _ _) rfl fun g=>aG.ret (zn _ _ _ g) rfl
theorem runZ (hH:H=hV) (l:List Lf) (n c:Nat) (ty:TypeId) (x:B32) (hn:l.length=n) (hm:n≤4000000) (hc:n≤c) (hok:AllL l) (hx:BOk x) (h0:n=0):aC Tryd.prog GT 1 body (aH fn [.o (.a (.sld 0 0 0 n c)),cB32.enc x]) [⟨false,ty,.prv (lvals l)⟩] (aG tys fn (aS (.t [.a (.v (.slice none 0 0)),.a (int1 .i64 0)]) .none)):=by
 have e0:tndV l=[]:=List.eq_nil_of_length_eq_zero (by rw[tnd_len];omega)
 have ha:aP (tndV l)=true:=by rw[e0];rfl
 obtain⟨y1,y2⟩:=lfN_two n hn
 have hl:(lvals l).length=n*64:=by rw[←hn];exact bR l
 have hHk:∀a b,BOk (H a b):=fun a b=>by rw[hH];exact hV_ok a b
 have ht:(tndV l).length=n:=by rw[tnd_len,hn]
 have hz:(ah (tndV l)).length=n*65:=by rw[aR,ht]
 obtain⟨z1,z2⟩:=apN_two n ht
 have hk:aL (tndV l):=tnd_ok hok
 have w1:((aW x).drop (0+0)).take (1*32)=aW x:=by rw[Nat.add_zero,List.drop_zero,List.take_of_length_le (by rw[bS];omega)]
 have w2:ay (aW x)=[x]:=by have:=bvDec_vals [x];rwa [show aA [x]=aW x from List.append_nil _] at this
 have w3:aW x=aA [x]:=(List.append_nil _).symm
 have hab:AllB [x]:=fun z hz=>by rw[List.mem_singleton.1 hz];exact hx
 exact Runs.aK aj mixed [0] (sZ H hH l n c ty x ) ⟨by omega,hc,y1,by rw[y2];exact hn,hm,by rw[y2];exact hok,by rw[y2,hz];omega,Nat.le_refl _,by rw[y2];exact z1,by rw[y2,z2];exact ht,by unfold aQ;omega,by rw[y2,z2];exact hk,by rw[y2,z2,ha],rfl,by rw[y2,hz];omega,Nat.le_refl _,by rw[bS];omega,Nat.le_refl _,by rw[y2];exact z1,by rw[y2,z2];exact ht,by omega,by rw[y2,z2];exact hk,by rw[y2,z2];exact ha,by rw[w1,w2];exact w3,by rw[w1,w2];rfl,by omega,by rw[w1,w2];exact hab,by rw[y2,z2,w1,w2];exact(by rw[e0,aroV_nil]),trivial⟩ (iN _ _ _) rfl fun g=>aG.ret (zn _ _ _ g) rfl
theorem runP (hH:H=hV) (l:List Lf) (n c:Nat) (ty:TypeId) (x:B32) (hn:l.length=n) (hm:n≤4000000) (hc:n≤c) (hok:AllL l) (hx:BOk x) (h0:0<n) (ha:aP (tndV l)=true):aC Tryd.prog GT 1 body (aH fn [.o (.a (.sld 0 0 0 n c)),cB32.enc x]) [⟨false,ty,.prv (lvals l)⟩] (aG tys fn (aS (.t [.a (.slg 0 (opT H l x).length),.a (int1 .i64 0)]) (.new 33 (.grv 65 (ah (opT H l x)) (opT H l x).length none)))):=by
 obtain⟨y1,y2⟩:=lfN_two n hn
 have hl:(lvals l).length=n*64:=by rw[←hn];exact bR l
 have hHk:∀a b,BOk (H a b):=fun a b=>by rw[hH];exact hV_ok a b
 have ht:(tndV l).length=n:=by rw[tnd_len,hn]
 have hz:(ah (tndV l)).length=n*65:=by rw[aR,ht]
 obtain⟨z1,z2⟩:=apN_two n ht
 have hk:aL (tndV l):=tnd_ok hok
 have w1:((aW x).drop (0+0)).take (1*32)=aW x:=by rw[Nat.add_zero,List.drop_zero,List.take_of_length_le (by rw[bS];omega)]
 have w2:ay (aW x)=[x]:=by have:=bvDec_vals [x];rwa [show aA [x]=aW x from List.append_nil _] at this
 have w3:aW x=aA [x]:=(List.append_nil _).symm
 have hab:AllB [x]:=fun z hz=>by rw[List.mem_singleton.1 hz];exact hx
 have hA:=(ap_iff hk).1 ha
 have hne:aroV H true (tndV l) [x]≠[]:=by rw[aroV_wit H hHk true hA];exact own_ne H hHk hA (by rw[←List.length_pos_iff];omega) _
 have q:=sP H hH l n c ty x
 rw[y2,z2,w1,w2] at q
 exact Runs.aK aj mixed [0,4] q ⟨by omega,hc,(y1.trans (by rw[y2])),hn,hm,hok,by rw[hz];omega,Nat.le_refl _,dtn ht,ht,by unfold aQ;omega,hk,by rw[ha],rfl,by rw[hz];omega,Nat.le_refl _,by rw[bS];omega,Nat.le_refl _,dtn ht,ht,by omega,hk,ha,w3,rfl,by omega,hab,hne,trivial⟩ (iR _ _ _ _) rfl fun g=>aG.ret (zr _ _ _ _ g) ⟨1,rfl,rfl⟩
end
noncomputable def specE (H:Nd→Nd→B32):List PArg→Option (SV × LEff × Cst)
 | [.winv _ vs n ty,.val v]=>match cB32.dec v with
  | some x=>some (.t [.a (.v (.slice none 0 0)),.a (int1 .i64 1)],.none,[vs=lvals (aB vs),(aB vs).length=n,n≤4000000,AllL (aB vs),BOk x,aP (tndV (aB vs))=false])
  | none=>none
 | _=>none
noncomputable def conE (H:Nd→Nd→B32) (hH:H=hV):Con Tryd.prog GT:=Con.parts aj 40 fn Tryd.func40 (by kernel_rfl) (c:=body) (by kernel_rfl) [.winv 64,.val] (specE H)
 (fun ps r e p h hp=>by
  unfold specE at h
  split at h
  ·split at h<;>cases h
   exact⟨rfl,fun b hb=>by simp only[aN,PArg.blk,List.append_nil,List.nil_append,List.mem_singleton] at hb;rw[hb]⟩
  ·cases h)
 (fun ps r e p cap h hp hi=>by
  unfold specE at h
  split at h
  ·rename_i s0 vs n ty z0
   split at h<;>cases h
   rename_i x k2
   have e2:=cB32.ok _ _ k2
   subst e2
   obtain⟨p1,p2,p3,p4,p5,p6,_⟩:=hp
   have q:=runE H hH (aB vs) n (cap 0) ty x p2 p3 hi.1.2 p4 p5 p6
   rw[←p1] at q
   exact q
  ·cases h)
noncomputable def specZ (H:Nd→Nd→B32):List PArg→Option (SV × LEff × Cst)
 | [.winv _ vs n ty,.val v]=>match cB32.dec v with
  | some x=>some (.t [.a (.v (.slice none 0 0)),.a (int1 .i64 0)],.none,[vs=lvals (aB vs),(aB vs).length=n,n≤4000000,AllL (aB vs),BOk x,n=0])
  | none=>none
 | _=>none
noncomputable def conZ (H:Nd→Nd→B32) (hH:H=hV):Con Tryd.prog GT:=Con.parts aj 40 fn Tryd.func40 (by kernel_rfl) (c:=body) (by kernel_rfl) [.winv 64,.val] (specZ H)
 (fun ps r e p h hp=>by
  unfold specZ at h
  split at h
  ·split at h<;>cases h
   exact⟨rfl,fun b hb=>by simp only[aN,PArg.blk,List.append_nil,List.nil_append,List.mem_singleton] at hb;rw[hb]⟩
  ·cases h)
 (fun ps r e p cap h hp hi=>by
  unfold specZ at h
  split at h
  ·rename_i s0 vs n ty z0
   split at h<;>cases h
   rename_i x k2
   have e2:=cB32.ok _ _ k2
   subst e2
   obtain⟨p1,p2,p3,p4,p5,p6,_⟩:=hp
   have q:=runZ H hH (aB vs) n (cap 0) ty x p2 p3 hi.1.2 p4 p5 p6
   rw[←p1] at q
   exact q
  ·cases h)
noncomputable def specP (H:Nd→Nd→B32):List PArg→Option (SV × LEff × Cst)
 | [.winv _ vs n ty,.val v]=>match cB32.dec v with
  | some x=>some (.t [.a (.slg 0 (opT H (aB vs) x).length),.a (int1 .i64 0)],.new 33 (.grv 65 (ah (opT H (aB vs) x)) (opT H (aB vs) x).length none),[vs=lvals (aB vs),(aB vs).length=n,n≤4000000,AllL (aB vs),BOk x,0<n,aP (tndV (aB vs))=true])
  | none=>none
 | _=>none
noncomputable def conP (H:Nd→Nd→B32) (hH:H=hV):Con Tryd.prog GT:=Con.parts aj 40 fn Tryd.func40 (by kernel_rfl) (c:=body) (by kernel_rfl) [.winv 64,.val] (specP H)
 (fun ps r e p h hp=>by
  unfold specP at h
  split at h
  ·split at h<;>cases h
   exact⟨rfl,fun b hb=>by simp only[aN,PArg.blk,List.append_nil,List.nil_append,List.mem_singleton] at hb;rw[hb]⟩
  ·cases h)
 (fun ps r e p cap h hp hi=>by
  unfold specP at h
  split at h
  ·rename_i s0 vs n ty z0
   split at h<;>cases h
   rename_i x k2
   have e2:=cB32.ok _ _ k2
   subst e2
   obtain⟨p1,p2,p3,p4,p5,p6,p7,_⟩:=hp
   have q:=runP H hH (aB vs) n (cap 0) ty x p2 p3 hi.1.2 p4 p5 p6 p7
   rw[←p1] at q
   exact q
  ·cases h)
end top
namespace rop
noncomputable abbrev fn:=Tryd.f39
noncomputable def body:Code:=bq fn
noncomputable def ΓE:Cons Tryd.prog GT:=[rnd.conE]
noncomputable def ΓP (H:Nd→Nd→B32) (hH:H=hV):Cons Tryd.prog GT:=[rnd.conP,rwi.cP H hH]
noncomputable def ΓZ:Cons Tryd.prog GT:=[rnd.conZ,rwi.cN]
def MN (e:Int):List (Option SV):=aF 19 0 [(4,.o (.a (.v (.slice none 0 0)))),(5,.o (.a (int1 .i64 e)))]
def MR (r:Nat):List (Option SV):=aF 19 0 [(4,.o (.a (.slg 1 r))),(5,.o (.a (int1 .i64 0)))]
section
variable (l:List Lf) (ty:TypeId)
def m0:List Blk:=[⟨false,ty,.prv (lvals l)⟩]
def mr (us:List Value) (r:Nat):List Blk:=[⟨false,ty,.prv (lvals l)⟩,⟨true,33,.grv 65 us r none⟩]
theorem iN (e:Int):aD (m0 l ty).length (MN e) (m0 l ty)=true:=by kernel_rfl
theorem iR (us:List Value) (r:Nat):aD (mr l ty us r).length (MR r) (mr l ty us r)=true:=by kernel_rfl
theorem zn (e:Int) (g:Nat→SV):eRes tys (fill g 0 (MN e)) (fun k=>(m0 l ty)[k]?) fn.results.toList=some [.a (.v (.slice none 0 0)),.a (int1 .i64 e)]:=by kernel_rfl
theorem zr (us:List Value) (r:Nat) (g:Nat→SV):eRes tys (fill g 0 (MR r)) (fun k=>(mr l ty us r)[k]?) fn.results.toList=some [.a (.slg 1 r),.a (int1 .i64 0)]:=by kernel_rfl
end
theorem sE (H:Nd→Nd→B32) (hH:H=hV) (l:List Lf) (n c:Nat) (ty:TypeId) (x:B32):outN [0] (MN 1) (exec ΓE tys 100 body ⟨aH fn [.o (.a (.sld 0 0 0 n c)),cB32.enc x],[⟨false,ty,.prv (lvals l)⟩],[]⟩)=some (.ret,(live (MN 1)).map (SV.ren (piF [0])),(MN 1).length,(m0 l ty).map (fun b=>some (b.ren (piF [0]))),[0+0+n*64≤(lvals l).length,n≤c,((lvals l).drop (0+0)).take (n*64)=lvals (aB (((lvals l).drop (0+0)).take (n*64))),(aB (((lvals l).drop (0+0)).take (n*64))).length=n,n≤4000000,AllL (aB (((lvals l).drop (0+0)).take (n*64))),rndD (aB (((lvals l).drop (0+0)).take (n*64))) n=true]):=by kernel_rfl
theorem sZ (H:Nd→Nd→B32) (hH:H=hV) (l:List Lf) (n c:Nat) (ty:TypeId) (x:B32):outN [0] (MN 0) (exec ΓZ tys 100 body ⟨aH fn [.o (.a (.sld 0 0 0 n c)),cB32.enc x],[⟨false,ty,.prv (lvals l)⟩],[(17,[.dyn])]⟩)=some (.ret,(live (MN 0)).map (SV.ren (piF [0])),(MN 0).length,(m0 l ty).map (fun b=>some (b.ren (piF [0]))),[0+0+n*64≤(lvals l).length,n≤c,((lvals l).drop (0+0)).take (n*64)=lvals (aB (((lvals l).drop (0+0)).take (n*64))),(aB (((lvals l).drop (0+0)).take (n*64))).length=n,n=0,32=1*32,0+0+1*32≤(aW x).length,1≤1]):=by kernel_rfl
theorem iQ (e:Int):aD 0 (MN e) []=true:=by kernel_rfl
theorem zq (e:Int) (g:Nat→SV):eRes tys (fill g 0 (MN e)) (fun k=>([]:List Blk)[k]?) fn.results.toList=some [.a (.v (.slice none 0 0)),.a (int1 .i64 e)]:=by kernel_rfl
theorem sN (x:B32) (a:Option Addr):outN [] (MN 0) (exec ΓZ tys 100 body ⟨aH fn [.o (.a (.v (.slice a 0 0))),cB32.enc x],[],[(17,[.dyn])]⟩)=some (.ret,(live (MN 0)).map (SV.ren (piF [])),(MN 0).length,([]:List Blk).map (fun b=>some (b.ren (piF []))),[32=1*32,0+0+1*32≤(aW x).length,1≤1]):=by kernel_rfl
theorem sP (H:Nd→Nd→B32) (hH:H=hV) (l:List Lf) (n c:Nat) (ty:TypeId) (x:B32):outN [0,4] (MR (witV H true (ak (((ah (rndA (aB (((lvals l).drop (0+0)).take (n*64))) n)).drop (0+0)).take (n*65))) (ay (((aW x).drop (0+0)).take (1*32)))).length) (exec (ΓP H hH) tys 100 body ⟨aH fn [.o (.a (.sld 0 0 0 n c)),cB32.enc x],[⟨false,ty,.prv (lvals l)⟩],[(17,[.dyn])]⟩)=some (.ret,(live (MR (witV H true (ak (((ah (rndA (aB (((lvals l).drop (0+0)).take (n*64))) n)).drop (0+0)).take (n*65))) (ay (((aW x).drop (0+0)).take (1*32)))).length)).map (SV.ren (piF [0,4])),(MR (witV H true (ak (((ah (rndA (aB (((lvals l).drop (0+0)).take (n*64))) n)).drop (0+0)).take (n*65))) (ay (((aW x).drop (0+0)).take (1*32)))).length).length,(mr l ty (ah (witV H true (ak (((ah (rndA (aB (((lvals l).drop (0+0)).take (n*64))) n)).drop (0+0)).take (n*65))) (ay (((aW x).drop (0+0)).take (1*32))))) (witV H true (ak (((ah (rndA (aB (((lvals l).drop (0+0)).take (n*64))) n)).drop (0+0)).take (n*65))) (ay (((aW x).drop (0+0)).take (1*32)))).length).map (fun b=>some (b.ren (piF [0,4]))),[0+0+n*64≤(lvals l).length,n≤c,((lvals l).drop (0+0)).take (n*64)=lvals (aB (((lvals l).drop (0+0)).take (n*64))),(aB (((lvals l).drop (0+0)).take (n*64))).length=n,n≤4000000,AllL (aB (((lvals l).drop (0+0)).take (n*64))),rndD (aB (((lvals l).drop (0+0)).take (n*64))) n=false,0<n,32=1*32,0+0+n*65≤(ah (rndA (aB (((lvals l).drop (0+0)).take (n*64))) n)).length,n≤n,0+0+1*32≤(aW x).length,1≤1,((ah (rndA (aB (((lvals l).drop (0+0)).take (n*64))) n)).drop (0+0)).take (n*65)=ah (ak (((ah (rndA (aB (((lvals l).drop (0+0)).take (n*64))) n)).drop (0+0)).take (n*65))),(ak (((ah (rndA (aB (((lvals l).drop (0+0)).take (n*64))) n)).drop (0+0)).take (n*65))).length=n,n<4000001,aL (ak (((ah (rndA (aB (((lvals l).drop (0+0)).take (n*64))) n)).drop (0+0)).take (n*65))),aP (ak (((ah (rndA (aB (((lvals l).drop (0+0)).take (n*64))) n)).drop (0+0)).take (n*65)))=true,((aW x).drop (0+0)).take (1*32)=aA (ay (((aW x).drop (0+0)).take (1*32))),(ay (((aW x).drop (0+0)).take (1*32))).length=1,1≤4000000,AllB (ay (((aW x).drop (0+0)).take (1*32))),(witV H true (ak (((ah (rndA (aB (((lvals l).drop (0+0)).take (n*64))) n)).drop (0+0)).take (n*65))) (ay (((aW x).drop (0+0)).take (1*32))))≠[]]):=by kernel_rfl
theorem runE (H:Nd→Nd→B32) (hH:H=hV) (l:List Lf) (n c:Nat) (ty:TypeId) (x:B32) (hn:l.length=n) (hm:n≤4000000) (hc:n≤c) (hok:AllL l) (hx:BOk x) (hd:rndD l n=true):aC Tryd.prog GT 1 body (aH fn [.o (.a (.sld 0 0 0 n c)),cB32.enc x]) [⟨false,ty,.prv (lvals l)⟩] (aG tys fn (aS (.t [.a (.v (.slice none 0 0)),.a (int1 .i64 1)]) .none)):=by
 obtain⟨y1,y2⟩:=lfN_two n hn
 have hl:(lvals l).length=n*64:=by rw[←hn];exact bR l
 have hHk:∀a b,BOk (H a b):=fun a b=>by rw[hH];exact hV_ok a b
 have ht:(rndA l n).length=n:=rndA_len l n
 have hz:(ah (rndA l n)).length=n*65:=by rw[aR,ht]
 obtain⟨z1,z2⟩:=apN_two n ht
 have hk:aL (rndA l n):=rnd_nok hok n (by omega)
 have w1:((aW x).drop (0+0)).take (1*32)=aW x:=by rw[Nat.add_zero,List.drop_zero,List.take_of_length_le (by rw[bS];omega)]
 have w2:ay (aW x)=[x]:=by have:=bvDec_vals [x];rwa [show aA [x]=aW x from List.append_nil _] at this
 have w3:aW x=aA [x]:=(List.append_nil _).symm
 have hab:AllB [x]:=fun z hz=>by rw[List.mem_singleton.1 hz];exact hx
 exact Runs.aK aj mixed [0] (sE H hH l n c ty x ) ⟨by omega,hc,y1,by rw[y2];exact hn,hm,by rw[y2];exact hok,by rw[y2];exact hd,trivial⟩ (iN _ _ _) rfl fun g=>aG.ret (zn _ _ _ g) rfl
theorem runZ (H:Nd→Nd→B32) (hH:H=hV) (l:List Lf) (n c:Nat) (ty:TypeId) (x:B32) (hn:l.length=n) (hm:n≤4000000) (hc:n≤c) (hok:AllL l) (hx:BOk x) (h0:n=0):aC Tryd.prog GT 1 body (aH fn [.o (.a (.sld 0 0 0 n c)),cB32.enc x]) [⟨false,ty,.prv (lvals l)⟩] (aG tys fn (aS (.t [.a (.v (.slice none 0 0)),.a (int1 .i64 0)]) .none)):=by
 obtain⟨y1,y2⟩:=lfN_two n hn
 have hl:(lvals l).length=n*64:=by rw[←hn];exact bR l
 have hHk:∀a b,BOk (H a b):=fun a b=>by rw[hH];exact hV_ok a b
 have ht:(rndA l n).length=n:=rndA_len l n
 have hz:(ah (rndA l n)).length=n*65:=by rw[aR,ht]
 obtain⟨z1,z2⟩:=apN_two n ht
 have hk:aL (rndA l n):=rnd_nok hok n (by omega)
 have w1:((aW x).drop (0+0)).take (1*32)=aW x:=by rw[Nat.add_zero,List.drop_zero,List.take_of_length_le (by rw[bS];omega)]
 have w2:ay (aW x)=[x]:=by have:=bvDec_vals [x];rwa [show aA [x]=aW x from List.append_nil _] at this
 have w3:aW x=aA [x]:=(List.append_nil _).symm
 have hab:AllB [x]:=fun z hz=>by rw[List.mem_singleton.1 hz];exact hx
 exact Runs.aK aj mixed [0] (sZ H hH l n c ty x ) ⟨by omega,hc,y1,by rw[y2];exact hn,h0,rfl,by rw[bS];omega,Nat.le_refl _,trivial⟩ (iN _ _ _) rfl fun g=>aG.ret (zn _ _ _ g) rfl
theorem runN (x:B32) (a:Option Addr):aC Tryd.prog GT 0 body (aH fn [.o (.a (.v (.slice a 0 0))),cB32.enc x]) [] (aG tys fn (aS (.t [.a (.v (.slice none 0 0)),.a (int1 .i64 0)]) .none)):=
 Runs.aK aj mixed [] (sN x a) ⟨rfl,by rw[bS];omega,Nat.le_refl _,trivial⟩ (iQ _) rfl fun g=>aG.ret (zq _ g) rfl
theorem runP (H:Nd→Nd→B32) (hH:H=hV) (l:List Lf) (n c:Nat) (ty:TypeId) (x:B32) (hn:l.length=n) (hm:n≤4000000) (hc:n≤c) (hok:AllL l) (hx:BOk x) (h0:0<n) (hd:rndD l n=false):aC Tryd.prog GT 1 body (aH fn [.o (.a (.sld 0 0 0 n c)),cB32.enc x]) [⟨false,ty,.prv (lvals l)⟩] (aG tys fn (aS (.t [.a (.slg 0 (opR H l x).length),.a (int1 .i64 0)]) (.new 33 (.grv 65 (ah (opR H l x)) (opR H l x).length none)))):=by
 obtain⟨y1,y2⟩:=lfN_two n hn
 have hl:(lvals l).length=n*64:=by rw[←hn];exact bR l
 have hHk:∀a b,BOk (H a b):=fun a b=>by rw[hH];exact hV_ok a b
 have ht:(rndA l n).length=n:=rndA_len l n
 have hz:(ah (rndA l n)).length=n*65:=by rw[aR,ht]
 obtain⟨z1,z2⟩:=apN_two n ht
 have hk:aL (rndA l n):=rnd_nok hok n (by omega)
 have w1:((aW x).drop (0+0)).take (1*32)=aW x:=by rw[Nat.add_zero,List.drop_zero,List.take_of_length_le (by rw[bS];omega)]
 have w2:ay (aW x)=[x]:=by have:=bvDec_vals [x];rwa [show aA [x]=aW x from List.append_nil _] at this
 have w3:aW x=aA [x]:=(List.append_nil _).symm
 have hab:AllB [x]:=fun z hz=>by rw[List.mem_singleton.1 hz];exact hx
 have hA:Ap (rndA l n):=by rw[←hn] at hd ⊢;exact rnd_ap hok hd
 have ha:=(ap_iff hk).2 hA
 have hne:witV H true (rndA l n) [x]≠[]:=own_ne H hHk hA (by rw[←List.length_pos_iff];omega) _
 have q:=sP H hH l n c ty x
 rw[y2,z2,w1,w2] at q
 unfold opR
 rw[hn]
 exact Runs.aK aj mixed [0,4] q ⟨by omega,hc,(y1.trans (by rw[y2])),hn,hm,hok,hd,h0,rfl,by rw[hz];omega,Nat.le_refl _,by rw[bS];omega,Nat.le_refl _,dtn ht,ht,by omega,hk,ha,w3,rfl,by omega,hab,hne,trivial⟩ (iR _ _ _ _) rfl fun g=>aG.ret (zr _ _ _ _ g) ⟨1,rfl,rfl⟩
noncomputable def specE (H:Nd→Nd→B32):List PArg→Option (SV × LEff × Cst)
 | [.winv _ vs n ty,.val v]=>match cB32.dec v with
  | some x=>some (.t [.a (.v (.slice none 0 0)),.a (int1 .i64 1)],.none,[vs=lvals (aB vs),(aB vs).length=n,n≤4000000,AllL (aB vs),BOk x,rndD (aB vs) n=true])
  | none=>none
 | _=>none
noncomputable def conE (H:Nd→Nd→B32) (hH:H=hV):Con Tryd.prog GT:=Con.parts aj 39 fn Tryd.func39 (by kernel_rfl) (c:=body) (by kernel_rfl) [.winv 64,.val] (specE H)
 (fun ps r e p h hp=>by
  unfold specE at h
  split at h
  ·split at h<;>cases h
   exact⟨rfl,fun b hb=>by simp only[aN,PArg.blk,List.append_nil,List.nil_append,List.mem_singleton] at hb;rw[hb]⟩
  ·cases h)
 (fun ps r e p cap h hp hi=>by
  unfold specE at h
  split at h
  ·rename_i s0 vs n ty z0
   split at h<;>cases h
   rename_i x k2
   have e2:=cB32.ok _ _ k2
   subst e2
   obtain⟨p1,p2,p3,p4,p5,p6,_⟩:=hp
   have q:=runE H hH (aB vs) n (cap 0) ty x p2 p3 hi.1.2 p4 p5 p6
   rw[←p1] at q
   exact q
  ·cases h)
noncomputable def specZ (H:Nd→Nd→B32):List PArg→Option (SV × LEff × Cst)
 | [.winv _ vs n ty,.val v]=>match cB32.dec v with
  | some x=>some (.t [.a (.v (.slice none 0 0)),.a (int1 .i64 0)],.none,[vs=lvals (aB vs),(aB vs).length=n,n≤4000000,AllL (aB vs),BOk x,n=0])
  | none=>none
 | [.val (.o (.a (.v (.slice a 0 0)))),.val v]=>match cB32.dec v with
  | some x=>some (.t [.a (.v (.slice none 0 0)),.a (int1 .i64 0)],.none,[BOk x])
  | none=>none
 | _=>none
noncomputable def conZ (H:Nd→Nd→B32) (hH:H=hV):Con Tryd.prog GT:=Con.parts aj 39 fn Tryd.func39 (by kernel_rfl) (c:=body) (by kernel_rfl) [.winv 64,.val] (specZ H)
 (fun ps r e p h hp=>by
  unfold specZ at h
  split at h
  ·split at h<;>cases h
   exact⟨rfl,fun b hb=>by simp only[aN,PArg.blk,List.append_nil,List.nil_append,List.mem_singleton] at hb;rw[hb]⟩
  ·split at h<;>cases h
   exact⟨rfl,fun b hb=>by simp[aN,PArg.blk] at hb⟩
  ·cases h)
 (fun ps r e p cap h hp hi=>by
  unfold specZ at h
  split at h
  ·rename_i s0 vs n ty z0
   split at h<;>cases h
   rename_i x k2
   have e2:=cB32.ok _ _ k2
   subst e2
   obtain⟨p1,p2,p3,p4,p5,p6,_⟩:=hp
   have q:=runZ H hH (aB vs) n (cap 0) ty x p2 p3 hi.1.2 p4 p5 p6
   rw[←p1] at q
   exact q
  ·rename_i a z0
   split at h<;>cases h
   rename_i x k2
   have e2:=cB32.ok _ _ k2
   subst e2
   exact runN x a
  ·cases h)
noncomputable def specP (H:Nd→Nd→B32):List PArg→Option (SV × LEff × Cst)
 | [.winv _ vs n ty,.val v]=>match cB32.dec v with
  | some x=>some (.t [.a (.slg 0 (opR H (aB vs) x).length),.a (int1 .i64 0)],.new 33 (.grv 65 (ah (opR H (aB vs) x)) (opR H (aB vs) x).length none),[vs=lvals (aB vs),(aB vs).length=n,n≤4000000,AllL (aB vs),BOk x,0<n,rndD (aB vs) n=false])
  | none=>none
 | _=>none
noncomputable def conP (H:Nd→Nd→B32) (hH:H=hV):Con Tryd.prog GT:=Con.parts aj 39 fn Tryd.func39 (by kernel_rfl) (c:=body) (by kernel_rfl) [.winv 64,.val] (specP H)
 (fun ps r e p h hp=>by
  unfold specP at h
  split at h
  ·split at h<;>cases h
   exact⟨rfl,fun b hb=>by simp only[aN,PArg.blk,List.append_nil,List.nil_append,List.mem_singleton] at hb;rw[hb]⟩
  ·cases h)
 (fun ps r e p cap h hp hi=>by
  unfold specP at h
  split at h
  ·rename_i s0 vs n ty z0
   split at h<;>cases h
   rename_i x k2
   have e2:=cB32.ok _ _ k2
   subst e2
   obtain⟨p1,p2,p3,p4,p5,p6,p7,_⟩:=hp
   have q:=runP H hH (aB vs) n (cap 0) ty x p2 p3 hi.1.2 p4 p5 p6 p7
   rw[←p1] at q
   exact q
  ·cases h)
end rop
end Go.Proofs.YtdccehmekkcheaaDoor

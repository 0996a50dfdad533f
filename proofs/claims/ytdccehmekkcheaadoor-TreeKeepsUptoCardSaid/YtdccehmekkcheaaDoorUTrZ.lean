/- Packages tree, beaconref11: the root of leaves: contracts of both sides. -/
import Derived.Test.YtdccehmekkcheaaDoorUTrY
namespace Go.Proofs.YtdccehmekkcheaaDoor
open Go Go.Eng Go.RowKit
set_option linter.unusedVariables false
set_option linter.unusedSimpArgs false
set_option maxRecDepth 100000
theorem leaf_nok {z:Lf} (h:LOk z):NOk (leafV z):=⟨h.1,sha_ok _⟩
theorem tnd_ok {l:List Lf} (h:AllL l):aL (tndV l):=fun x hx=>by
 unfold tndV at hx
 obtain⟨z,hz,rfl⟩:=List.mem_map.1 ((sortL_perm _).mem_iff.1 hx)
 exact leaf_nok (h z hz)
theorem rnd_nok {l:List Lf} (h:AllL l):∀i,i≤l.length→aL (rndA l i)
 | 0,_,x,hx=>by cases hx
 | i+1,hi,x,hx=>by
  rcases mem_insV hx with rfl | hx
  ·exact leaf_nok (h.at (by omega))
  ·exact rnd_nok h i (by omega) x hx
theorem dtl {l:List Lf} {n:Nat} (hn:l.length=n):((lvals l).drop (0+0)).take (n*64)=lvals l:=by
 rw[Nat.add_zero,List.drop_zero,List.take_of_length_le (by rw[bR];omega)]
theorem lfN_two {l:List Lf} (n:Nat) (hn:l.length=n):((lvals l).drop (0+0)).take (n*64)=lvals (aB (((lvals l).drop (0+0)).take (n*64)))∧aB (((lvals l).drop (0+0)).take (n*64))=l:=by
 rw[dtl hn,lfDec_vals];exact⟨rfl,rfl⟩
noncomputable def rofT (H:Nd→Nd→B32) (E:B32) (S:Nd→B32) (l:List Lf):B32 × Int:=rootV H E S (tndV l)
namespace trof
noncomputable abbrev fn:=Tryd.f19
noncomputable def body:Code:=bq fn
noncomputable def Γ (H:Nd→Nd→B32) (hH:H=hV) (E:B32) (hE':E=hE) (S:Nd→B32) (hS':S=hS):Cons Tryd.prog GT:=[tnd.con,trt.con H hH E hE' S hS' ]
def memR (l:List Lf) (ty:TypeId) (z:B32):List Blk:=[⟨false,ty,.prv (lvals l)⟩,⟨true,24,.lit (cB32.row z)⟩]
def memN (z:B32):List Blk:=[⟨true,24,.lit (cB32.row z)⟩]
def MR (e:Int):List (Option SV):=aF 9 0 [(2,.o (.a (.ptr 1 0))),(3,.o (.a (int1 .i64 e)))]
def MN (e:Int):List (Option SV):=aF 9 0 [(2,.o (.a (.ptr 0 0))),(3,.o (.a (int1 .i64 e)))]
theorem idR (l:List Lf) (ty:TypeId) (z:B32) (e:Int):aD (memR l ty z).length (MR e) (memR l ty z)=true:=by kernel_rfl
theorem idN (z:B32) (e:Int):aD (memN z).length (MN e) (memN z)=true:=by kernel_rfl
theorem zr (l:List Lf) (ty:TypeId) (z:B32) (e:Int) (g:Nat→SV):eRes tys (fill g 0 (MR e)) (fun k=>(memR l ty z)[k]?) fn.results.toList=some [.g (cB32.row z),.a (int1 .i64 e)]:=by kernel_rfl
theorem zn (z:B32) (e:Int) (g:Nat→SV):eRes tys (fill g 0 (MN e)) (fun k=>(memN z)[k]?) fn.results.toList=some [.g (cB32.row z),.a (int1 .i64 e)]:=by kernel_rfl
section
variable (H:Nd→Nd→B32) (hH:H=hV) (E:B32) (hE':E=hE) (S:Nd→B32) (hS':S=hS)
theorem s (l:List Lf) (n c:Nat) (ty:TypeId) (h:B32) (e:Int):outN [0,1] (MR e) (exec (Γ H hH E hE' S hS' ) tys 100 body ⟨aH fn [.o (.a (.sld 0 0 0 n c))],[⟨false,ty,.prv (lvals l)⟩],[(6,[.s (hsS (h,e))])]⟩)=some (.ret,(live (MR e)).map (SV.ren (piF [0,1])),(MR e).length,(memR l ty h).map (fun b=>some (b.ren (piF [0,1]))),[0+0+n*64≤(lvals l).length,n≤c,((lvals l).drop (0+0)).take (n*64)=lvals (aB (((lvals l).drop (0+0)).take (n*64))),(aB (((lvals l).drop (0+0)).take (n*64))).length=n,n≤4000000,AllL (aB (((lvals l).drop (0+0)).take (n*64))),0+0+n*65≤(ah (tndV (aB (((lvals l).drop (0+0)).take (n*64))))).length,n≤n,((ah (tndV (aB (((lvals l).drop (0+0)).take (n*64))))).drop (0+0)).take (n*65)=ah (ak (((ah (tndV (aB (((lvals l).drop (0+0)).take (n*64))))).drop (0+0)).take (n*65))),(ak (((ah (tndV (aB (((lvals l).drop (0+0)).take (n*64))))).drop (0+0)).take (n*65))).length=n,n<aQ,aL (ak (((ah (tndV (aB (((lvals l).drop (0+0)).take (n*64))))).drop (0+0)).take (n*65))),hsS (rootV H E S (ak (((ah (tndV (aB (((lvals l).drop (0+0)).take (n*64))))).drop (0+0)).take (n*65))))=hsS (h,e)]):=by kernel_rfl
theorem sn (a:Option Addr) (h:B32) (e:Int):outN [0] (MN e) (exec (Γ H hH E hE' S hS' ) tys 100 body ⟨aH fn [.o (.a (.v (.slice a 0 0)))],[],[(6,[.s (hsS (h,e))])]⟩)=some (.ret,(live (MN e)).map (SV.ren (piF [0])),(MN e).length,(memN h).map (fun b=>some (b.ren (piF [0]))),[0+0+0*65≤(ah (tndV [])).length,0≤0,((ah (tndV [])).drop (0+0)).take (0*65)=ah (ak (((ah (tndV [])).drop (0+0)).take (0*65))),(ak (((ah (tndV [])).drop (0+0)).take (0*65))).length=0,0<aQ,aL (ak (((ah (tndV [])).drop (0+0)).take (0*65))),hsS (rootV H E S (ak (((ah (tndV [])).drop (0+0)).take (0*65))))=hsS (h,e)]):=by kernel_rfl
end
theorem run (H:Nd→Nd→B32) (hH:H=hV) (E:B32) (hE':E=hE) (S:Nd→B32) (hS':S=hS) (l:List Lf) (n c:Nat) (ty:TypeId) (hn:l.length=n) (hm:n≤4000000) (hc:n≤c) (hok:AllL l):aC Tryd.prog GT 1 body (aH fn [.o (.a (.sld 0 0 0 n c))]) [⟨false,ty,.prv (lvals l)⟩] (aG tys fn (aS (hsS (rofT H E S l)) .none)):=by
 obtain⟨y1,y2⟩:=lfN_two n hn
 have hl:(lvals l).length=n*64:=by rw[←hn];exact bR l
 have ht:(tndV l).length=n:=by rw[tnd_len,hn]
 have hz:(ah (tndV l)).length=n*65:=by rw[aR,ht]
 obtain⟨z1,z2⟩:=apN_two n ht
 refine Runs.aK aj mixed [0,1] (s H hH E hE' S hS' l n c ty (rofT H E S l).1 (rofT H E S l).2) ⟨by omega,hc,y1,by rw[y2];exact hn,hm,by rw[y2];exact hok,by rw[y2,hz];omega,Nat.le_refl _,by rw[y2];exact z1,by rw[y2,z2];exact ht,by unfold aQ;omega,by rw[y2,z2];exact tnd_ok hok,by rw[y2,z2];rfl,trivial⟩ (idR _ _ _ _) rfl fun g=>aG.ret (zr _ _ _ _ g) rfl
theorem run0 (H:Nd→Nd→B32) (hH:H=hV) (E:B32) (hE':E=hE) (S:Nd→B32) (hS':S=hS) (a:Option Addr):aC Tryd.prog GT 0 body (aH fn [.o (.a (.v (.slice a 0 0)))]) [] (aG tys fn (aS (hsS (rofT H E S [])) .none)):=by
 have ht:(tndV []).length=0:=by rw[tnd_len];rfl
 obtain⟨z1,z2⟩:=apN_two 0 ht
 refine Runs.aK aj mixed [0] (sn H hH E hE' S hS' a (rofT H E S []).1 (rofT H E S []).2) ⟨by omega,Nat.le_refl _,z1,by rw[z2];exact ht,by unfold aQ;omega,by rw[z2];exact tnd_ok (fun x hx=>by cases hx),by rw[z2];rfl,trivial⟩ (idN _ _) rfl fun g=>aG.ret (zn _ _ g) rfl
noncomputable def spec (H:Nd→Nd→B32) (E:B32) (S:Nd→B32):List PArg→Option (SV × LEff × Cst)
 | [.winv _ vs n ty]=>some (hsS (rofT H E S (aB vs)),.none,[vs=lvals (aB vs),(aB vs).length=n,n≤4000000,AllL (aB vs)])
 | [.val (.o (.a (.v (.slice a 0 0))))]=>some (hsS (rofT H E S []),.none,[])
 | _=>none
noncomputable def con (H:Nd→Nd→B32) (hH:H=hV) (E:B32) (hE':E=hE) (S:Nd→B32) (hS':S=hS):Con Tryd.prog GT:=Con.parts aj 19 fn Tryd.func19 (by kernel_rfl) (c:=body) (by kernel_rfl) [.winv 64] (spec H E S)
 (fun ps r e p h hp=>by
  unfold spec at h
  split at h<;>cases h
  ·exact⟨rfl,fun b hb=>by simp only[aN,PArg.blk,List.append_nil,List.nil_append,List.mem_singleton] at hb;rw[hb]⟩
  ·exact⟨rfl,fun b hb=>by simp[aN,PArg.blk] at hb⟩)
 (fun ps r e p cap h hp hi=>by
  unfold spec at h
  split at h<;>cases h
  ·rename_i s vs n ty
   obtain⟨p1,p2,p3,p4,_⟩:=hp
   have q:=run H hH E hE' S hS' (aB vs) n (cap 0) ty p2 p3 hi.1.2 p4
   rw[←p1] at q
   exact q
  ·exact run0 H hH E hE' S hS' _)
end trof
namespace rrof
theorem rootV_nil (H:Nd→Nd→B32) (E:B32) (S:Nd→B32):rootV H E S []=(E,0):=rfl
end rrof
end Go.Proofs.YtdccehmekkcheaaDoor

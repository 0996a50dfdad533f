/- The law GrowRelinks: walk. -/
import Derived.Test.YtdccehmekkcheaaDoorAFo
import Derived.Test.YtdccehmekkcheaaDoorARlF
import Derived.Test.YtdccehmekkcheaaDoorAGaw
namespace Go.Proofs.YtdccehmekkcheaaDoor
open Go Go.Eng Go.RowKit
set_option linter.unusedVariables false
set_option linter.unusedSimpArgs false
set_option maxRecDepth 100000
theorem AllK.nil:AllK []:=fun x hx=>by cases hx
namespace root12
noncomputable abbrev fn:=Tryd.f51
noncomputable def body:Code:=bF fn
noncomputable def Γ (H:Nd→Nd→B32) (hH:H=hV) (E:B32) (hE':E=hE) (S:Nd→B32) (hS':S=hS):Cons Tryd.prog GT:=[rrof.con H hH E hE' S hS' ]
namespace w
section
variable (H:Nd→Nd→B32)
def m (hH:H=hV) (E:B32) (hE':E=hE) (S:Nd→B32) (hS':S=hS) (l:List Lf) (n c:Nat) (ty:TypeId) (x:B32):List Blk:=[⟨false,ty,.prv (lvals l)⟩,⟨true,24,.lit (cB32.row x)⟩]
def M (hH:H=hV) (E:B32) (hE':E=hE) (S:Nd→B32) (hS':S=hS) (l:List Lf) (n c:Nat) (ty:TypeId):List (Option SV):=ay 11 0 [(2,.o (.a (.ptr 1 0)))]
theorem i (hH:H=hV) (E:B32) (hE':E=hE) (S:Nd→B32) (hS':S=hS) (l:List Lf) (n c:Nat) (ty:TypeId) (x:B32):oI (M H hH E hE' S hS' l n c ty) (m H hH E hE' S hS' l n c ty x):=by delta oI;kernel_rfl
theorem s (hH:H=hV) (E:B32) (hE':E=hE) (S:Nd→B32) (hS':S=hS) (l:List Lf) (n c:Nat) (ty:TypeId) (x:B32) (e:Int):oN [0,1] (Γ H hH E hE' S hS') 100 body (aG fn [.o (.a (.sld 0 0 0 n c))]) [⟨false,ty,.prv (lvals l)⟩] [(7,[.s (hsS (x,e))])] .ret (M H hH E hE' S hS' l n c ty) (m H hH E hE' S hS' l n c ty x) [0+0+n*64≤(lvals l).length,n≤c,((lvals l).drop (0+0)).take (n*64)=lvals (ak (((lvals l).drop (0+0)).take (n*64))),(ak (((lvals l).drop (0+0)).take (n*64))).length=n,n≤4000000,AllL (ak (((lvals l).drop (0+0)).take (n*64))),hsS (rofR H E S (ak (((lvals l).drop (0+0)).take (n*64))))=hsS (x,e)]:=by delta oN;kernel_rfl
theorem z (hH:H=hV) (E:B32) (hE':E=hE) (S:Nd→B32) (hS':S=hS) (l:List Lf) (n c:Nat) (ty:TypeId) (x:B32) (g:Nat→SV):eRes tys (fill g 0 (M H hH E hE' S hS' l n c ty)) (fun k=>(m H hH E hE' S hS' l n c ty x)[k]?) fn.results.toList=some [.g (cB32.row x)]:=by kernel_rfl
theorem run (hH:H=hV) (E:B32) (hE':E=hE) (S:Nd→B32) (hS':S=hS) (l:List Lf) (n c:Nat) (ty:TypeId) (hn:l.length=n) (hb:n≤4000000) (hc:n≤c) (hk:AllL l):aB Tryd.prog GT 1 body (aG fn [.o (.a (.sld 0 0 0 n c))]) [⟨false,ty,.prv (lvals l)⟩] (aD tys fn (aR (cB32.enc (rofR H E S l).1) .none)):=by
 have q:=s H hH E hE' S hS' l n c ty (rofR H E S l).1 (rofR H E S l).2
 rw[dtl hn,aV] at q
 exact Runs.aH aj mixed [0,1] q ⟨by rw[aZ,hn];omega,hc,rfl,hn,hb,hk,rfl,trivial⟩ (i H hH E hE' S hS' l n c ty _) rfl fun g=>aD.ret (z H hH E hE' S hS' l n c ty _ g) rfl
end
end w
namespace n
section
variable (H:Nd→Nd→B32)
def m (hH:H=hV) (E:B32) (hE':E=hE) (S:Nd→B32) (hS':S=hS) (a:Option Addr) (x:B32):List Blk:=[⟨true,24,.lit (cB32.row x)⟩]
def M (hH:H=hV) (E:B32) (hE':E=hE) (S:Nd→B32) (hS':S=hS) (a:Option Addr):List (Option SV):=ay 11 0 [(2,.o (.a (.ptr 0 0)))]
theorem i (hH:H=hV) (E:B32) (hE':E=hE) (S:Nd→B32) (hS':S=hS) (a:Option Addr) (x:B32):oI (M H hH E hE' S hS' a) (m H hH E hE' S hS' a x):=by delta oI;kernel_rfl
theorem s (hH:H=hV) (E:B32) (hE':E=hE) (S:Nd→B32) (hS':S=hS) (a:Option Addr) (x:B32) (e:Int):oN [0] (Γ H hH E hE' S hS') 100 body (aG fn [.o (.a (.v (.slice a 0 0)))]) [] [(7,[.s (hsS (x,e))])] .ret (M H hH E hE' S hS' a) (m H hH E hE' S hS' a x) [hsS (rofR H E S [])=hsS (x,e)]:=by delta oN;kernel_rfl
theorem z (hH:H=hV) (E:B32) (hE':E=hE) (S:Nd→B32) (hS':S=hS) (a:Option Addr) (x:B32) (g:Nat→SV):eRes tys (fill g 0 (M H hH E hE' S hS' a)) (fun k=>(m H hH E hE' S hS' a x)[k]?) fn.results.toList=some [.g (cB32.row x)]:=by kernel_rfl
theorem run (hH:H=hV) (E:B32) (hE':E=hE) (S:Nd→B32) (hS':S=hS) (a:Option Addr):aB Tryd.prog GT 0 body (aG fn [.o (.a (.v (.slice a 0 0)))]) [] (aD tys fn (aR (cB32.enc (rofR H E S []).1) .none)):=by
 have q:=s H hH E hE' S hS' a (rofR H E S []).1 (rofR H E S []).2
 exact Runs.aH aj mixed [0] q ⟨rfl,trivial⟩ (i H hH E hE' S hS' a _) rfl fun g=>aD.ret (z H hH E hE' S hS' a _ g) rfl
end
end n
noncomputable def spec (H:Nd→Nd→B32) (E:B32) (S:Nd→B32):List PArg→Option (SV × LEff × Cst)
 | [.winv _ vs n ty]=>some (cB32.enc (rofR H E S (ak vs)).1,.none,[vs=lvals (ak vs),(ak vs).length=n,n≤4000000,AllL (ak vs)])
 | [.val (.o (.a (.v (.slice a 0 0))))]=>some (cB32.enc (rofR H E S []).1,.none,[])
 | _=>none
noncomputable def con (H:Nd→Nd→B32) (hH:H=hV) (E:B32) (hE':E=hE) (S:Nd→B32) (hS':S=hS):Con Tryd.prog GT:=Con.parts aj 51 fn Tryd.func51 (by kernel_rfl) (c:=body) (by kernel_rfl) [.winv 64] (spec H E S)
 (fun ps r e p h hp=>by
  unfold spec at h
  split at h<;>cases h
  ·exact⟨rfl,fun b hb=>by simp only[aJ,PArg.blk,List.append_nil,List.nil_append,List.mem_singleton] at hb;rw[hb]⟩
  ·exact⟨rfl,fun b hb=>by simp[aJ,PArg.blk] at hb⟩)
 (fun ps r e p cap h hp hi=>by
  unfold spec at h
  split at h<;>cases h
  ·rename_i s vs n ty
   obtain⟨p1,p2,p3,p4,_⟩:=hp
   have q:=w.run H hH E hE' S hS' (ak vs) n (cap 0) ty p2 p3 hi.1.2 p4
   rw[←p1] at q
   exact q
  ·exact n.run H hH E hE' S hS' _)
end root12
end Go.Proofs.YtdccehmekkcheaaDoor

/- The law GrowRelinks: walk. -/
import Derived.Test.YtdccehmekkcheaaDoorCFo
import Derived.Test.YtdccehmekkcheaaDoorCRlF
import Derived.Test.YtdccehmekkcheaaDoorCGaw
set_option linter.unusedSimpArgs false
set_option linter.unusedVariables false
namespace Go.Proofs.YtdccehmekkcheaaDoor
open Go Go.Eng Go.RowKit
set_option maxRecDepth 100000
theorem AllK.nil:AllK []:=fun x hx=>by cases hx
namespace root12
noncomputable abbrev fn:=Tryd.f51
noncomputable def body:Code:=d9 fn
noncomputable def Γ (H:Nd→Nd→B32) (hH:H=hV) (E:B32) (hE':E=hE) (S:Nd→B32) (hS':S=hS):Cons Tryd.prog GT:=[rrof.con H hH E hE' S hS' ]
namespace w
section
variable (H:Nd→Nd→B32)
def m (hH:H=hV) (E:B32) (hE':E=hE) (S:Nd→B32) (hS':S=hS) (l:List Lf) (n c:Nat) (ty:TypeId) (x:B32):List Blk:=[⟨false,ty,.prv (lvals l)⟩,⟨true,24,.lit (ay.row x)⟩]
def M (hH:H=hV) (E:B32) (hE':E=hE) (S:Nd→B32) (hS':S=hS) (l:List Lf) (n c:Nat) (ty:TypeId):List (Option SV):=aD 11 0 [(2,.o (.a (.ptr 1 0)))]
theorem i (hH:H=hV) (E:B32) (hE':E=hE) (S:Nd→B32) (hS':S=hS) (l:List Lf) (n c:Nat) (ty:TypeId) (x:B32):oI (M H hH E hE' S hS' l n c ty) (m H hH E hE' S hS' l n c ty x):=by delta oI;kernel_rfl
theorem s (hH:H=hV) (E:B32) (hE':E=hE) (S:Nd→B32) (hS':S=hS) (l:List Lf) (n c:Nat) (ty:TypeId) (x:B32) (e:Int):oN [0,1] (Γ H hH E hE' S hS') 100 body (aK fn [.o (.a (.sld 0 0 0 n c))]) [⟨false,ty,.prv (lvals l)⟩] [(7,[.s (hsS (x,e))])] .ret (M H hH E hE' S hS' l n c ty) (m H hH E hE' S hS' l n c ty x) [0+0+n*64≤(lvals l).length,n≤c,((lvals l).drop (0+0)).take (n*64)=lvals (av (((lvals l).drop (0+0)).take (n*64))),(av (((lvals l).drop (0+0)).take (n*64))).length=n,n≤4000000,bI (av (((lvals l).drop (0+0)).take (n*64))),hsS (gM H E S (av (((lvals l).drop (0+0)).take (n*64))))=hsS (x,e)]:=by delta oN;kernel_rfl
theorem z (hH:H=hV) (E:B32) (hE':E=hE) (S:Nd→B32) (hS':S=hS) (l:List Lf) (n c:Nat) (ty:TypeId) (x:B32) (g:Nat→SV):eRes tys (fill g 0 (M H hH E hE' S hS' l n c ty)) (fun k=>(m H hH E hE' S hS' l n c ty x)[k]?) fn.results.toList=some [.g (ay.row x)]:=by kernel_rfl
theorem run (hH:H=hV) (E:B32) (hE':E=hE) (S:Nd→B32) (hS':S=hS) (l:List Lf) (n c:Nat) (ty:TypeId) (hn:l.length=n) (hb:n≤4000000) (hc:n≤c) (hk:bI l):aF Tryd.prog GT 1 body (aK fn [.o (.a (.sld 0 0 0 n c))]) [⟨false,ty,.prv (lvals l)⟩] (aH tys fn (bJ (ay.enc (gM H E S l).1) .none)):=by
 have q:=s H hH E hE' S hS' l n c ty (gM H E S l).1 (gM H E S l).2
 rw[dtl hn,bW] at q
 exact Runs.aP aj mixed [0,1] q ⟨by rw[bU,hn];omega,hc,rfl,hn,hb,hk,rfl,trivial⟩ (i H hH E hE' S hS' l n c ty _) rfl fun g=>aH.ret (z H hH E hE' S hS' l n c ty _ g) rfl
end
end w
namespace n
section
variable (H:Nd→Nd→B32)
def m (hH:H=hV) (E:B32) (hE':E=hE) (S:Nd→B32) (hS':S=hS) (a:Option Addr) (x:B32):List Blk:=[⟨true,24,.lit (ay.row x)⟩]
def M (hH:H=hV) (E:B32) (hE':E=hE) (S:Nd→B32) (hS':S=hS) (a:Option Addr):List (Option SV):=aD 11 0 [(2,.o (.a (.ptr 0 0)))]
theorem i (hH:H=hV) (E:B32) (hE':E=hE) (S:Nd→B32) (hS':S=hS) (a:Option Addr) (x:B32):oI (M H hH E hE' S hS' a) (m H hH E hE' S hS' a x):=by delta oI;kernel_rfl
theorem s (hH:H=hV) (E:B32) (hE':E=hE) (S:Nd→B32) (hS':S=hS) (a:Option Addr) (x:B32) (e:Int):oN [0] (Γ H hH E hE' S hS') 100 body (aK fn [.o (.a (.v (.slice a 0 0)))]) [] [(7,[.s (hsS (x,e))])] .ret (M H hH E hE' S hS' a) (m H hH E hE' S hS' a x) [hsS (gM H E S [])=hsS (x,e)]:=by delta oN;kernel_rfl
theorem z (hH:H=hV) (E:B32) (hE':E=hE) (S:Nd→B32) (hS':S=hS) (a:Option Addr) (x:B32) (g:Nat→SV):eRes tys (fill g 0 (M H hH E hE' S hS' a)) (fun k=>(m H hH E hE' S hS' a x)[k]?) fn.results.toList=some [.g (ay.row x)]:=by kernel_rfl
theorem run (hH:H=hV) (E:B32) (hE':E=hE) (S:Nd→B32) (hS':S=hS) (a:Option Addr):aF Tryd.prog GT 0 body (aK fn [.o (.a (.v (.slice a 0 0)))]) [] (aH tys fn (bJ (ay.enc (gM H E S []).1) .none)):=by
 have q:=s H hH E hE' S hS' a (gM H E S []).1 (gM H E S []).2
 exact Runs.aP aj mixed [0] q ⟨rfl,trivial⟩ (i H hH E hE' S hS' a _) rfl fun g=>aH.ret (z H hH E hE' S hS' a _ g) rfl
end
end n
noncomputable def spec (H:Nd→Nd→B32) (E:B32) (S:Nd→B32):List aU→Option (SV × dH × Cst)
 | [.winv _ vs n ty]=>some (ay.enc (gM H E S (av vs)).1,.none,[vs=lvals (av vs),(av vs).length=n,n≤4000000,bI (av vs)])
 | [.val (.o (.a (.v (.slice a 0 0))))]=>some (ay.enc (gM H E S []).1,.none,[])
 | _=>none
noncomputable def con (H:Nd→Nd→B32) (hH:H=hV) (E:B32) (hE':E=hE) (S:Nd→B32) (hS':S=hS):Con Tryd.prog GT:=Con.parts aj 51 fn Tryd.func51 (by kernel_rfl) (c:=body) (by kernel_rfl) [.winv 64] (spec H E S)
 (fun ps r e p h hp=>by
  unfold spec at h
  split at h<;>cases h
  ·exact⟨rfl,fun b hb=>by simp only[bf,aU.blk,List.append_nil,List.nil_append,List.mem_singleton] at hb;rw[hb]⟩
  ·exact⟨rfl,fun b hb=>by simp[bf,aU.blk] at hb⟩)
 (fun ps r e p cap h hp hi=>by
  unfold spec at h
  split at h<;>cases h
  ·rename_i s vs n ty
   obtain⟨p1,p2,p3,p4,_⟩:=hp
   have q:=w.run H hH E hE' S hS' (av vs) n (cap 0) ty p2 p3 hi.1.2 p4
   rw[←p1] at q
   exact q
  ·exact n.run H hH E hE' S hS' _)
end root12
end Go.Proofs.YtdccehmekkcheaaDoor

/- Lists of slices handed on: of a plain item the decoder tells that it is an empty slice. -/
import Derived.Test.YtdccehmekkcheaaDoorCEngZ
set_option linter.unusedVariables false
namespace Go.Eng
open Go Go.RowKit
theorem itmsOf_v {m:PM} {kd:IntKind}:∀(cs:List Atom) {its:List Itm} {qs:List fG},jN m kd cs=some (its,qs)→∀a,Itm.v a∈its→∃p c,a= .slice p 0 c
 | [],its,qs,h,a,ha=>by
  simp only[jN,Option.some.injEq,Prod.mk.injEq] at h
  obtain⟨rfl,rfl⟩:=h
  cases ha
 | x::r,its,qs,h,a,ha=>by
  unfold jN at h
  split at h<;>try cases h
  rename_i its' qs' hr
  split at h
  ·rename_i p c
   cases h
   rcases List.mem_cons.1 ha with hq | hq
   ·cases hq
    exact⟨p,c,rfl⟩
   ·exact itmsOf_v r hr a hq
  ·split at h<;>cases h
   rcases List.mem_cons.1 ha with hq | hq
   ·cases hq
   ·exact itmsOf_v r hr a hq
def Dec.listV (P:Program) (kd:IntKind) (shp:List Bool) (res:List (List Int)→SV) (eff:List (List Int)→dH) (pre:List (List Int)→Cst)
  (good:∀ls,match eff ls with | .none=>(res ls).ids=[] | .new _ row=>row.ids=[] | .upd _ _=>False):Dec P LstA:=
 { Dec.list P kd shp res eff pre good with
  inv:=fun x=>(Dec.list P kd shp res eff pre good).inv x∧∀a,Itm.v a∈x.its→∃p c,a= .slice p 0 c
  ok:=fun m args x κ h hc=>by
   obtain⟨h1,h2⟩:=(Dec.list P kd shp res eff pre good).ok m args x κ h hc
   refine⟨⟨h1,?_⟩,h2⟩
   obtain⟨k,own,cs,qs,_,_,hi,_⟩:=vB (show lstOf m kd shp args=some (x,κ) from h)
   exact itmsOf_v cs hi }
theorem shp_w {its:List Itm} {r:List Bool} (h:qb its=true::r):∃a t,its= .w a::t∧qb t=r:=by
 cases its with
 | nil=>cases h
 | cons x t=>
  simp only[qb,List.cons.injEq] at h
  cases x with
  | w a=>exact⟨a,t,rfl,h.2⟩
  | v a=>cases h.1
theorem shp_n {its:List Itm} (h:qb its=[]):its=[]:=by
 cases its with
 | nil=>rfl
 | cons x t=>cases h
def gH:List (List Int)→List Int
 | []=>[]
 | y::r=>y++gH r
theorem dt0 (y:List Int) (n:Nat) (h:y.length=n):(y.drop 0).take n=y:=by rw[List.drop_zero,List.take_of_length_le (by omega)]
end Go.Eng

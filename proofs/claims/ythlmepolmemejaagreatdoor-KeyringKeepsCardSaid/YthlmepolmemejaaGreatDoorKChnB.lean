/- Lists of certificates: contracts; beaconref14.At, SameCerts, copyCerts: walks. -/
import Derived.Test.YthlmepolmemejaaGreatDoorKFo
import Derived.Test.YthlmepolmemejaaGreatDoorKChnA
set_option linter.unusedSimpArgs false
set_option linter.unusedVariables false
namespace Go.Proofs.YthlmepolmemejaaGreatDoor
open Go Go.Eng Go.RowKit
set_option maxRecDepth 100000
namespace kat
def spec (l:List Cert):List aW→Option (SV × dx × Cst)
 | [.val v,.winv _ vs n ty,.val (.o (.a (.v (.int .u64 ep))))]=>match aT.dec v with
  | some k=>some (aT.enc (atN l ep k n),.none,[vs=aK l,l.length=n,n<9223372036854775807])
  | none=>none
 | _=>none
noncomputable def con {G:Glob} (l:List Cert):Con Tryz.prog G:=Con.parts ah 10 fn Tryz.func10 (by kernel_rfl) (c:=body) (by kernel_rfl) [.val,.winv 130,.val] (spec l)
 (fun ps r e p h hp=>by
  unfold spec at h
  split at h
  ·split at h<;>cases h
   exact⟨aT.ids _,fun b hb=>by simp only[bI,aW.blk,List.append_nil,List.nil_append,List.mem_singleton] at hb;rw[hb]⟩
  ·cases h)
 (fun ps r e p cap h hp hi=>by
  unfold spec at h
  split at h
  ·split at h<;>cases h
   rename_i k hk
   have:=aT.ok _ _ hk
   subst this
   obtain⟨p1,p2,p3,_⟩:=hp
   subst p1
   exact run l _ _ _ k _ p2 p3
  ·cases h)
end kat
namespace kcp
noncomputable abbrev fn:=Tryz.f9
noncomputable def body:Code:=cu fn
noncomputable def Γ {G:Glob}:Cons Tryz.prog G:=[]
noncomputable def ep (G:Glob) (vs:List Value) (n c:Nat) (ty:TypeId):St:=dA (Γ (G:=G)) tys 100 body ⟨aF fn [.o (.a (.sld 0 0 0 n c))],[⟨false,ty,.prv vs⟩],[]⟩
section
variable {G:Glob} (vs:List Value) (n c:Nat) (ty:TypeId)
theorem exp:exec (Γ (G:=G)) tys 100 body ⟨aF fn [.o (.a (.sld 0 0 0 n c))],[⟨false,ty,.prv vs⟩],[]⟩=some (.ret,⟨(ep G vs n c ty ).tm,(ep G vs n c ty ).mem,(ep G vs n c ty ).orc⟩,[0+0+n*130≤vs.length,0<n,Room Tryz.prog 39 n]):=by kernel_rfl
theorem resp:eRes tys (ep G vs n c ty ).tm (fun k=>(ep G vs n c ty ).mem[k]?) fn.results.toList=some [.a (.slg 2 n)]:=by kernel_rfl
theorem rowp:(ep G vs n c ty ).mem[2]? =some ⟨true,39,.grv 130 ((vs.drop (0+0)).take (n*130)) n none⟩:=by kernel_rfl
end
noncomputable def ez (G:Glob) (vs:List Value) (n c:Nat) (ty:TypeId):St:=dA (Γ (G:=G)) tys 100 body ⟨aF fn [.o (.a (.sld 0 0 0 n c))],[⟨false,ty,.prv vs⟩],[(5,[.dyn])]⟩
section
variable {G:Glob} (vs:List Value) (n c:Nat) (ty:TypeId)
theorem exz:exec (Γ (G:=G)) tys 100 body ⟨aF fn [.o (.a (.sld 0 0 0 n c))],[⟨false,ty,.prv vs⟩],[(5,[.dyn])]⟩=some (.ret,⟨(ez G vs n c ty ).tm,(ez G vs n c ty ).mem,(ez G vs n c ty ).orc⟩,[0+0+n*130≤vs.length,n=0]):=by kernel_rfl
theorem resz:eRes tys (ez G vs n c ty ).tm (fun k=>(ez G vs n c ty ).mem[k]?) fn.results.toList=some [.a (.slc 1 0 0 0)]:=by kernel_rfl
theorem rowz:(ez G vs n c ty ).mem[1]? =some ⟨true,39,.lit []⟩:=by kernel_rfl
end
noncomputable def en (G:Glob):St:=dA (Γ (G:=G)) tys 100 body ⟨aF fn [.o (.a (.v (.slice none 0 0)))],[],[(5,[.dyn])]⟩
theorem exn {G:Glob}:exec (Γ (G:=G)) tys 100 body ⟨aF fn [.o (.a (.v (.slice none 0 0)))],[],[(5,[.dyn])]⟩=some (.ret,⟨(en G ).tm,(en G ).mem,(en G ).orc⟩,[0=0]):=by kernel_rfl
theorem resn {G:Glob}:eRes tys (en G ).tm (fun k=>(en G ).mem[k]?) fn.results.toList=some [.a (.slc 0 0 0 0)]:=by kernel_rfl
theorem rown {G:Glob}:(en G ).mem[0]? =some ⟨true,39,.lit []⟩:=by kernel_rfl
end kcp
end Go.Proofs.YthlmepolmemejaaGreatDoor

/- The law VrfVerifies: walked; its content. -/
import Derived.Test.YtbfndladaldajaaGreatDoorQMO
import Derived.Test.YtbfndladaldajaaGreatDoorQRVrB
import Derived.Test.YtbfndladaldajaaGreatDoorQEDoor
namespace Go.Proofs.YtbfndladaldajaaGreatDoor
open Go Go.Eng Go.RowKit
set_option linter.unusedVariables false
set_option linter.unusedSimpArgs false
set_option maxRecDepth 100000
namespace lvvf
noncomputable abbrev fn:=Tryz.f6
noncomputable def body:Code:=bS fn
section
variable (X:B32→List Int→B80→B64) (hX:X=vfX) (E:B32→List Int→B80→Int) (hE:E=vfE)
noncomputable def Γ:Cons Tryz.prog G2:=[awake6_con,vfy.con X hX E hE,rvfy.con X hX E hE,vOut_con,rOut_con]
theorem exw (b:B32) (D:B80) (e f:Int) (x y:B64) (ys:List Int) (n c:Nat) (ty:TypeId):aZ (Γ X hX E hE) tys fn 100 [⟨false,ty,.pre .u8 ys⟩] [cB32.enc b,.o (.a (.sld 0 0 0 n c)),cB80.enc D] [(21,[.s (aC x e)]),(28,[.s (aC x e)]),(33,[.s (aC y f)]),(38,[.s (aC y f)]),(43,[.b true]),(47,[.b true]),(52,[.b true]),(57,[.b true])]=some (aN.enc true,[0+n≤ys.length,n≤c,D.Ok,n≤140737488353900,aC (X b ((ys.drop 0).take n) D) (E b ((ys.drop 0).take n) D)=aC x e,0+n≤ys.length,n≤c,BOk b,D.Ok,n≤140737488353900,aC (X b ((ys.drop 0).take n) D) (E b ((ys.drop 0).take n) D)=aC x e,∀i,0≤(t80 D).at i∧(t80 D).at i<256,outSV D=aC y f,D.Ok,outSV D=aC y f,sameL x.to=true,(e==e)=true,sameL y.to=true,(f==f)=true]):=by kernel_rfl
end
theorem runw (b:B32) (D:B80) (hB:BOk b) (hk:D.Ok) (ys:List Int) (n c:Nat) (ty:TypeId) (hy:ys.length=n) (hc:n≤c) (hn:n≤140737488353900):aG Tryz.prog G2 1 body (aA fn [cB32.enc b,.o (.a (.sld 0 0 0 n c)),cB80.enc D]) ([⟨false,ty,.pre .u8 ys⟩]) (aD tys fn (aX (aN.enc true) .none)):=by
 have hb:fn.body=some body:=by kernel_rfl
 have e:=dt0 ys n hy
 have hoX:∃x f,outSV D=aC x f:=by
  unfold outSV
  cases okV D
  ·exact⟨_,_,rfl⟩
  ·exact⟨_,_,rfl⟩
 obtain⟨y,f,ho⟩:=hoX
 exact aM ah mixed hb (exw vfX rfl vfE rfl b D (vfE b ys D) f (vfX b ys D) y ys n c ty) ⟨(by omega),(hc),(hk),(hn),(by rw[e]),(by omega),(hc),(hB),(hk),(hn),(by rw[e]),(hk.2.2),(ho),(hk),(ho),(dz _),(beq_self_eq_true _),(dz _),(beq_self_eq_true _),(trivial)⟩
theorem exv (X:B32→List Int→B80→B64) (hX:X=vfX) (E:B32→List Int→B80→Int) (hE:E=vfE) (b:B32) (D:B80) (e f:Int) (x y:B64) (a:Option Addr):aZ (Γ X hX E hE) tys fn 100 [] [cB32.enc b,.o (.a (.v (.slice a 0 0))),cB80.enc D] [(21,[.s (aC x e)]),(28,[.s (aC x e)]),(33,[.s (aC y f)]),(38,[.s (aC y f)]),(43,[.b true]),(47,[.b true]),(52,[.b true]),(57,[.b true])]=some (aN.enc true,[D.Ok,aC (X b [] D) (E b [] D)=aC x e,BOk b,D.Ok,aC (X b [] D) (E b [] D)=aC x e,∀i,0≤(t80 D).at i∧(t80 D).at i<256,outSV D=aC y f,D.Ok,outSV D=aC y f,sameL x.to=true,(e==e)=true,sameL y.to=true,(f==f)=true]):=by kernel_rfl
theorem runv (b:B32) (D:B80) (hB:BOk b) (hk:D.Ok) (a:Option Addr):aG Tryz.prog G2 0 body (aA fn [cB32.enc b,.o (.a (.v (.slice a 0 0))),cB80.enc D]) ([]) (aD tys fn (aX (aN.enc true) .none)):=by
 have hb:fn.body=some body:=by kernel_rfl
 have hoX:∃x f,outSV D=aC x f:=by
  unfold outSV
  cases okV D
  ·exact⟨_,_,rfl⟩
  ·exact⟨_,_,rfl⟩
 obtain⟨y,f,ho⟩:=hoX
 exact aM ah mixed hb (exv vfX rfl vfE rfl b D (vfE b [] D) f (vfX b [] D) y a) ⟨(hk),(rfl),(hB),(hk),(rfl),(hk.2.2),(ho),(hk),(ho),(dz _),(beq_self_eq_true _),(dz _),(beq_self_eq_true _),(trivial)⟩
end lvvf
theorem vvf_ok (b:B32) (x0:SArg) (D:B80) (W:World) (hb:BOk b) (h0:x0.ok .u8 W) (hD:D.Ok) (b0:x0.ints.length≤140737488351232) (hg:GlobOk G2 W):
  Calls Tryz.prog 6 #[(cB32.enc b).den lam0,x0.val,(cB80.enc D).den lam0] W fun e W'=>e= .returned (.bool true)∧Below W.heap.size W W':=by
 refine law_mix ah Tryz.func6 (c:=lvvf.body) (by kernel_rfl) hg .u8 [cB32.enc b] [x0] [cB80.enc D] (fun v hv=>by simp only[List.mem_cons,List.not_mem_nil,or_false] at hv;rw[hv];exact cB32.ids _) (fun v hv=>by simp only[List.mem_cons,List.not_mem_nil,or_false] at hv;rw[hv];exact cB80.ids _) (fun y hy=>by simp only[List.mem_cons,List.not_mem_nil,or_false] at hy;rcases hy with rfl;assumption) (r:=aN.enc true) rfl fun hi=> ?_
 cases x0 with
 | none a0=>exact lvvf.runv b D hb hD a0
 | win y0 n0 c0 ty0 L0=>exact lvvf.runw b D hb hD y0 n0 _ ty0 hi.1.1 hi.1.2 (by have:=hi.1.1;have b:y0.length≤140737488351232:=b0;omega)
end Go.Proofs.YtbfndladaldajaaGreatDoor

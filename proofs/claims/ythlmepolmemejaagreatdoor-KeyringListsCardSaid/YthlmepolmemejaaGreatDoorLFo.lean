/- Facts of a walk, written in short. -/
import Derived.Test.YthlmepolmemejaaGreatDoorLTy
import Derived.Test.YthlmepolmemejaaGreatDoorLMA
set_option linter.unusedVariables false
namespace Go.Proofs.YthlmepolmemejaaGreatDoor
open Go Go.Eng
abbrev oX {G:Glob} (Γ:Cons Tryz.prog G) (k:Nat) (c:Code) (tm:List SV) (mm:List Blk) (orc:Orc) (e:Ex) (M:List (Option SV)) (m:List Blk) (cs:Cst):Prop:=outX m.length M (exec Γ tys k c ⟨tm,mm,orc⟩)=some (e,live M,M.length,m,cs)
abbrev oN {G:Glob} (p:List Nat) (Γ:Cons Tryz.prog G) (k:Nat) (c:Code) (tm:List SV) (mm:List Blk) (orc:Orc) (e:Ex) (M:List (Option SV)) (m:List Blk) (cs:Cst):Prop:=outN p M (exec Γ tys k c ⟨tm,mm,orc⟩)=some (e,(live M).map (SV.ren (piF p)),M.length,m.map (fun b=>some (b.ren (piF p))),cs)
abbrev oT {G:Glob} (Γ:Cons Tryz.prog G) (R:Code) (k n:Nat) (tm:List SV) (mm:List Blk) (orc:Orc) (M:List (Option SV)) (m:List Blk) (cs:Cst):Prop:=oF m.length M (dW Γ tys (opsOf R).toList (((opsOf R).toList.drop k).take n) ⟨tm,mm,orc⟩)=some (live M,M.length,m,cs)
abbrev oI (M:List (Option SV)) (m:List Blk):Prop:=idsIn m.length M m=true
end Go.Proofs.YthlmepolmemejaaGreatDoor

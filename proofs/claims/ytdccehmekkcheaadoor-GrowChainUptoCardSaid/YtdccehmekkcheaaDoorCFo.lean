/- Facts of a walk, written in short. -/
import Derived.Test.YtdccehmekkcheaaDoorCTy
import Derived.Test.YtdccehmekkcheaaDoorCCod2
import Derived.Test.YtdccehmekkcheaaDoorCEngZ
set_option linter.unusedVariables false
namespace Go.Proofs.YtdccehmekkcheaaDoor
open Go Go.Eng
abbrev oX {G:Glob} (Γ:Cons Tryd.prog G) (k:Nat) (c:Code) (tm:List SV) (mm:List Blk) (orc:Orc) (e:Ex) (M:List (Option SV)) (m:List Blk) (cs:Cst):Prop:=jq m.length M (exec Γ tys k c ⟨tm,mm,orc⟩)=some (e,live M,M.length,m,cs)
abbrev oN {G:Glob} (p:List Nat) (Γ:Cons Tryd.prog G) (k:Nat) (c:Code) (tm:List SV) (mm:List Blk) (orc:Orc) (e:Ex) (M:List (Option SV)) (m:List Blk) (cs:Cst):Prop:=outN p M (exec Γ tys k c ⟨tm,mm,orc⟩)=some (e,(live M).map (SV.ren (piF p)),M.length,m.map (fun b=>some (b.ren (piF p))),cs)
abbrev oT {G:Glob} (Γ:Cons Tryd.prog G) (R:Code) (k n:Nat) (tm:List SV) (mm:List Blk) (orc:Orc) (M:List (Option SV)) (m:List Blk) (cs:Cst):Prop:=outXL m.length M (eG Γ tys (opsOf R).toList (((opsOf R).toList.drop k).take n) ⟨tm,mm,orc⟩)=some (live M,M.length,m,cs)
abbrev oU {G:Glob} (p:List Nat) (Γ:Cons Tryd.prog G) (R:Code) (k n:Nat) (tm:List SV) (mm:List Blk) (orc:Orc) (M:List (Option SV)) (m:List Blk) (cs:Cst):Prop:=jw p M (eG Γ tys (opsOf R).toList (((opsOf R).toList.drop k).take n) ⟨tm,mm,orc⟩)=some ((live M).map (SV.ren (piF p)),M.length,m.map (fun b=>some (b.ren (piF p))),cs)
abbrev oI (M:List (Option SV)) (m:List Blk):Prop:=gU m.length M m=true
end Go.Proofs.YtdccehmekkcheaaDoor

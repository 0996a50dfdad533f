/- Package tree: Sort's closure and bytes.Compare, walked to the world. -/
import Derived.Test.YtdccehmekkcheaaDoorYTrK
import Derived.LoopTactic
import Derived.Deep.QuietTactic
import Derived.BigQuiet
import Derived.WalkKit
namespace Go.Proofs.YtdccehmekkcheaaDoor
open Go Go.RowKit
set_option linter.unusedVariables false
set_option linter.unusedSimpArgs false
set_option maxRecDepth 100000
theorem cmpx_run (xs ys:List Int) (p q:Addr) (c1 c2:Nat) (W:World) (hx:∀j z,xs[j]? =some z→W.cell? (p.add j)=some (.int .u8 z)) (hy:∀j z,ys[j]? =some z→W.cell? (q.add j)=some (.int .u8 z)):
  (callFunc 85 #[.slice (some p) xs.length c1,.slice (some q) ys.length c2]).run Tryd.prog W= .ok (.value (.int .i64 (cmpI xs ys))) W:=by
 rw[run_callFunc_extern Tryd.func85 (by kernel_rfl) (by kernel_rfl) (by kernel_rfl) (e:=Extern.BytealgCompare.compare) (by kernel_rfl)]
 have e1:(Extern.Bytes.bytesOf (.slice (some p) xs.length c1)).run Tryd.prog W= .ok ⟨(Lib.bytesOf xs).toArray⟩ W:=by
  have:=Lib.run_loadBytesX (P:=Tryd.prog) W xs p .empty hx
  show(Extern.Bytes.loadBytes p xs.length .empty).run Tryd.prog W=_
  rw[this];simp
 have e2:(Extern.Bytes.bytesOf (.slice (some q) ys.length c2)).run Tryd.prog W= .ok ⟨(Lib.bytesOf ys).toArray⟩ W:=by
  have:=Lib.run_loadBytesX (P:=Tryd.prog) W ys q .empty hy
  show(Extern.Bytes.loadBytes q ys.length .empty).run Tryd.prog W=_
  rw[this];simp
 show((do pure (goInt (Extern.BytealgCompare.cmp (←Extern.Bytes.bytesOf (.slice (some p) xs.length c1)) (←Extern.Bytes.bytesOf (.slice (some q) ys.length c2)))):Sem Value).run Tryd.prog W).andThen _=_
 simp only[Sem.run_bind,e1,e2,Result.andThen_ok,Sem.run_pure]
 rw[Lib.cmp_eq]
 rfl
theorem bcmp_calls (xs ys:List Int) (p q:Addr) (c1 c2:Nat) (W:World) (hx:∀j z,xs[j]? =some z→W.cell? (p.add j)=some (.int .u8 z)) (hy:∀j z,ys[j]? =some z→W.cell? (q.add j)=some (.int .u8 z)):
  Calls Tryd.prog 67 #[.slice (some p) xs.length c1,.slice (some q) ys.length c2] W fun e w'=>e= .returned (.int .i64 (cmpI xs ys))∧w'=W:=by
 have h:=cmpx_run xs ys p q c1 c2 W hx hy
 go_enter Tryd.func67,Tryd.ntmps67
 go_wp2
 go_ret
 exact⟨rfl,rfl⟩
end Go.Proofs.YtdccehmekkcheaaDoor

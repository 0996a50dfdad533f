/- The law TreeKeeps: its content. -/
import Derived.Test.YtdccehmekkcheaaDoorUTrD
import Derived.Test.YtdccehmekkcheaaDoorUTKr
import Derived.Test.YtdccehmekkcheaaDoorUTOc
namespace Go.Proofs.YtdccehmekkcheaaDoor
open Go Go.Eng Go.RowKit
set_option linter.unusedVariables false
set_option linter.unusedSimpArgs false
set_option maxRecDepth 100000
theorem ltke_ok (x0:VArg) (x1:B32) (W:World) (h0:x0.ok 64 W∧x0.each 64 LfIs) (h1:BOk x1) (r0:x0.n≤1048576) (hg:GlobOk GT W):
  Calls Tryd.prog 15 #[x0.val,(cB32.enc x1).den lam0] W fun e W'=>e= .returned (.bool true)∧Below W.heap.size W W':=by
 obtain⟨h0,e0⟩:=h0
 cases x0 with
 | none a0=>
  refine law_calls aj Tryd.func15 (c:=ltke.body) (by kernel_rfl) hg lam0 (l:=[]) (args:=[.o (.a (.v (.slice a0 0 0))),cB32.enc x1]) (r:=aI.enc true) ?_ ?_ rfl ?_
  ·intro i bb hbb;cases hbb
  ·intro z hz k hk
   simp only[List.mem_cons,List.not_mem_nil,or_false] at hz
   rcases hz with rfl | rfl
   ·cases hk
   ·cases hk
  ·exact ltke.n.run hV rfl hE rfl hS rfl a0 x1 h1
 | win vs0 n0 c0 ty0 L0=>
  obtain⟨g10,g20,g30,g40,fr0,pre0,tail0,g50,g60⟩:=h0
  obtain⟨l0,rfl,hn0,hl0⟩:=split_rows (f:=Lf.vals) (sz:=64) (R:=LOk) n0 vs0 g10 e0
  have r0:n0≤1048576:=r0
  refine law_calls aj Tryd.func15 (c:=ltke.body) (by kernel_rfl) hg (fun _=>L0) (l:=[⟨false,ty0,.prv (lvals l0)⟩]) (args:=[.o (.a (.sld 0 0 0 n0 c0)),cB32.enc x1]) (r:=aI.enc true) ?_ ?_ rfl ?_
  ·intro i bb hbb
   match i,hbb with
   | 0,hbb=>cases hbb;exact⟨rfl,rfl,fr0,pre0,_,g50,g60,⟨tail0,rfl⟩⟩
   | i+1,hbb=>cases hbb
  ·intro z hz k hk
   simp only[List.mem_cons,List.not_mem_nil,or_false] at hz
   rcases hz with rfl | rfl
   ·simp[SV.ids,SV1.ids,Atom.ids] at hk;subst hk;show 0<1;omega
   ·cases hk
  ·rcases Nat.eq_zero_or_pos n0 with z0 | z0
   ·exact ltke.w.run hV rfl hE rfl hS rfl l0 n0 c0 ty0 x1 hn0 (by omega) h1 g20 hl0
   ·exact ltke.w.run hV rfl hE rfl hS rfl l0 n0 c0 ty0 x1 hn0 (by omega) h1 g20 hl0
end Go.Proofs.YtdccehmekkcheaaDoor

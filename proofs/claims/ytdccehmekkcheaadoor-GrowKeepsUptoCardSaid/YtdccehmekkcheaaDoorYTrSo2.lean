/- Package tree: Sort's closure, walked to the world. -/
import Derived.Test.YtdccehmekkcheaaDoorYTrSo1
namespace Go.Proofs.YtdccehmekkcheaaDoor
open Go Go.RowKit
set_option linter.unusedVariables false
set_option linter.unusedSimpArgs false
set_option maxRecDepth 100000
theorem add_none (b o k:Nat):(⟨b,o,none⟩:Addr).add k=⟨b,o+k,none⟩:=by
 unfold Addr.add
 split
 ·rename_i h;subst h;rfl
 ·rfl
set_option maxHeartbeats 2000000 in
theorem less_calls (blk off c Bs size:Nat) (W:World) (F:Nat→List Int) (hF:∀t,(F t).length=32) (hs:W.cell? ⟨Bs,0,none⟩=some (.slice (some ⟨blk,off,none⟩) size c))
  (hc:∀t,t<size→∀j z,(F t)[j]? =some z→W.cell? ⟨blk,off+t*65+1+j,none⟩=some (.int .u8 z)) (i j:Nat) (hi:i<size) (hj:j<size) (_hsz:size<4611686018427387904):
  Calls Tryd.prog 87 #[.int .i64 i,.int .i64 j,.pointer (some ⟨Bs,0,none⟩)] W fun e w'=>e= .returned (.bool (decide (cmpI (F i) (F j)<0)))∧∃q,w'=W.drewN q:=by
 have hcall:∀n,Calls Tryd.prog 67 #[.slice (some ⟨blk,off+i*65+1,none⟩) 32 32,.slice (some ⟨blk,off+j*65+1,none⟩) 32 32] (W.drewN n) fun e w'=>e= .returned (.int .i64 (cmpI (F i) (F j)))∧w'=W.drewN n:=fun n=>by
  have:=bcmp_calls (F i) (F j) ⟨blk,off+i*65+1,none⟩ ⟨blk,off+j*65+1,none⟩ 32 32 (W.drewN n) (fun k z h=>by rw[add_none];exact hc i hi k z h) (fun k z h=>by rw[add_none];exact hc j hj k z h)
  rw[hF,hF] at this
  exact this
 go_enter Tryd.func87,Tryd.ntmps87
 go_wp2
 go_quiet ((go_at_call 67;exact Calls.quiet_of_same (hcall _)))
 go_wp2
 go_ret
 exact⟨rfl,nq,rfl⟩
end Go.Proofs.YtdccehmekkcheaaDoor

/- Laws of trees: awake, copies of lists: contracts. -/
import Derived.Test.YtdccehmekkcheaaDoorLTrZ
import Derived.Test.YtdccehmekkcheaaDoorLTrS3
namespace Go.Proofs.YtdccehmekkcheaaDoor
open Go Go.Eng Go.RowKit
set_option linter.unusedVariables false
set_option linter.unusedSimpArgs false
set_option maxRecDepth 100000
def hEP:List Int:=[0,128,0,0,0,0,0,0,0,0,0,0,0,0,0,0,0,0,0,0,0,0,0,0,0,0,0,0,0,0,0,0,0,0,0,0,0,0,0,0,0,0,0,0,0,0,0,0,0,0,0,0,0,0,0,0,0,0,0,0,0,0,0,8]
def hEB:B32:=⟨110,52,11,156,255,179,122,152,156,165,68,230,187,120,10,44,120,144,29,63,179,55,56,118,133,17,163,6,23,175,160,29⟩
theorem hE_eq:hE=hEB:=by
 unfold hE shaV
 rw[S3.ref_lit (P:=hEP) (R:=⟨1848904604,4289952408,2628076774,3145206316,2022710591,3006740598,2232525574,397385757⟩) (by kernel_rfl) (by kernel_rfl) (by kernel_rfl)]
 rfl
def lf1:Lf:=⟨⟨1,0,0,0,0,0,0,0,0,0,0,0,0,0,0,0,0,0,0,0,0,0,0,0,0,0,0,0,0,0,0,0⟩,zB⟩
theorem ok_of {b:B32} (h:(b.to.all fun x=>decide (0≤x)&&decide (x<256))=true):BOk b:=by
 have key:∀x∈b.to,0≤x∧x<256:=fun x hx=>by
  have:=List.all_eq_true.1 h x hx
  simpa using this
 intro i
 unfold B32.at
 split<;>exact key _ (by simp[B32.to])
theorem zB_ok:BOk zB:=ok_of (by decide)
theorem lf1_ok:LOk lf1:=⟨ok_of (by decide),zB_ok⟩
theorem tnd_nil:tndV []=[]:=List.eq_nil_of_length_eq_zero (tnd_len [])
end Go.Proofs.YtdccehmekkcheaaDoor

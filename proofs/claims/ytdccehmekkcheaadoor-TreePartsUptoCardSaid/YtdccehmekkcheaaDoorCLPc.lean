/- The law TreeParts: its content. -/
import Derived.Test.YtdccehmekkcheaaDoorCTrD
import Derived.Test.YtdccehmekkcheaaDoorCLPr
import Derived.Test.YtdccehmekkcheaaDoorCTOc
namespace Go.Proofs.YtdccehmekkcheaaDoor
open Go Go.Eng Go.RowKit
set_option linter.unusedVariables false
set_option linter.unusedSimpArgs false
set_option maxRecDepth 100000
theorem lpar_ok (x : VArg) (k : Int) (W : World) (hx : x.ok 64 W ∧ x.each 64 LfIs) (hk : (Lit.int .u8 k).wf = true) (hr : x.n ≤ 1048576) (hg : GlobOk GT W) :
    Calls Tryd.prog 4 #[x.val, .int .u8 k] W fun e W' => e = .returned (.bool true) ∧ Below W.heap.size W W' := by
  obtain ⟨hx, hx2⟩ := hx
  cases x with
  | none a =>
    refine law_calls tys_ok Tryd.func4 (c := lpar.body) (by kernel_rfl) hg lam0 (l := []) (args := [.o (.a (.v (.slice a 0 0))), .o (.a (int1 .u8 k))]) (r := cBool.enc true) ?_ ?_ rfl ?_
    · intro i bb hbb; cases hbb
    · intro z hz k hk
      simp only [List.mem_cons, List.not_mem_nil, or_false] at hz
      rcases hz with rfl | rfl <;> cases hk
    · exact lpar.n.run hV rfl hE rfl hS rfl k a
  | win vs n c ty L =>
    obtain ⟨g1, g2, g3, g4, fr, pre, tail, g5, g6⟩ := hx
    obtain ⟨l, rfl, hn, hl⟩ := split_rows (f := Lf.vals) (sz := 64) (R := LOk) n vs g1 hx2
    have hr : n ≤ 1048576 := hr
    refine law_calls tys_ok Tryd.func4 (c := lpar.body) (by kernel_rfl) hg (fun _ => L) (l := [⟨false, ty, .prv (lvals l)⟩]) (args := [.o (.a (.sld 0 0 0 n c)), .o (.a (int1 .u8 k))]) (r := cBool.enc true) ?_ ?_ rfl ?_
    · intro i bb hbb
      match i, hbb with
      | 0, hbb => cases hbb; exact ⟨rfl, rfl, fr, pre, _, g5, g6, ⟨tail, rfl⟩⟩
      | i + 1, hbb => cases hbb
    · intro z hz k hk
      simp only [List.mem_cons, List.not_mem_nil, or_false] at hz
      rcases hz with rfl | rfl
      · simp [SV.ids, SV1.ids, Atom.ids] at hk; subst hk; exact Nat.one_pos
      · cases hk
    · rcases Nat.eq_zero_or_pos n with h0 | h0
      · exact lpar.z.run hV rfl hE rfl hS rfl l k n c ty hn h0 g2
      · exact lpar.w.run l k n c ty hk hn h0 (by omega) g2 hl
end Go.Proofs.YtdccehmekkcheaaDoor

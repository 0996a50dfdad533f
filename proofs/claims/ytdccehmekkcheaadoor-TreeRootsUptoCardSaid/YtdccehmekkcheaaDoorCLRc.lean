/- The law TreeRoots: its content. -/
import Derived.Test.YtdccehmekkcheaaDoorCTrD
import Derived.Test.YtdccehmekkcheaaDoorCTLr
import Derived.Test.YtdccehmekkcheaaDoorCTOc
namespace Go.Proofs.YtdccehmekkcheaaDoor
open Go Go.Eng Go.RowKit
set_option linter.unusedVariables false
set_option linter.unusedSimpArgs false
set_option maxRecDepth 100000
theorem lroo_ok (x : VArg) (k : Int) (W : World) (hx : x.ok 64 W ∧ x.each 64 LfIs) (hk : (Lit.int .i64 k).wf = true) (hr : x.n ≤ 1048576) (hg : GlobOk GT W) :
    Calls Tryd.prog 3 #[x.val, .int .i64 k] W fun e W' => e = .returned (.bool true) ∧ Below W.heap.size W W' := by
  obtain ⟨hx, hx2⟩ := hx
  cases x with
  | none a =>
    refine law_calls tys_ok Tryd.func3 (c := lroo.body) (by kernel_rfl) hg lam0 (l := []) (args := [.o (.a (.v (.slice a 0 0))), .o (.a (int1 .i64 k))]) (r := cBool.enc true) ?_ ?_ rfl ?_
    · intro i bb hbb; cases hbb
    · intro z hz k hk
      simp only [List.mem_cons, List.not_mem_nil, or_false] at hz
      rcases hz with rfl | rfl <;> cases hk
    · exact lroo.n.run hV rfl hE rfl hS rfl k a
  | win vs n c ty L =>
    obtain ⟨g1, g2, g3, g4, fr, pre, tail, g5, g6⟩ := hx
    obtain ⟨l, rfl, hn, hl⟩ := split_rows (f := Lf.vals) (sz := 64) (R := LOk) n vs g1 hx2
    have hr : n ≤ 1048576 := hr
    refine law_calls tys_ok Tryd.func3 (c := lroo.body) (by kernel_rfl) hg (fun _ => L) (l := [⟨false, ty, .prv (lvals l)⟩]) (args := [.o (.a (.sld 0 0 0 n c)), .o (.a (int1 .i64 k))]) (r := cBool.enc true) ?_ ?_ rfl ?_
    · intro i bb hbb
      match i, hbb with
      | 0, hbb => cases hbb; exact ⟨rfl, rfl, fr, pre, _, g5, g6, ⟨tail, rfl⟩⟩
      | i + 1, hbb => cases hbb
    · intro z hz k hk
      simp only [List.mem_cons, List.not_mem_nil, or_false] at hz
      rcases hz with rfl | rfl
      · simp [SV.ids, SV1.ids, Atom.ids] at hk; subst hk; exact Nat.one_pos
      · cases hk
    · rcases Nat.eq_zero_or_pos n with h0 | h0
      · exact lroo.z.run hV rfl hE rfl hS rfl l k n c ty hn h0 g2
      · exact lroo.w.run hV rfl hE rfl hS rfl l k n c ty hn h0 (roomLf n (by omega)) (by omega) g2 hl
end Go.Proofs.YtdccehmekkcheaaDoor

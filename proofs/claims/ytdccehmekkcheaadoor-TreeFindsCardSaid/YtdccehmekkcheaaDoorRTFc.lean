/- The law TreeFinds: its content. -/
import Derived.Test.YtdccehmekkcheaaDoorRTNc
import Derived.Test.YtdccehmekkcheaaDoorRTLf
namespace Go.Proofs.YtdccehmekkcheaaDoor
open Go Go.Eng Go.RowKit
set_option linter.unusedVariables false
set_option linter.unusedSimpArgs false
set_option maxRecDepth 100000
theorem lfin_ok (q : B32) (x : VArg) (b : B32) (W : World) (hq : BOk q) (hx : x.ok 65 W ∧ x.each 65 NdIs) (hb : BOk b) (hr : x.n * 72 ≤ 140737488351232) (hg : GlobOk GT W) :
    Calls Tryd.prog 6 #[(cB32.enc q).den lam0, x.val, (cB32.enc b).den lam0] W fun e W' => e = .returned (.bool true) ∧ Below W.heap.size W W' := by
  obtain ⟨hx, hx2⟩ := hx
  cases x with
  | none a =>
    refine law_calls tys_ok Tryd.func6 (c := lfin.body) (by kernel_rfl) hg lam0 (l := []) (args := [cB32.enc q, .o (.a (.v (.slice a 0 0))), cB32.enc b]) (r := cBool.enc true) ?_ ?_ rfl ?_
    · intro i bb hbb; cases hbb
    · intro z hz k hk
      simp only [List.mem_cons, List.not_mem_nil, or_false] at hz
      rcases hz with rfl | rfl | rfl <;> cases hk
    · exact lfin.n.run hV rfl hE rfl hS rfl q b [] a hb
  | win vs n c ty L =>
    obtain ⟨g1, g2, g3, g4, fr, pre, tail, g5, g6⟩ := hx
    obtain ⟨l, rfl, hn, hl⟩ := split_rows (f := Nd.vals) (sz := 65) (R := NOk) n vs g1 hx2
    have hr : n * 72 ≤ 140737488351232 := hr
    have hN : n < boundN := by unfold boundN; omega
    refine law_calls tys_ok Tryd.func6 (c := lfin.body) (by kernel_rfl) hg (fun _ => L) (l := [⟨false, ty, .prv (nvals l)⟩]) (args := [cB32.enc q, .o (.a (.sld 0 0 0 n c)), cB32.enc b]) (r := cBool.enc true) ?_ ?_ rfl ?_
    · intro i bb hbb
      match i, hbb with
      | 0, hbb => cases hbb; exact ⟨rfl, rfl, fr, pre, _, g5, g6, ⟨tail, rfl⟩⟩
      | i + 1, hbb => cases hbb
    · intro z hz k hk
      simp only [List.mem_cons, List.not_mem_nil, or_false] at hz
      rcases hz with rfl | rfl | rfl
      · cases hk
      · simp [SV.ids, SV1.ids, Atom.ids] at hk; subst hk; exact Nat.one_pos
      · cases hk
    · rcases Nat.eq_zero_or_pos n with h0 | h0
      · exact lfin.z.run hV rfl hE rfl hS rfl q b l n c ty hn h0 g2 hb
      · exact lfin.w.run hV rfl hE rfl hS rfl q b l n c ty hn h0 (roomB n hr) hN g2 hl hb
end Go.Proofs.YtdccehmekkcheaaDoor

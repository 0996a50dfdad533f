/- The law TreeOpens: its content. -/
import Derived.Test.YtdccehmekkcheaaDoorTTrD
import Derived.Test.YtdccehmekkcheaaDoorTLTo
namespace Go.Proofs.YtdccehmekkcheaaDoor
open Go Go.Eng Go.RowKit
set_option linter.unusedVariables false
set_option linter.unusedSimpArgs false
set_option maxRecDepth 100000
noncomputable def laidWorld (os : Os) : World :=
  { World.holding Tryd.prog os ⟨#[], #[], []⟩ with heap := (World.holding Tryd.prog os ⟨#[], #[], []⟩).heap.modify 1 fun
      | .cells _ t frozen => .cells (S3.k256L.map (Value.int .u32)).toArray t frozen
      | o => o }
theorem roomLf (n : Nat) (h : n ≤ 4000000) : Room Tryd.prog 30 n := by
  have h1 : (Tryd.prog.info? 30).map (·.bytes) = some 64 := by kernel_rfl
  cases hq : Tryd.prog.info? 30 with
  | none => rw [hq] at h1; cases h1
  | some j =>
    rw [hq] at h1
    have : j.bytes = 64 := by simpa using h1
    exact ⟨j, hq, by rw [this]; omega, by omega⟩
theorem lope_ok (x : VArg) (b : B32) (W : World) (hx : x.ok 64 W ∧ x.each 64 LfIs) (hb : BOk b) (hr : x.n ≤ 1048576) (hg : GlobOk GT W) :
    Calls Tryd.prog 7 #[x.val, (cB32.enc b).den lam0] W fun e W' => e = .returned (.bool true) ∧ Below W.heap.size W W' := by
  obtain ⟨hx, hx2⟩ := hx
  cases x with
  | none a =>
    refine law_calls tys_ok Tryd.func7 (c := lope.body) (by kernel_rfl) hg lam0 (l := []) (args := [.o (.a (.v (.slice a 0 0))), cB32.enc b]) (r := cBool.enc true) ?_ ?_ rfl ?_
    · intro i bb hbb; cases hbb
    · intro z hz k hk
      simp only [List.mem_cons, List.not_mem_nil, or_false] at hz
      rcases hz with rfl | rfl <;> cases hk
    · exact lope.runN b a hb
  | win vs n c ty L =>
    obtain ⟨g1, g2, g3, g4, fr, pre, tail, g5, g6⟩ := hx
    obtain ⟨l, rfl, hn, hl⟩ := split_rows (f := Lf.vals) (sz := 64) (R := LOk) n vs g1 hx2
    have hr : n ≤ 1048576 := hr
    refine law_calls tys_ok Tryd.func7 (c := lope.body) (by kernel_rfl) hg (fun _ => L) (l := [⟨false, ty, .prv (lvals l)⟩]) (args := [.o (.a (.sld 0 0 0 n c)), cB32.enc b]) (r := cBool.enc true) ?_ ?_ rfl ?_
    · intro i bb hbb
      match i, hbb with
      | 0, hbb => cases hbb; exact ⟨rfl, rfl, fr, pre, _, g5, g6, ⟨tail, rfl⟩⟩
      | i + 1, hbb => cases hbb
    · intro z hz k hk
      simp only [List.mem_cons, List.not_mem_nil, or_false] at hz
      rcases hz with rfl | rfl
      · simp [SV.ids, SV1.ids, Atom.ids] at hk; subst hk; exact Nat.one_pos
      · cases hk
    · exact lope.run l n c ty b hn (by omega) (fun _ => roomLf n (by omega)) g2 hl hb
end Go.Proofs.YtdccehmekkcheaaDoor

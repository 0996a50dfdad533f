/- The law LabelValues: its argument opened, its content. -/
import Derived.Test.YthlmepolmemejaaDoorDDvL
import Derived.Test.YthlmepolmemejaaDoorDTrD
namespace Go.Proofs.YthlmepolmemejaaDoor
open Go Go.Eng Go.RowKit
set_option linter.unusedVariables false
set_option linter.unusedSimpArgs false
set_option maxRecDepth 100000
abbrev DvIs (cs : List Value) : Prop := ∃ b : B32, cs = bvals b ∧ BOk b
section
variable {H : Type} {enc : TypeId × Value → H} {w : World} {base : Nat} {held : Bool} {r : Reach} {b0 : Nat} {v : Value} {d : DataW H} {ps : List MemPlace}
theorem open_devs (hval : Value.okWide Tryd.prog w r b0 22 v) (hd : DataW.Trod enc Tryd.prog w base (fun _ => true) held 22 v d ps) : ∃ x : VArg, v = x.val ∧ (x.ok 32 w ∧ x.each 32 DvIs) := by
  have hc : Tryd.prog.cellsOf 24 = 32 := by kernel_rfl
  obtain ⟨x, h1, h2, h3⟩ := open_varg (Q := DvIs) Tryd.underlying22 (by omega) (fun fuel cs x hx => by
    obtain ⟨zs, g1, g2, _, g4⟩ := trod_flat 5 fuel 24 (List.replicate 32 .u8) cs x (by kernel_rfl) hx
    have g2 : zs.length = 32 := by rw [g2]; rfl
    obtain ⟨b, rfl, hb⟩ := b32_of_list zs g2 (wfK_rep g2 g4)
    exact ⟨b, by rw [g1, valK_rep g2]; rfl, hb⟩) hval hd
  rw [hc] at h2 h3
  exact ⟨x, h1, h2, h3⟩
end
theorem lvl_ok (x0 : VArg) (W : World) (h0 : x0.ok 32 W ∧ x0.each 32 DvIs) (r0 : x0.n * 32 ≤ 140737488351232) (hg : GlobOk GT W) :
    Calls Tryd.prog 3 #[x0.val] W fun e W' => e = .returned (.bool true) ∧ Below W.heap.size W W' := by
  obtain ⟨h0, e0⟩ := h0
  cases x0 with
  | none a0 =>
    refine law_calls tys_ok Tryd.func3 (c := lvl.body) (by kernel_rfl) hg lam0 (l := []) (args := [.o (.a (.v (.slice a0 0 0)))]) (r := cBool.enc true) ?_ ?_ rfl ?_
    · intro i bb hbb; cases hbb
    · intro z hz k hk
      simp only [List.mem_cons, List.not_mem_nil, or_false] at hz
      subst hz
      cases hk
    · exact lvl.n.run valV rfl _ rfl a0
  | win vs0 n0 c0 ty0 L0 =>
    obtain ⟨g10, g20, g30, g40, fr0, pre0, tail0, g50, g60⟩ := h0
    obtain ⟨l0, rfl, hn0, hl0⟩ := split_rows (f := bvals) (sz := 32) (R := BOk) n0 vs0 g10 e0
    have r0 : n0 * 32 ≤ 140737488351232 := r0
    refine law_calls tys_ok Tryd.func3 (c := lvl.body) (by kernel_rfl) hg (fun _ => L0) (l := [⟨false, ty0, .prv (wvals l0)⟩]) (args := [.o (.a (.sld 0 0 0 n0 c0))]) (r := cBool.enc true) ?_ ?_ rfl ?_
    · intro i bb hbb
      match i, hbb with
      | 0, hbb => cases hbb; exact ⟨rfl, rfl, fr0, pre0, _, g50, g60, ⟨tail0, rfl⟩⟩
      | i + 1, hbb => cases hbb
    · intro z hz k hk
      simp only [List.mem_cons, List.not_mem_nil, or_false] at hz
      subst hz
      simp [SV.ids, SV1.ids, Atom.ids] at hk
      subst hk
      show 0 < 1
      omega
    · rcases Nat.eq_zero_or_pos n0 with z0 | z0
      · subst z0
        obtain rfl := List.eq_nil_of_length_eq_zero hn0
        exact lvl.z.run valV rfl _ rfl c0 ty0
      · exact lvl.w.run valV rfl _ rfl l0 n0 c0 ty0 hn0 g20 (by omega) z0 hl0
end Go.Proofs.YthlmepolmemejaaDoor

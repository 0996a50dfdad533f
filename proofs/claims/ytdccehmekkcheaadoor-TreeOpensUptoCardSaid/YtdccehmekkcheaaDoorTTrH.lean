/- Packages tree, beaconref11: a node is good, a node holds a label: contracts of both sides. -/
import Derived.Test.YtdccehmekkcheaaDoorTTrG
namespace Go.Proofs.YtdccehmekkcheaaDoor
open Go Go.Eng Go.RowKit
set_option linter.unusedVariables false
set_option linter.unusedSimpArgs false
set_option maxRecDepth 100000
namespace tgood
noncomputable abbrev fn := Tryd.f30
noncomputable def Γ : Cons Tryd.prog GT := [tfst.con]
theorem neg (n : Nd) : runOut Γ tys fn 100 [cNd.enc n] [(5, [.b false])] = some (cBool.enc false, [decide (n.len ≥ 0) = false]) := by kernel_rfl
theorem big (n : Nd) : runOut Γ tys fn 100 [cNd.enc n] [(5, [.b true]), (9, [.b false])] = some (cBool.enc false, [decide (n.len ≥ 0) = true, decide (n.len ≤ 256) = false]) := by kernel_rfl
theorem std (n : Nd) (f : B32) (r : Bool) : runOut Γ tys fn 100 [cNd.enc n] [(5, [.b true]), (9, [.b true]), (16, [.s (cB32.enc f)]), (19, [.b r])] = some (cBool.enc r, [decide (n.len ≥ 0) = true, decide (n.len ≤ 256) = true, BOk n.pre, 0 ≤ n.len, n.len ≤ 256, cB32.enc (fstV n.pre n.len.toNat) = cB32.enc f, eqB f n.pre = r]) := by kernel_rfl
noncomputable def con : Con Tryd.prog GT := con1 30 fn Tryd.func30 (by kernel_rfl) (by kernel_rfl) cNd (fun n => cBool.enc (goodV n)) (fun n => [BOk n.pre]) (fun _ => rfl) fun n h => by
  obtain ⟨hb, _⟩ := h
  unfold goodV
  by_cases h0 : 0 ≤ n.len
  · by_cases h1 : n.len ≤ 256
    · rw [decide_eq_true h0, decide_eq_true h1, Bool.true_and, Bool.true_and]
      exact FnOk.of_out tys_ok mixed Tryd.func30 (std n _ _) ⟨decide_eq_true h0, decide_eq_true h1, hb, h0, h1, rfl, rfl, trivial⟩ rfl rfl
    · rw [decide_eq_true h0, decide_eq_false h1, Bool.true_and, Bool.false_and]
      exact FnOk.of_out tys_ok mixed Tryd.func30 (big n) ⟨decide_eq_true h0, decide_eq_false h1, trivial⟩ rfl rfl
  · rw [decide_eq_false h0, Bool.false_and]
    exact FnOk.of_out tys_ok mixed Tryd.func30 (neg n) ⟨decide_eq_false h0, trivial⟩ rfl rfl
end tgood
namespace rgood
noncomputable abbrev fn := Tryd.f31
noncomputable def Γ : Cons Tryd.prog GT := [rfst.con]
theorem neg (n : Nd) : runOut Γ tys fn 100 [cNd.enc n] [(5, [.b false])] = some (cBool.enc false, [decide (n.len ≥ 0) = false]) := by kernel_rfl
theorem big (n : Nd) : runOut Γ tys fn 100 [cNd.enc n] [(5, [.b true]), (9, [.b false])] = some (cBool.enc false, [decide (n.len ≥ 0) = true, decide (n.len ≤ 256) = false]) := by kernel_rfl
theorem std (n : Nd) (f : B32) (r : Bool) : runOut Γ tys fn 100 [cNd.enc n] [(5, [.b true]), (9, [.b true]), (16, [.s (cB32.enc f)]), (19, [.b r])] = some (cBool.enc r, [decide (n.len ≥ 0) = true, decide (n.len ≤ 256) = true, BOk n.pre, 0 ≤ n.len, n.len ≤ 256, cB32.enc (fstV n.pre n.len.toNat) = cB32.enc f, eqB f n.pre = r]) := by kernel_rfl
noncomputable def con : Con Tryd.prog GT := con1 31 fn Tryd.func31 (by kernel_rfl) (by kernel_rfl) cNd (fun n => cBool.enc (goodV n)) (fun n => [BOk n.pre]) (fun _ => rfl) fun n h => by
  obtain ⟨hb, _⟩ := h
  unfold goodV
  by_cases h0 : 0 ≤ n.len
  · by_cases h1 : n.len ≤ 256
    · rw [decide_eq_true h0, decide_eq_true h1, Bool.true_and, Bool.true_and]
      exact FnOk.of_out tys_ok mixed Tryd.func31 (std n _ _) ⟨decide_eq_true h0, decide_eq_true h1, hb, h0, h1, rfl, rfl, trivial⟩ rfl rfl
    · rw [decide_eq_true h0, decide_eq_false h1, Bool.true_and, Bool.false_and]
      exact FnOk.of_out tys_ok mixed Tryd.func31 (big n) ⟨decide_eq_true h0, decide_eq_false h1, trivial⟩ rfl rfl
  · rw [decide_eq_false h0, Bool.false_and]
    exact FnOk.of_out tys_ok mixed Tryd.func31 (neg n) ⟨decide_eq_false h0, trivial⟩ rfl rfl
end rgood
namespace tholds
noncomputable abbrev fn := Tryd.f32
noncomputable def Γ : Cons Tryd.prog GT := [tgood.con, tcom.con]
theorem no (n : Nd) (x : B32) : runOut Γ tys fn 100 [cNd.enc n, cB32.enc x] [(6, [.s (cBool.enc false)])] = some (cBool.enc false, [BOk n.pre, cBool.enc (goodV n) = cBool.enc false]) := by kernel_rfl
theorem std (n : Nd) (x : B32) (c : Int) (r : Bool) : runOut Γ tys fn 100 [cNd.enc n, cB32.enc x] [(6, [.s (cBool.enc true)]), (11, [.s (.o (.a (int1 .i64 c)))]), (14, [.b r])] = some (cBool.enc r, [BOk n.pre, cBool.enc (goodV n) = cBool.enc true, BOk n.pre, BOk x, (cInt .i64).enc (comV n.pre x : Nat) = (cInt .i64).enc c, decide (c ≥ n.len) = r]) := by kernel_rfl
noncomputable def con : Con Tryd.prog GT := con2 32 fn Tryd.func32 (by kernel_rfl) (by kernel_rfl) cNd cB32 (fun n x => cBool.enc (holdsV n x)) (fun n x => [BOk n.pre, BOk x]) (fun _ _ => rfl) fun n x h => by
  obtain ⟨hb, hx, _⟩ := h
  unfold holdsV
  cases hg : goodV n with
  | false =>
    rw [Bool.false_and]
    exact FnOk.of_out tys_ok mixed Tryd.func32 (no n x) ⟨hb, by rw [hg], trivial⟩ rfl rfl
  | true =>
    rw [Bool.true_and]
    exact FnOk.of_out tys_ok mixed Tryd.func32 (std n x _ _) ⟨hb, by rw [hg], hb, hx, rfl, rfl, trivial⟩ rfl rfl
end tholds
namespace rholds
noncomputable abbrev fn := Tryd.f28
noncomputable def Γ : Cons Tryd.prog GT := [rgood.con, rcom.con]
theorem no (n : Nd) (x : B32) : runOut Γ tys fn 100 [cNd.enc n, cB32.enc x] [(6, [.s (cBool.enc false)])] = some (cBool.enc false, [BOk n.pre, cBool.enc (goodV n) = cBool.enc false]) := by kernel_rfl
theorem std (n : Nd) (x : B32) (c : Int) (r : Bool) : runOut Γ tys fn 100 [cNd.enc n, cB32.enc x] [(6, [.s (cBool.enc true)]), (13, [.s (.o (.a (int1 .i64 c)))]), (16, [.b r])] = some (cBool.enc r, [BOk n.pre, cBool.enc (goodV n) = cBool.enc true, BOk n.pre, BOk x, 0 ≤ n.len, n.len ≤ 256, (cInt .i64).enc ((min n.len.toNat (comV n.pre x) : Nat) : Int) = (cInt .i64).enc c, (c == n.len) = r]) := by kernel_rfl
noncomputable def con : Con Tryd.prog GT := con2 28 fn Tryd.func28 (by kernel_rfl) (by kernel_rfl) cNd cB32 (fun n x => cBool.enc (holdsV n x)) (fun n x => [BOk n.pre, BOk x]) (fun _ _ => rfl) fun n x h => by
  obtain ⟨hb, hx, _⟩ := h
  unfold holdsV
  cases hg : goodV n with
  | false =>
    rw [Bool.false_and]
    exact FnOk.of_out tys_ok mixed Tryd.func28 (no n x) ⟨hb, by rw [hg], trivial⟩ rfl rfl
  | true =>
    have g := (good_iff n).1 hg
    have h0 := g.lo
    have h1 := g.hi
    rw [Bool.true_and]
    refine FnOk.of_out tys_ok mixed Tryd.func28 (std n x _ _) ⟨hb, by rw [hg], hb, hx, h0, h1, rfl, ?_, trivial⟩ rfl rfl
    rw [Bool.eq_iff_iff, beq_iff_eq, decide_eq_true_eq]
    omega
end rholds
end Go.Proofs.YtdccehmekkcheaaDoor

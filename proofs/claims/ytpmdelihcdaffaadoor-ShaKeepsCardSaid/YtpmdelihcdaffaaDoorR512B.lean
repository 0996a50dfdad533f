/- Package beaconref01: Sum512: its loops; its contract. -/
import Derived.Test.YtpmdelihcdaffaaDoorR512A
namespace Go.Proofs.YtpmdelihcdaffaaDoor
open Go Go.Eng Go.RowKit
set_option linter.unusedVariables false
set_option maxRecDepth 100000

theorem wordG_take (zs : List Int) : ∀ i, i ≤ zs.length → wordG zs i = wordV (zs.take i)
  | 0, _ => by rw [List.take_zero]; rfl
  | i + 1, h => by
    unfold wordV
    rw [List.length_take, Nat.min_eq_left h]
    have : ∀ j, j ≤ i + 1 → wordG zs j = wordG (zs.take (i + 1)) j := by
      intro j
      induction j with
      | zero => intro _; rfl
      | succ j ih =>
        intro hj
        rw [wordG, wordG, ih (by omega)]
        congr 1
        simp only [List.getD, List.getElem?_take, if_pos (show j < i + 1 by omega)]
    exact this _ (Nat.le_refl _)
theorem comp_row (H : E8) (ys : List Int) : rowD (comp6 H.at (sch6 ys)) = rowE (blkD H ys) := by
  rw [← rowD_E]
  unfold rowD blkD
  simp only [E8.at_mk _ 0 (by omega), E8.at_mk _ 1 (by omega), E8.at_mk _ 2 (by omega), E8.at_mk _ 3 (by omega), E8.at_mk _ 4 (by omega), E8.at_mk _ 5 (by omega), E8.at_mk _ 6 (by omega), E8.at_mk _ 7 (by omega)]
section
variable {Post : Ex → List SV → List Blk → Prop}
theorem r512_win_inner (ys : List Int) (ty : TypeId) (len at_ lo : Nat) (xs : List Int) (h x : Nat → Int) (t : Nat) (ht : t < 16) (hl : xs.length = len) (ha : at_ + 128 ≤ len) (hs : len ≤ 140737488358400) (hx0 : x t = 0)
    (hp : ∀ g y, (∀ j, j ≠ t → y j = x j) → y t = wordV (((xs.drop at_).drop (8 * t)).take 8) → Post .normal (fill g 0 (r512.win.M2 len at_ t)) (r512.win.memW ys ty xs lo h y)) (g : Nat → SV) :
    RunsF Tryd.prog G2 1 (.block 4 (.loop r512.LI)) (fill g 0 (r512.win.MI len at_ t 0)) (r512.win.memW ys ty xs lo h x) Post := by
  refine Runs.block ?_
  refine Runs.loopX (fun (p : Nat × (Nat → Int)) => r512.win.MI len at_ t p.1) (fun p => r512.win.memW ys ty xs lo h p.2) (fun p => p.1 ≤ 8 ∧ (∀ j, j ≠ t → p.2 j = x j) ∧ p.2 t = wordG ((xs.drop at_).drop (8 * t)) p.1) (fun p => 8 - p.1) ?_ (0, x) ⟨Nat.zero_le _, fun _ _ => rfl, hx0⟩ g
  rintro ⟨i, y⟩ g ⟨hi, hy, hyt⟩
  simp only at hi hy hyt
  by_cases hlt : i < 8
  · refine Runs.of_outX tys_ok mixed (r512.win.stepI ys ty len at_ lo xs h y t i (y t) (xs.getD (at_ + 8 * t + i) 0) (wordS (y t) (xs.getD (at_ + 8 * t + i) 0)) g)
      ⟨decide_eq_true (by omega), by omega, by omega, by rw [restL_length]; omega, restL_get8 y t (by omega), i64n (by omega) (by omega), i64n (by omega) (by omega), i64n (by omega) (by omega), by omega, by omega, by omega, by rw [Nat.zero_add], rfl, by omega, by omega, by rw [restL_length]; omega, i64n (by omega) (by omega), trivial⟩
      (r512.win.idsI ys ty _ _ _ _ _ _ _ _) rfl fun g' => ⟨(i + 1, putF (0 + t) [wordS (y t) (xs.getD (at_ + 8 * t + i) 0)] y), g', rfl, rfl, ⟨hlt, fun j hj => ?_, ?_⟩, by simp only; omega⟩
    · simp only
      rw [putF_one, if_neg (by omega)]
      exact hy j hj
    · simp only
      rw [putF_one, if_pos (by omega), hyt, wordG]
      congr 1
      simp only [List.getD, List.getElem?_drop]
      rw [show at_ + (8 * t + i) = at_ + 8 * t + i by omega]
  · obtain rfl : i = 8 := by omega
    refine Runs.of_outX tys_ok mixed (r512.win.endI ys ty len at_ lo xs h y t 8 g) ⟨by decide, trivial⟩ (r512.win.ids2 ys ty _ _ _ _ _ _ _) rfl fun g' => hp g' y hy ?_
    rw [hyt]
    exact wordG_take _ 8 (by simp only [List.length_drop]; omega)
theorem r512_win_loop2 (ys : List Int) (ty : TypeId) (len at_ lo : Nat) (xs : List Int) (h W x : Nat → Int) (hl : xs.length = len) (ha : at_ + 128 ≤ len) (hs : len ≤ 140737488358400) (hW : ∀ t, t < 16 → wordV (((xs.drop at_).drop (8 * t)).take 8) = W t) (hz : ∀ j, x j = 0)
    (hp : ∀ g x, (∀ j, j < 16 → x j = W j) → Post .normal (fill g 0 (r512.win.M7 len at_)) (r512.win.memW ys ty xs lo h x)) (g : Nat → SV) :
    RunsF Tryd.prog G2 1 (.block 2 (.loop r512.L2)) (fill g 0 (r512.win.M2 len at_ 0)) (r512.win.memW ys ty xs lo h x) Post := by
  refine Runs.block ?_
  refine Runs.loopX (fun (p : Nat × (Nat → Int)) => r512.win.M2 len at_ p.1) (fun p => r512.win.memW ys ty xs lo h p.2) (fun p => p.1 ≤ 16 ∧ (∀ j, j < p.1 → p.2 j = W j) ∧ ∀ j, p.1 ≤ j → p.2 j = 0) (fun p => 16 - p.1) ?_ (0, x) ⟨Nat.zero_le _, fun j hj => by simp only at hj; omega, fun j _ => hz j⟩ g
  rintro ⟨t, x⟩ g ⟨ht, hx, hr⟩
  simp only at ht hx hr
  by_cases hlt : t < 16
  · refine Runs.of_outXP tys_ok mixed 2 (r512.win.go2 ys ty len at_ lo xs h x t g) ⟨decide_eq_true (by omega), trivial⟩ (r512.win.ids2 ys ty _ _ _ _ _ _ _) rfl fun g1 => ?_
    rw [r512.L2_suf]
    refine Runs.seq (Runs.block ?_)
    refine Runs.of_outXP tys_ok mixed 2 (r512.win.i2 ys ty len at_ lo xs h x t g1) trivial (r512.win.idsI ys ty _ _ _ _ _ _ _ _) rfl fun g2 => ?_
    rw [r512.I2_suf]
    refine r512_win_inner ys ty len at_ lo xs h x t hlt hl ha hs (hr t (Nat.le_refl _)) (fun g3 y hy hyt => ?_) g2
    refine Runs.of_outX tys_ok mixed (r512.win.p16 ys ty len at_ lo xs h y t g3) ⟨i64n (by omega) (by omega), trivial⟩ (r512.win.ids2 ys ty _ _ _ _ _ _ _) rfl fun g4 => ⟨(t + 1, y), g4, rfl, rfl, ⟨hlt, fun j hj => ?_, fun j hj => ?_⟩, by simp only; omega⟩
    · simp only at hj ⊢
      by_cases e : j = t
      · rw [e, hyt]; exact hW t hlt
      · rw [hy j e]; exact hx j (by omega)
    · simp only at hj ⊢
      rw [hy j (by omega)]; exact hr j (by omega)
  · obtain rfl : t = 16 := by omega
    exact Runs.of_outX tys_ok mixed (r512.win.end2 ys ty len at_ lo xs h x 16 g) ⟨by decide, trivial⟩ (r512.win.ids7 ys ty _ _ _ _ _ _) rfl fun g' => hp g' x hx
theorem r512_win_loop3 (ys : List Int) (ty : TypeId) (len at_ lo : Nat) (xs : List Int) (h W x : Nat → Int) (hS : ∀ t, t < 64 → sched6 (W (t + 14)) (W (t + 1)) (W (t + 9)) (W t) = W (t + 16)) (hx0 : ∀ j, j < 16 → x j = W j)
    (hp : ∀ g x, (∀ j, j < 80 → x j = W j) → Post .normal (fill g 0 (r512.win.M7 len at_)) (r512.win.memW ys ty xs lo h x)) (g : Nat → SV) :
    RunsF Tryd.prog G2 1 (.block 6 (.loop r512.L3)) (fill g 0 (r512.win.M3 len at_ 16)) (r512.win.memW ys ty xs lo h x) Post := by
  refine Runs.block ?_
  refine Runs.loopX (fun (p : Nat × (Nat → Int)) => r512.win.M3 len at_ (p.1 + 16)) (fun p => r512.win.memW ys ty xs lo h p.2) (fun p => p.1 ≤ 64 ∧ ∀ j, j < p.1 + 16 → p.2 j = W j) (fun p => 64 - p.1) ?_ (0, x) ⟨Nat.zero_le _, fun j hj => hx0 j (by simpa using hj)⟩ g
  rintro ⟨t, x⟩ g ⟨ht, hx⟩
  simp only at ht hx
  by_cases hlt : t < 64
  · have w14 : IntKind.i64.wrap (((t + 16 : Nat) : Int) - 2) = ((t + 14 : Nat) : Int) := i64n (by omega) (by omega)
    have w1 : IntKind.i64.wrap (((t + 16 : Nat) : Int) - 15) = ((t + 1 : Nat) : Int) := i64n (by omega) (by omega)
    have w9 : IntKind.i64.wrap (((t + 16 : Nat) : Int) - 7) = ((t + 9 : Nat) : Int) := i64n (by omega) (by omega)
    have w0 : IntKind.i64.wrap (((t + 16 : Nat) : Int) - 16) = ((t : Nat) : Int) := i64n (by omega) (by omega)
    have ld : ∀ e : Nat, e < 80 → 0 ≤ (e : Int) ∧ (e : Int) < ((80 : Nat) : Int) ∧ 0 + e < (restL x 0 80).length := fun e he => ⟨by omega, by omega, by rw [restL_length]; omega⟩
    have r : ∀ e : Nat, e < t + 16 → (restL x 0 80).getD (0 + e) 0 = W e := fun e he => by rw [restL_get8 x e (by omega)]; exact hx e he
    have a1 := ld (t + 14) (by omega)
    have a2 := r (t + 14) (by omega)
    have b1 := ld (t + 1) (by omega)
    have b2 := r (t + 1) (by omega)
    have c1 := ld (t + 9) (by omega)
    have c2 := r (t + 9) (by omega)
    have d1 := ld t (by omega)
    have d2 := r t (by omega)
    refine Runs.of_outX tys_ok mixed (r512.win.step3 ys ty len at_ lo xs h x t (W (t + 14)) (W (t + 1)) (W (t + 9)) (W t) (W (t + 16)) g)
      ⟨decide_eq_true (by omega), w14, a1.1, a1.2.1, a1.2.2, a2, w14, a1.1, a1.2.1, a1.2.2, a2, w14, a1.1, a1.2.1, a1.2.2, a2, w1, b1.1, b1.2.1, b1.2.2, b2, w1, b1.1, b1.2.1, b1.2.2, b2, w1, b1.1, b1.2.1, b1.2.2, b2,
       w9, c1.1, c1.2.1, c1.2.2, c2, w0, d1.1, d1.2.1, d1.2.2, d2, hS t hlt, by omega, by omega, by rw [restL_length]; omega, i64n (by omega) (by omega), trivial⟩ (r512.win.ids3 ys ty _ _ _ _ _ _ _) rfl fun g' => ⟨(t + 1, putF (0 + (t + 16)) [W (t + 16)] x), g', rfl, rfl, ⟨hlt, fun j hj => ?_⟩, by simp only; omega⟩
    simp only at hj ⊢
    rw [putF_one]
    by_cases e : j = 0 + (t + 16)
    · rw [if_pos e, e, Nat.zero_add]
    · rw [if_neg e]; exact hx j (by omega)
  · obtain rfl : t = 64 := by omega
    exact Runs.of_outX tys_ok mixed (r512.win.end3 ys ty len at_ lo xs h x 80 g) ⟨by decide, trivial⟩ (r512.win.ids7 ys ty _ _ _ _ _ _) rfl fun g' => hp g' x hx
theorem r512_win_loop4 (ys : List Int) (ty : TypeId) (len at_ lo : Nat) (xs : List Int) (h W x : Nat → Int) (hx : ∀ j, j < 80 → x j = W j) (hp : ∀ g, Post .normal (fill g 0 (r512.win.M19 len at_)) (r512.win.memS ys ty xs lo h x (rounds6 h W 80))) (g : Nat → SV) :
    RunsF Tryd.prog G2 1 (.block 8 (.loop r512.L4)) (fill g 0 (r512.win.M4 len at_ 0)) (r512.win.memS ys ty xs lo h x h) Post := by
  refine Runs.block ?_
  refine Runs.loopX (fun (t : Nat) => r512.win.M4 len at_ t) (fun t => r512.win.memS ys ty xs lo h x (rounds6 h W t)) (fun t => t ≤ 80) (fun t => 80 - t) ?_ 0 (Nat.zero_le _) g
  intro t g ht
  by_cases hlt : t < 80
  · exact Runs.of_outX tys_ok mixed (r512.win.step4 ys ty len at_ lo xs h x (rounds6 h W t) t (k512L.getD t 0) (W t) g)
      ⟨decide_eq_true (by omega), by omega, by omega, by show 0 + t < 80; omega, by rw [Nat.zero_add], by omega, by omega, by rw [restL_length]; omega, by rw [restL_get8 x t hlt]; exact hx t hlt, i64n (by omega) (by omega), trivial⟩ (r512.win.ids4 ys ty _ _ _ _ _ _ _ _) rfl fun g' => ⟨t + 1, g', rfl, rfl, hlt, by omega⟩
  · obtain rfl : t = 80 := by omega
    exact Runs.of_outX tys_ok mixed (r512.win.end4 ys ty len at_ lo xs h x _ 80 g) ⟨by decide, trivial⟩ (r512.win.ids19 ys ty _ _ _ _ _ _ _) rfl hp
theorem r512_win_loop5 (ys : List Int) (ty : TypeId) (len at_ lo : Nat) (xs : List Int) (h x s : Nat → Int) (hp : ∀ g, Post .normal (fill g 0 (r512.win.MH len at_)) (r512.win.memH ys ty xs lo (fun i => addD (h i) (s i)))) (g : Nat → SV) :
    RunsF Tryd.prog G2 1 (.block 10 (.loop r512.L5)) (fill g 0 (r512.win.M5 len at_ 0)) (r512.win.memS ys ty xs lo (dblk.sumD h s 0) x s) Post := by
  refine Runs.block ?_
  refine Runs.loopX (fun (t : Nat) => r512.win.M5 len at_ t) (fun t => r512.win.memS ys ty xs lo (dblk.sumD h s t) x s) (fun t => t ≤ 8) (fun t => 8 - t) ?_ 0 (Nat.zero_le _) g
  intro t g ht
  by_cases hlt : t < 8
  · exact Runs.of_outX tys_ok mixed (tab_get (r512.win.tab5 ys ty len at_ lo xs h x s g) t hlt) trivial (r512.win.ids5 ys ty _ _ _ _ _ _ _ _) rfl fun g' => ⟨t + 1, g', rfl, rfl, hlt, by omega⟩
  · obtain rfl : t = 8 := by omega
    exact Runs.of_outX tys_ok mixed (r512.win.end5 ys ty len at_ lo xs h x s g) trivial (r512.win.idsH ys ty _ _ _ _ _) rfl hp
theorem r512_win_block (ys : List Int) (ty : TypeId) (len at_ lo : Nat) (xs : List Int) (H : E8) (hl : xs.length = len) (ha : at_ + 128 ≤ len) (hs : len ≤ 140737488358400)
    (hp : ∀ g, Post .normal (fill g 0 (r512.win.MH len at_)) (r512.win.memH ys ty xs lo (blkD H (xs.drop at_)).at)) (g : Nat → SV) :
    RunsF Tryd.prog G2 1 (.block 1 (.seq r512.A7 (.seq (.seq r512.A8 (.block 2 (.loop r512.L2))) (.seq (.seq r512.A13 (.block 6 (.loop r512.L3))) (.seq r512.A19 (.seq (.seq r512.A20 (.block 8 (.loop r512.L4))) (.seq r512.A28 (.block 10 (.loop r512.L5))))))))) (fill g 0 (r512.win.MH len at_)) (r512.win.memH ys ty xs lo H.at) Post := by
  have hS := sch6_sched (xs.drop at_)
  refine Runs.block ?_
  refine Runs.seq (Runs.of_outX tys_ok mixed (r512.win.p7 ys ty len at_ lo xs H.at g) trivial (r512.win.ids7 ys ty _ _ _ _ _ _) rfl fun g => ?_)
  refine Runs.seq (Runs.seq (Runs.of_outX tys_ok mixed (r512.win.p8 ys ty len at_ lo xs H.at _ g) trivial (r512.win.ids2 ys ty _ _ _ _ _ _ _) rfl fun g => ?_))
  refine r512_win_loop2 ys ty len at_ lo xs H.at (sch6 (xs.drop at_)) _ hl ha hs hS.1 (fun _ => rfl) (fun g x hx => ?_) g
  refine Runs.seq (Runs.seq (Runs.of_outX tys_ok mixed (r512.win.p13 ys ty len at_ lo xs H.at _ g) trivial (r512.win.ids3 ys ty _ _ _ _ _ _ _) rfl fun g => ?_))
  refine r512_win_loop3 ys ty len at_ lo xs H.at _ x hS.2 hx (fun g x hx => ?_) g
  refine Runs.seq (Runs.of_outX tys_ok mixed (r512.win.p19 ys ty len at_ lo xs H.at _ g) trivial (r512.win.ids19 ys ty _ _ _ _ _ _ _) rfl fun g => ?_)
  refine Runs.seq (Runs.seq (Runs.of_outX tys_ok mixed (r512.win.p20 ys ty len at_ lo xs H.at _ _ g) trivial (r512.win.ids4 ys ty _ _ _ _ _ _ _ _) rfl fun g => ?_))
  refine r512_win_loop4 ys ty len at_ lo xs H.at _ x hx (fun g => ?_) g
  refine Runs.seq (Runs.of_outX tys_ok mixed (r512.win.p28 ys ty len at_ lo xs H.at _ _ g) trivial (r512.win.ids5 ys ty _ _ _ _ _ _ _ _) rfl fun g => ?_)
  refine r512_win_loop5 ys ty len at_ lo xs H.at x _ (fun g => ?_) g
  have e : r512.win.memH ys ty xs lo (blkD H (xs.drop at_)).at = r512.win.memH ys ty xs lo (fun i => addD (H.at i) (rounds6 H.at (sch6 (xs.drop at_)) 80 i)) := by
    have := (comp_row H (xs.drop at_)).trans (rowD_E _).symm
    unfold r512.win.memH
    rw [← this]
    rfl
  rw [← e]
  exact hp g
theorem r512_win_great (ys : List Int) (ty : TypeId) (nb lo : Nat) (xs : List Int) (hl : xs.length = 128 * nb) (hs : nb ≤ 1099511627800)
    (hp : ∀ g, Post .normal (fill g 0 (r512.win.MH (128 * nb) (128 * nb))) (r512.win.memH ys ty xs lo (blocksD initD xs nb).at)) (g : Nat → SV) :
    RunsF Tryd.prog G2 1 (.block 0 (.loop r512.LL)) (fill g 0 (r512.win.MH (128 * nb) (128 * 0))) (r512.win.memH ys ty xs lo (blocksD initD xs 0).at) Post := by
  refine Runs.block ?_
  refine Runs.loopX (fun (i : Nat) => r512.win.MH (128 * nb) (128 * i)) (fun i => r512.win.memH ys ty xs lo (blocksD initD xs i).at) (fun i => i ≤ nb) (fun i => nb - i) ?_ 0 (Nat.zero_le _) g
  intro i g hi
  rw [r512.LL_eq]
  by_cases hlt : i < nb
  · refine Runs.seq (Runs.of_outX tys_ok mixed (r512.win.go ys ty (128 * nb) (128 * i) lo xs _ g) ⟨decide_eq_true (by omega), trivial⟩ (r512.win.idsH ys ty _ _ _ _ _) rfl fun g => ?_)
    refine Runs.seq (r512_win_block ys ty (128 * nb) (128 * i) lo xs _ hl (by omega) (by omega) (fun g => ?_) g)
    exact Runs.of_outX tys_ok mixed (r512.win.p6 ys ty (128 * nb) (128 * i) lo xs _ g) ⟨i64n (by omega) (by omega), trivial⟩ (r512.win.idsH ys ty _ _ _ _ _) rfl fun g' => ⟨i + 1, g', rfl, rfl, hlt, by omega⟩
  · obtain rfl : i = nb := by omega
    exact Runs.seq (Runs.of_outX tys_ok mixed (r512.win.stop ys ty (128 * i) (128 * i) lo xs _ g) ⟨decide_eq_false (by omega), trivial⟩ (r512.win.idsH ys ty _ _ _ _ _) rfl fun g => hp g)
theorem r512_win_run (ys : List Int) (n c : Nat) (ty : TypeId) (hy : ys.length = n) (hc : n ≤ c) (hn : n ≤ 140737488354000) : RunsF Tryd.prog G2 1 r512.body (startT r512.fn [.o (.a (.sld 0 0 0 n c))]) [⟨false, ty, .pre .u8 ys⟩] (EndsM tys r512.fn (endsQ (cB64.enc (s512V ys)) .none)) := by
  have hL := padR_length ys 128 16
  have hy0 : (ys : List Int).length ≤ 140737488354000 := by first | (rw [hy]; exact hn) | exact Nat.zero_le _
  have hz : padZ (ys : List Int).length 128 16 < 128 := Nat.mod_lt _ (by decide)
  have hm : ((ys : List Int).length + 1 + padZ (ys : List Int).length 128 16 + 16) % 128 = 0 := by unfold padZ; omega
  have e : (ys.drop 0).take n = ys := by rw [List.drop_zero, List.take_of_length_le (by omega)]
  rw [r512.body_eq]
  refine Runs.seq (Runs.of_outX tys_ok mixed (r512.win.a0 ys ty n c) trivial (r512.win.idsN0 ys ty n c) rfl fun g => ?_)
  refine Runs.seq (Runs.of_outX tys_ok mixed (r512.win.a1 ys ty n c g) trivial (r512.win.idsN1 ys ty n c) rfl fun g => ?_)
  refine Runs.seq (Runs.of_outX tys_ok mixed (r512.win.a2 ys ty n c g) trivial (r512.win.idsN2 ys ty n c) rfl fun g => ?_)
  refine Runs.seq (Runs.of_outX tys_ok mixed (r512.win.a3 ys ty n c g) ⟨by omega, hc, hn, trivial⟩ (r512.win.idsN3 ys ty n c _ _ _) rfl fun g => ?_)
  show RunsF _ _ _ _ (fill g 0 (r512.win.N3 (padR ((ys.drop 0).take n) 128 16).length)) (r512.win.memH ys ty (padR ((ys.drop 0).take n) 128 16) (padR ((ys.drop 0).take n) 128 16).length initD.at) _
  rw [e]
  refine Runs.seq (Runs.seq (Runs.of_outX tys_ok mixed (r512.win.a4 ys ty _ _ _ g) trivial (r512.win.idsH ys ty _ _ _ _ _) rfl fun g => ?_))
  have hnb : (padR ys 128 16).length = 128 * ((padR ys 128 16).length / 128) := by omega
  have hg := r512_win_great (Post := fun e t m => match e with | .normal => RunsF Tryd.prog G2 1 r512.DD t m (EndsM tys r512.fn (endsQ (cB64.enc (s512V ys)) .none)) | .exit i => EndsM tys r512.fn (endsQ (cB64.enc (s512V ys)) .none) (.exit i) t m | .ret => EndsM tys r512.fn (endsQ (cB64.enc (s512V ys)) .none) .ret t m) ys ty ((padR ys 128 16).length / 128) (padR ys 128 16).length (padR ys 128 16) hnb (by omega) (fun g => Runs.of_exec tys_ok mixed (r512.win.d ys ty _ _ _ _ _ g) trivial (EndsM.ret (r512.win.res ys ty _ _ _ _ _ g) rfl)) g
  rw [← hnb] at hg
  exact hg
theorem r512_none_inner (len at_ lo : Nat) (xs : List Int) (h x : Nat → Int) (t : Nat) (ht : t < 16) (hl : xs.length = len) (ha : at_ + 128 ≤ len) (hs : len ≤ 140737488358400) (hx0 : x t = 0)
    (hp : ∀ g y, (∀ j, j ≠ t → y j = x j) → y t = wordV (((xs.drop at_).drop (8 * t)).take 8) → Post .normal (fill g 0 (r512.none.M2 len at_ t)) (r512.none.memW xs lo h y)) (g : Nat → SV) :
    RunsF Tryd.prog G2 0 (.block 4 (.loop r512.LI)) (fill g 0 (r512.none.MI len at_ t 0)) (r512.none.memW xs lo h x) Post := by
  refine Runs.block ?_
  refine Runs.loopX (fun (p : Nat × (Nat → Int)) => r512.none.MI len at_ t p.1) (fun p => r512.none.memW xs lo h p.2) (fun p => p.1 ≤ 8 ∧ (∀ j, j ≠ t → p.2 j = x j) ∧ p.2 t = wordG ((xs.drop at_).drop (8 * t)) p.1) (fun p => 8 - p.1) ?_ (0, x) ⟨Nat.zero_le _, fun _ _ => rfl, hx0⟩ g
  rintro ⟨i, y⟩ g ⟨hi, hy, hyt⟩
  simp only at hi hy hyt
  by_cases hlt : i < 8
  · refine Runs.of_outX tys_ok mixed (r512.none.stepI len at_ lo xs h y t i (y t) (xs.getD (at_ + 8 * t + i) 0) (wordS (y t) (xs.getD (at_ + 8 * t + i) 0)) g)
      ⟨decide_eq_true (by omega), by omega, by omega, by rw [restL_length]; omega, restL_get8 y t (by omega), i64n (by omega) (by omega), i64n (by omega) (by omega), i64n (by omega) (by omega), by omega, by omega, by omega, by rw [Nat.zero_add], rfl, by omega, by omega, by rw [restL_length]; omega, i64n (by omega) (by omega), trivial⟩
      (r512.none.idsI _ _ _ _ _ _ _ _) rfl fun g' => ⟨(i + 1, putF (0 + t) [wordS (y t) (xs.getD (at_ + 8 * t + i) 0)] y), g', rfl, rfl, ⟨hlt, fun j hj => ?_, ?_⟩, by simp only; omega⟩
    · simp only
      rw [putF_one, if_neg (by omega)]
      exact hy j hj
    · simp only
      rw [putF_one, if_pos (by omega), hyt, wordG]
      congr 1
      simp only [List.getD, List.getElem?_drop]
      rw [show at_ + (8 * t + i) = at_ + 8 * t + i by omega]
  · obtain rfl : i = 8 := by omega
    refine Runs.of_outX tys_ok mixed (r512.none.endI len at_ lo xs h y t 8 g) ⟨by decide, trivial⟩ (r512.none.ids2 _ _ _ _ _ _ _) rfl fun g' => hp g' y hy ?_
    rw [hyt]
    exact wordG_take _ 8 (by simp only [List.length_drop]; omega)
theorem r512_none_loop2 (len at_ lo : Nat) (xs : List Int) (h W x : Nat → Int) (hl : xs.length = len) (ha : at_ + 128 ≤ len) (hs : len ≤ 140737488358400) (hW : ∀ t, t < 16 → wordV (((xs.drop at_).drop (8 * t)).take 8) = W t) (hz : ∀ j, x j = 0)
    (hp : ∀ g x, (∀ j, j < 16 → x j = W j) → Post .normal (fill g 0 (r512.none.M7 len at_)) (r512.none.memW xs lo h x)) (g : Nat → SV) :
    RunsF Tryd.prog G2 0 (.block 2 (.loop r512.L2)) (fill g 0 (r512.none.M2 len at_ 0)) (r512.none.memW xs lo h x) Post := by
  refine Runs.block ?_
  refine Runs.loopX (fun (p : Nat × (Nat → Int)) => r512.none.M2 len at_ p.1) (fun p => r512.none.memW xs lo h p.2) (fun p => p.1 ≤ 16 ∧ (∀ j, j < p.1 → p.2 j = W j) ∧ ∀ j, p.1 ≤ j → p.2 j = 0) (fun p => 16 - p.1) ?_ (0, x) ⟨Nat.zero_le _, fun j hj => by simp only at hj; omega, fun j _ => hz j⟩ g
  rintro ⟨t, x⟩ g ⟨ht, hx, hr⟩
  simp only at ht hx hr
  by_cases hlt : t < 16
  · refine Runs.of_outXP tys_ok mixed 2 (r512.none.go2 len at_ lo xs h x t g) ⟨decide_eq_true (by omega), trivial⟩ (r512.none.ids2 _ _ _ _ _ _ _) rfl fun g1 => ?_
    rw [r512.L2_suf]
    refine Runs.seq (Runs.block ?_)
    refine Runs.of_outXP tys_ok mixed 2 (r512.none.i2 len at_ lo xs h x t g1) trivial (r512.none.idsI _ _ _ _ _ _ _ _) rfl fun g2 => ?_
    rw [r512.I2_suf]
    refine r512_none_inner len at_ lo xs h x t hlt hl ha hs (hr t (Nat.le_refl _)) (fun g3 y hy hyt => ?_) g2
    refine Runs.of_outX tys_ok mixed (r512.none.p16 len at_ lo xs h y t g3) ⟨i64n (by omega) (by omega), trivial⟩ (r512.none.ids2 _ _ _ _ _ _ _) rfl fun g4 => ⟨(t + 1, y), g4, rfl, rfl, ⟨hlt, fun j hj => ?_, fun j hj => ?_⟩, by simp only; omega⟩
    · simp only at hj ⊢
      by_cases e : j = t
      · rw [e, hyt]; exact hW t hlt
      · rw [hy j e]; exact hx j (by omega)
    · simp only at hj ⊢
      rw [hy j (by omega)]; exact hr j (by omega)
  · obtain rfl : t = 16 := by omega
    exact Runs.of_outX tys_ok mixed (r512.none.end2 len at_ lo xs h x 16 g) ⟨by decide, trivial⟩ (r512.none.ids7 _ _ _ _ _ _) rfl fun g' => hp g' x hx
theorem r512_none_loop3 (len at_ lo : Nat) (xs : List Int) (h W x : Nat → Int) (hS : ∀ t, t < 64 → sched6 (W (t + 14)) (W (t + 1)) (W (t + 9)) (W t) = W (t + 16)) (hx0 : ∀ j, j < 16 → x j = W j)
    (hp : ∀ g x, (∀ j, j < 80 → x j = W j) → Post .normal (fill g 0 (r512.none.M7 len at_)) (r512.none.memW xs lo h x)) (g : Nat → SV) :
    RunsF Tryd.prog G2 0 (.block 6 (.loop r512.L3)) (fill g 0 (r512.none.M3 len at_ 16)) (r512.none.memW xs lo h x) Post := by
  refine Runs.block ?_
  refine Runs.loopX (fun (p : Nat × (Nat → Int)) => r512.none.M3 len at_ (p.1 + 16)) (fun p => r512.none.memW xs lo h p.2) (fun p => p.1 ≤ 64 ∧ ∀ j, j < p.1 + 16 → p.2 j = W j) (fun p => 64 - p.1) ?_ (0, x) ⟨Nat.zero_le _, fun j hj => hx0 j (by simpa using hj)⟩ g
  rintro ⟨t, x⟩ g ⟨ht, hx⟩
  simp only at ht hx
  by_cases hlt : t < 64
  · have w14 : IntKind.i64.wrap (((t + 16 : Nat) : Int) - 2) = ((t + 14 : Nat) : Int) := i64n (by omega) (by omega)
    have w1 : IntKind.i64.wrap (((t + 16 : Nat) : Int) - 15) = ((t + 1 : Nat) : Int) := i64n (by omega) (by omega)
    have w9 : IntKind.i64.wrap (((t + 16 : Nat) : Int) - 7) = ((t + 9 : Nat) : Int) := i64n (by omega) (by omega)
    have w0 : IntKind.i64.wrap (((t + 16 : Nat) : Int) - 16) = ((t : Nat) : Int) := i64n (by omega) (by omega)
    have ld : ∀ e : Nat, e < 80 → 0 ≤ (e : Int) ∧ (e : Int) < ((80 : Nat) : Int) ∧ 0 + e < (restL x 0 80).length := fun e he => ⟨by omega, by omega, by rw [restL_length]; omega⟩
    have r : ∀ e : Nat, e < t + 16 → (restL x 0 80).getD (0 + e) 0 = W e := fun e he => by rw [restL_get8 x e (by omega)]; exact hx e he
    have a1 := ld (t + 14) (by omega)
    have a2 := r (t + 14) (by omega)
    have b1 := ld (t + 1) (by omega)
    have b2 := r (t + 1) (by omega)
    have c1 := ld (t + 9) (by omega)
    have c2 := r (t + 9) (by omega)
    have d1 := ld t (by omega)
    have d2 := r t (by omega)
    refine Runs.of_outX tys_ok mixed (r512.none.step3 len at_ lo xs h x t (W (t + 14)) (W (t + 1)) (W (t + 9)) (W t) (W (t + 16)) g)
      ⟨decide_eq_true (by omega), w14, a1.1, a1.2.1, a1.2.2, a2, w14, a1.1, a1.2.1, a1.2.2, a2, w14, a1.1, a1.2.1, a1.2.2, a2, w1, b1.1, b1.2.1, b1.2.2, b2, w1, b1.1, b1.2.1, b1.2.2, b2, w1, b1.1, b1.2.1, b1.2.2, b2,
       w9, c1.1, c1.2.1, c1.2.2, c2, w0, d1.1, d1.2.1, d1.2.2, d2, hS t hlt, by omega, by omega, by rw [restL_length]; omega, i64n (by omega) (by omega), trivial⟩ (r512.none.ids3 _ _ _ _ _ _ _) rfl fun g' => ⟨(t + 1, putF (0 + (t + 16)) [W (t + 16)] x), g', rfl, rfl, ⟨hlt, fun j hj => ?_⟩, by simp only; omega⟩
    simp only at hj ⊢
    rw [putF_one]
    by_cases e : j = 0 + (t + 16)
    · rw [if_pos e, e, Nat.zero_add]
    · rw [if_neg e]; exact hx j (by omega)
  · obtain rfl : t = 64 := by omega
    exact Runs.of_outX tys_ok mixed (r512.none.end3 len at_ lo xs h x 80 g) ⟨by decide, trivial⟩ (r512.none.ids7 _ _ _ _ _ _) rfl fun g' => hp g' x hx
theorem r512_none_loop4 (len at_ lo : Nat) (xs : List Int) (h W x : Nat → Int) (hx : ∀ j, j < 80 → x j = W j) (hp : ∀ g, Post .normal (fill g 0 (r512.none.M19 len at_)) (r512.none.memS xs lo h x (rounds6 h W 80))) (g : Nat → SV) :
    RunsF Tryd.prog G2 0 (.block 8 (.loop r512.L4)) (fill g 0 (r512.none.M4 len at_ 0)) (r512.none.memS xs lo h x h) Post := by
  refine Runs.block ?_
  refine Runs.loopX (fun (t : Nat) => r512.none.M4 len at_ t) (fun t => r512.none.memS xs lo h x (rounds6 h W t)) (fun t => t ≤ 80) (fun t => 80 - t) ?_ 0 (Nat.zero_le _) g
  intro t g ht
  by_cases hlt : t < 80
  · exact Runs.of_outX tys_ok mixed (r512.none.step4 len at_ lo xs h x (rounds6 h W t) t (k512L.getD t 0) (W t) g)
      ⟨decide_eq_true (by omega), by omega, by omega, by show 0 + t < 80; omega, by rw [Nat.zero_add], by omega, by omega, by rw [restL_length]; omega, by rw [restL_get8 x t hlt]; exact hx t hlt, i64n (by omega) (by omega), trivial⟩ (r512.none.ids4 _ _ _ _ _ _ _ _) rfl fun g' => ⟨t + 1, g', rfl, rfl, hlt, by omega⟩
  · obtain rfl : t = 80 := by omega
    exact Runs.of_outX tys_ok mixed (r512.none.end4 len at_ lo xs h x _ 80 g) ⟨by decide, trivial⟩ (r512.none.ids19 _ _ _ _ _ _ _) rfl hp
theorem r512_none_loop5 (len at_ lo : Nat) (xs : List Int) (h x s : Nat → Int) (hp : ∀ g, Post .normal (fill g 0 (r512.none.MH len at_)) (r512.none.memH xs lo (fun i => addD (h i) (s i)))) (g : Nat → SV) :
    RunsF Tryd.prog G2 0 (.block 10 (.loop r512.L5)) (fill g 0 (r512.none.M5 len at_ 0)) (r512.none.memS xs lo (dblk.sumD h s 0) x s) Post := by
  refine Runs.block ?_
  refine Runs.loopX (fun (t : Nat) => r512.none.M5 len at_ t) (fun t => r512.none.memS xs lo (dblk.sumD h s t) x s) (fun t => t ≤ 8) (fun t => 8 - t) ?_ 0 (Nat.zero_le _) g
  intro t g ht
  by_cases hlt : t < 8
  · exact Runs.of_outX tys_ok mixed (tab_get (r512.none.tab5 len at_ lo xs h x s g) t hlt) trivial (r512.none.ids5 _ _ _ _ _ _ _ _) rfl fun g' => ⟨t + 1, g', rfl, rfl, hlt, by omega⟩
  · obtain rfl : t = 8 := by omega
    exact Runs.of_outX tys_ok mixed (r512.none.end5 len at_ lo xs h x s g) trivial (r512.none.idsH _ _ _ _ _) rfl hp
theorem r512_none_block (len at_ lo : Nat) (xs : List Int) (H : E8) (hl : xs.length = len) (ha : at_ + 128 ≤ len) (hs : len ≤ 140737488358400)
    (hp : ∀ g, Post .normal (fill g 0 (r512.none.MH len at_)) (r512.none.memH xs lo (blkD H (xs.drop at_)).at)) (g : Nat → SV) :
    RunsF Tryd.prog G2 0 (.block 1 (.seq r512.A7 (.seq (.seq r512.A8 (.block 2 (.loop r512.L2))) (.seq (.seq r512.A13 (.block 6 (.loop r512.L3))) (.seq r512.A19 (.seq (.seq r512.A20 (.block 8 (.loop r512.L4))) (.seq r512.A28 (.block 10 (.loop r512.L5))))))))) (fill g 0 (r512.none.MH len at_)) (r512.none.memH xs lo H.at) Post := by
  have hS := sch6_sched (xs.drop at_)
  refine Runs.block ?_
  refine Runs.seq (Runs.of_outX tys_ok mixed (r512.none.p7 len at_ lo xs H.at g) trivial (r512.none.ids7 _ _ _ _ _ _) rfl fun g => ?_)
  refine Runs.seq (Runs.seq (Runs.of_outX tys_ok mixed (r512.none.p8 len at_ lo xs H.at _ g) trivial (r512.none.ids2 _ _ _ _ _ _ _) rfl fun g => ?_))
  refine r512_none_loop2 len at_ lo xs H.at (sch6 (xs.drop at_)) _ hl ha hs hS.1 (fun _ => rfl) (fun g x hx => ?_) g
  refine Runs.seq (Runs.seq (Runs.of_outX tys_ok mixed (r512.none.p13 len at_ lo xs H.at _ g) trivial (r512.none.ids3 _ _ _ _ _ _ _) rfl fun g => ?_))
  refine r512_none_loop3 len at_ lo xs H.at _ x hS.2 hx (fun g x hx => ?_) g
  refine Runs.seq (Runs.of_outX tys_ok mixed (r512.none.p19 len at_ lo xs H.at _ g) trivial (r512.none.ids19 _ _ _ _ _ _ _) rfl fun g => ?_)
  refine Runs.seq (Runs.seq (Runs.of_outX tys_ok mixed (r512.none.p20 len at_ lo xs H.at _ _ g) trivial (r512.none.ids4 _ _ _ _ _ _ _ _) rfl fun g => ?_))
  refine r512_none_loop4 len at_ lo xs H.at _ x hx (fun g => ?_) g
  refine Runs.seq (Runs.of_outX tys_ok mixed (r512.none.p28 len at_ lo xs H.at _ _ g) trivial (r512.none.ids5 _ _ _ _ _ _ _ _) rfl fun g => ?_)
  refine r512_none_loop5 len at_ lo xs H.at x _ (fun g => ?_) g
  have e : r512.none.memH xs lo (blkD H (xs.drop at_)).at = r512.none.memH xs lo (fun i => addD (H.at i) (rounds6 H.at (sch6 (xs.drop at_)) 80 i)) := by
    have := (comp_row H (xs.drop at_)).trans (rowD_E _).symm
    unfold r512.none.memH
    rw [← this]
    rfl
  rw [← e]
  exact hp g
theorem r512_none_great (nb lo : Nat) (xs : List Int) (hl : xs.length = 128 * nb) (hs : nb ≤ 1099511627800)
    (hp : ∀ g, Post .normal (fill g 0 (r512.none.MH (128 * nb) (128 * nb))) (r512.none.memH xs lo (blocksD initD xs nb).at)) (g : Nat → SV) :
    RunsF Tryd.prog G2 0 (.block 0 (.loop r512.LL)) (fill g 0 (r512.none.MH (128 * nb) (128 * 0))) (r512.none.memH xs lo (blocksD initD xs 0).at) Post := by
  refine Runs.block ?_
  refine Runs.loopX (fun (i : Nat) => r512.none.MH (128 * nb) (128 * i)) (fun i => r512.none.memH xs lo (blocksD initD xs i).at) (fun i => i ≤ nb) (fun i => nb - i) ?_ 0 (Nat.zero_le _) g
  intro i g hi
  rw [r512.LL_eq]
  by_cases hlt : i < nb
  · refine Runs.seq (Runs.of_outX tys_ok mixed (r512.none.go (128 * nb) (128 * i) lo xs _ g) ⟨decide_eq_true (by omega), trivial⟩ (r512.none.idsH _ _ _ _ _) rfl fun g => ?_)
    refine Runs.seq (r512_none_block (128 * nb) (128 * i) lo xs _ hl (by omega) (by omega) (fun g => ?_) g)
    exact Runs.of_outX tys_ok mixed (r512.none.p6 (128 * nb) (128 * i) lo xs _ g) ⟨i64n (by omega) (by omega), trivial⟩ (r512.none.idsH _ _ _ _ _) rfl fun g' => ⟨i + 1, g', rfl, rfl, hlt, by omega⟩
  · obtain rfl : i = nb := by omega
    exact Runs.seq (Runs.of_outX tys_ok mixed (r512.none.stop (128 * i) (128 * i) lo xs _ g) ⟨decide_eq_false (by omega), trivial⟩ (r512.none.idsH _ _ _ _ _) rfl fun g => hp g)
theorem r512_none_run (a : Option Addr) : RunsF Tryd.prog G2 0 r512.body (startT r512.fn [.o (.a (.v (.slice a 0 0)))]) [] (EndsM tys r512.fn (endsQ (cB64.enc (s512V [])) .none)) := by
  have hL := padR_length [] 128 16
  have hy0 : ([] : List Int).length ≤ 140737488354000 := by first | (rw [hy]; exact hn) | exact Nat.zero_le _
  have hz : padZ ([] : List Int).length 128 16 < 128 := Nat.mod_lt _ (by decide)
  have hm : (([] : List Int).length + 1 + padZ ([] : List Int).length 128 16 + 16) % 128 = 0 := by unfold padZ; omega
  rw [r512.body_eq]
  refine Runs.seq (Runs.of_outX tys_ok mixed (r512.none.a0 a) trivial (r512.none.idsN0 a) rfl fun g => ?_)
  refine Runs.seq (Runs.of_outX tys_ok mixed (r512.none.a1 a g) trivial (r512.none.idsN1 a) rfl fun g => ?_)
  refine Runs.seq (Runs.of_outX tys_ok mixed (r512.none.a2 a g) trivial (r512.none.idsN2 a) rfl fun g => ?_)
  refine Runs.seq (Runs.of_outX tys_ok mixed (r512.none.a3 a g) trivial (r512.none.idsN3 a _ _ _) rfl fun g => ?_)
  refine Runs.seq (Runs.seq (Runs.of_outX tys_ok mixed (r512.none.a4 _ _ _ g) trivial (r512.none.idsH _ _ _ _ _) rfl fun g => ?_))
  have hnb : (padR [] 128 16).length = 128 * ((padR [] 128 16).length / 128) := by omega
  have hg := r512_none_great (Post := fun e t m => match e with | .normal => RunsF Tryd.prog G2 0 r512.DD t m (EndsM tys r512.fn (endsQ (cB64.enc (s512V [])) .none)) | .exit i => EndsM tys r512.fn (endsQ (cB64.enc (s512V [])) .none) (.exit i) t m | .ret => EndsM tys r512.fn (endsQ (cB64.enc (s512V [])) .none) .ret t m) ((padR [] 128 16).length / 128) (padR [] 128 16).length (padR [] 128 16) hnb (by omega) (fun g => Runs.of_exec tys_ok mixed (r512.none.d _ _ _ _ _ g) trivial (EndsM.ret (r512.none.res _ _ _ _ _ g) rfl)) g
  rw [← hnb] at hg
  exact hg
end
def r512_spec : List PArg → Option (SV × LEff × Cst)
  | [.win .u8 ys n ty] => some (cB64.enc (s512V ys), .none, [n ≤ 140737488354000])
  | [.val (.o (.a (.v (.slice _ 0 0))))] => some (cB64.enc (s512V []), .none, [])
  | _ => none
noncomputable def r512_con : Con Tryd.prog G2 := Con.parts tys_ok 22 r512.fn Tryd.func22 (by kernel_rfl) (c := r512.body) (by kernel_rfl) [.win .u8] r512_spec
  (fun ps r e p h hp => by
    unfold r512_spec at h
    split at h <;> cases h
    · exact ⟨cB64.ids _, fun b hb => by simp only [locBlks, PArg.blk, List.append_nil, List.mem_singleton] at hb; rw [hb]⟩
    · exact ⟨cB64.ids _, fun b hb => by cases hb⟩)
  (fun ps r e p cap h hp hi => by
    unfold r512_spec at h
    split at h <;> cases h
    · exact r512_win_run _ _ _ _ hi.1.1 hi.1.2 hp.1
    · exact r512_none_run _)
end Go.Proofs.YtpmdelihcdaffaaDoor

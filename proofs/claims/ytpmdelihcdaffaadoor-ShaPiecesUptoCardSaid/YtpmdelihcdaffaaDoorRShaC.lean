/- Package beaconref01: Sum256: its loops; its contract. -/
import Derived.Test.YtpmdelihcdaffaaDoorRShaB
import Derived.Laws.MathBits
namespace Go.Proofs.YtpmdelihcdaffaaDoor
open Go Go.Eng Go.RowKit
set_option linter.unusedVariables false
set_option maxRecDepth 100000

/-! ### Words -/
theorem u32_wrap (x : Int) : IntKind.u32.wrap x = x % 4294967296 := by rw [IntKind.wrap_u32]
theorem u8_wrap (x : Int) : IntKind.u8.wrap x = x % 256 := by rw [IntKind.wrap_u8]
theorem wraps_u32 (n : Int) (h₀ : 0 ≤ n) (h₁ : n < 2 ^ 32) : IntKind.u32.wrap n = n := by rw [u32_wrap]; omega
theorem wraps_u64 (n : Int) (h₀ : 0 ≤ n) (h₁ : n < 2 ^ 64) : IntKind.u64.wrap n = n := by rw [u64_wrap]; omega
theorem or32_add (i : Nat) (x y : Int) (hx0 : 0 ≤ x) (hx1 : x < 4294967296) (hx : x % 2 ^ i = 0) (hy0 : 0 ≤ y) (hy : y < 2 ^ i) (hy1 : y < 4294967296) : bits .or .u32 x y = x + y :=
  bits_join .u32 32 (by decide) wraps_u32 i x y hx0 hx hx1 hy0 hy hy1
theorem or64_add (i : Nat) (x y : Int) (hx0 : 0 ≤ x) (hx1 : x < 18446744073709551616) (hx : x % 2 ^ i = 0) (hy0 : 0 ≤ y) (hy : y < 2 ^ i) (hy1 : y < 18446744073709551616) : bits .or .u64 x y = x + y :=
  bits_join .u64 64 (by decide) wraps_u64 i x y hx0 hx hx1 hy0 hy hy1
def Byt (x : Int) : Prop := 0 ≤ x ∧ x < 256
theorem wordS_eq {a x : Int} (h0 : 0 ≤ a) (h1 : a < 72057594037927936) (hx : Byt x) : wordS a x = a * 256 + x := by
  obtain ⟨x0, x1⟩ := hx
  unfold wordS orU shlU
  rw [u64_wrap, u64_wrap, or64_add 8 _ _ (by omega) (by omega) (by omega) (by omega) (by omega) (by omega)]
  omega
theorem wordR_eq {a b c d : Int} (ha : Byt a) (hb : Byt b) (hc : Byt c) (hd : Byt d) : wordR a b c d = IntKind.u32.wrap (wordV [a, b, c, d]) := by
  have e : wordV [a, b, c, d] = wordS (wordS (wordS (wordS 0 a) b) c) d := rfl
  rw [e, wordS_eq (by omega) (by omega) ha]
  have ha' := ha; have hb' := hb; have hc' := hc; have hd' := hd
  unfold Byt at ha' hb' hc' hd'
  rw [wordS_eq (by omega) (by omega) hb, wordS_eq (by omega) (by omega) hc, wordS_eq (by omega) (by omega) hd]
  unfold wordR
  simp only [u32_wrap]
  have e1 : bits .or .u32 (a % 4294967296 * 2 ^ 24 % 4294967296) (b % 4294967296 * 2 ^ 16 % 4294967296) = a * 16777216 + b * 65536 := by
    rw [or32_add 24 _ _ (by omega) (by omega) (by omega) (by omega) (by omega) (by omega)]; omega
  rw [e1]
  have e2 : bits .or .u32 (a * 16777216 + b * 65536) (c % 4294967296 * 2 ^ 8 % 4294967296) = a * 16777216 + b * 65536 + c * 256 := by
    rw [or32_add 16 _ _ (by omega) (by omega) (by omega) (by omega) (by omega) (by omega)]; omega
  rw [e2, or32_add 8 _ _ (by omega) (by omega) (by omega) (by omega) (by omega) (by omega)]
  omega
theorem i64n {x : Int} {n : Nat} (h : x = (n : Int)) (hn : n < 9223372036854775808) : IntKind.i64.wrap x = (n : Int) := by rw [h, i64_small _ (by omega) (by omega)]

/-! ### What it computes -/
def refH (xs : List Int) : Nat → Nat → Int
  | 0 => r256.h0
  | i + 1 => compF (refH xs i) (schW fun j => xs.getD (64 * i + j) 0)
def refB (ys : List Int) : B32 := outR (refH (padR ys 64 8) ((padR ys 64 8).length / 64))
theorem byteAt_byt (v : Int) (s : Nat) : Byt (byteAt v s) := by
  unfold byteAt Byt
  rw [u8_wrap]; omega
theorem lenB_byt (bt : Int) : ∀ i, ∀ y ∈ lenB bt i, Byt y
  | 0, y, h => by cases h
  | i + 1, y, h => by
    rw [lenB, List.mem_cons] at h
    rcases h with rfl | h
    · unfold lenE
      cases Nat.ble 8 i
      · exact byteAt_byt _ _
      · show Byt 0
        exact ⟨by decide, by decide⟩
    · exact lenB_byt bt i y h
theorem padR_byt {ys : List Int} (h : ∀ y ∈ ys, Byt y) (bk ln : Nat) : ∀ y ∈ padR ys bk ln, Byt y := by
  intro y hy
  unfold padR at hy
  simp only [List.mem_append, List.mem_singleton, List.mem_replicate] at hy
  rcases hy with hy | rfl | ⟨_, rfl⟩ | hy
  · exact h y hy
  · exact ⟨by decide, by decide⟩
  · exact ⟨by decide, by decide⟩
  · exact lenB_byt _ _ y hy
theorem padR_length (ys : List Int) (bk ln : Nat) : (padR ys bk ln).length = ys.length + 1 + padZ ys.length bk ln + ln := by
  unfold padR
  simp only [List.length_append, List.length_singleton, List.length_replicate, lenB_length]
  omega
theorem getD_byt {xs : List Int} (h : ∀ y ∈ xs, Byt y) (i : Nat) : Byt (xs.getD i 0) := by
  rcases Nat.lt_or_ge i xs.length with hi | hi
  · simp only [List.getD, List.getElem?_eq_getElem hi, Option.getD_some]
    exact h _ (List.getElem_mem hi)
  · simp only [List.getD, List.getElem?_eq_none hi, Option.getD_none]
    exact ⟨by decide, by decide⟩

/-! ### The loops -/
section
variable {Post : Ex → List SV → List Blk → Prop}
theorem r256_win_loop2 (ys : List Int) (ty : TypeId) (len at_ lo : Nat) (xs : List Int) (h W x : Nat → Int) (hl : xs.length = len) (ha : at_ + 64 ≤ len) (hs : len ≤ 140737488358400) (hW : ∀ t, t < 16 → wordR (xs.getD (at_ + 4 * t) 0) (xs.getD (at_ + 4 * t + 1) 0) (xs.getD (at_ + 4 * t + 2) 0) (xs.getD (at_ + 4 * t + 3) 0) = W t)
    (hp : ∀ g x, (∀ j, j < 16 → x j = W j) → Post .normal (fill g 0 (r256.win.M7 len at_)) (r256.win.memW ys ty xs lo h x)) (g : Nat → SV) :
    RunsF Tryd.prog Gs 1 (.block 2 (.loop r256.L2)) (fill g 0 (r256.win.M2 len at_ 0)) (r256.win.memW ys ty xs lo h x) Post := by
  refine Runs.block ?_
  refine Runs.loopX (fun (p : Nat × (Nat → Int)) => r256.win.M2 len at_ p.1) (fun p => r256.win.memW ys ty xs lo h p.2) (fun p => p.1 ≤ 16 ∧ ∀ j, j < p.1 → p.2 j = W j) (fun p => 16 - p.1) ?_ (0, x) ⟨Nat.zero_le _, fun j hj => by simp only at hj; omega⟩ g
  rintro ⟨t, x⟩ g ⟨ht, hx⟩
  simp only at ht hx
  by_cases hlt : t < 16
  · have w0 : IntKind.i64.wrap (4 * (t : Int)) = ((4 * t : Nat) : Int) := i64n (by omega) (by omega)
    have w1 : IntKind.i64.wrap ((at_ : Int) + ((4 * t : Nat) : Int)) = ((at_ + 4 * t : Nat) : Int) := i64n (by omega) (by omega)
    have wi : ∀ i : Nat, i < 100 → IntKind.i64.wrap (((at_ + 4 * t : Nat) : Int) + (i : Int)) = ((at_ + 4 * t + i : Nat) : Int) := fun i hi => i64n (by omega) (by omega)
    have ld : ∀ e : Nat, e < len → 0 ≤ (e : Int) ∧ (e : Int) < (len : Int) ∧ 0 + e < xs.length := fun e he => ⟨by omega, by omega, by omega⟩
    have z : ∀ e : Nat, xs.getD (0 + e) 0 = xs.getD e 0 := fun e => by rw [Nat.zero_add]
    refine Runs.of_outX tys_ok mixed (r256.win.step2 ys ty len at_ lo xs h x t (xs.getD (at_ + 4 * t) 0) (xs.getD (at_ + 4 * t + 1) 0) (xs.getD (at_ + 4 * t + 2) 0) (xs.getD (at_ + 4 * t + 3) 0) (W t) g)
      ⟨decide_eq_true (by omega), w0, w1, (ld _ (by omega)).1, (ld _ (by omega)).2.1, (ld _ (by omega)).2.2, z _, w0, w1, wi 1 (by omega), (ld _ (by omega)).1, (ld _ (by omega)).2.1, (ld _ (by omega)).2.2, z _,
       w0, w1, wi 2 (by omega), (ld _ (by omega)).1, (ld _ (by omega)).2.1, (ld _ (by omega)).2.2, z _, w0, w1, wi 3 (by omega), (ld _ (by omega)).1, (ld _ (by omega)).2.1, (ld _ (by omega)).2.2, z _,
       hW t hlt, by omega, by omega, by rw [restL_length]; omega, i64n (by omega) (by omega), trivial⟩ (r256.win.ids2 ys ty _ _ _ _ _ _ _) rfl fun g' => ⟨(t + 1, putF (0 + t) [W t] x), g', rfl, rfl, ⟨hlt, fun j hj => ?_⟩, by simp only; omega⟩
    simp only at hj ⊢
    rw [putF_one]
    by_cases e : j = 0 + t
    · rw [if_pos e, e, Nat.zero_add]
    · rw [if_neg e]; exact hx j (by omega)
  · obtain rfl : t = 16 := by omega
    exact Runs.of_outX tys_ok mixed (r256.win.end2 ys ty len at_ lo xs h x 16 g) ⟨by decide, trivial⟩ (r256.win.ids7 ys ty _ _ _ _ _ _) rfl fun g' => hp g' x hx
theorem r256_win_loop3 (ys : List Int) (ty : TypeId) (len at_ lo : Nat) (xs : List Int) (h W x : Nat → Int) (hS : ∀ t, t < 48 → schedF (W (t + 14)) (W (t + 1)) (W (t + 9)) (W t) = W (t + 16)) (hx0 : ∀ j, j < 16 → x j = W j)
    (hp : ∀ g x, (∀ j, j < 64 → x j = W j) → Post .normal (fill g 0 (r256.win.M7 len at_)) (r256.win.memW ys ty xs lo h x)) (g : Nat → SV) :
    RunsF Tryd.prog Gs 1 (.block 4 (.loop r256.L3)) (fill g 0 (r256.win.M3 len at_ 16)) (r256.win.memW ys ty xs lo h x) Post := by
  refine Runs.block ?_
  refine Runs.loopX (fun (p : Nat × (Nat → Int)) => r256.win.M3 len at_ (p.1 + 16)) (fun p => r256.win.memW ys ty xs lo h p.2) (fun p => p.1 ≤ 48 ∧ ∀ j, j < p.1 + 16 → p.2 j = W j) (fun p => 48 - p.1) ?_ (0, x) ⟨Nat.zero_le _, fun j hj => hx0 j (by simpa using hj)⟩ g
  rintro ⟨t, x⟩ g ⟨ht, hx⟩
  simp only at ht hx
  by_cases hlt : t < 48
  · have w14 : IntKind.i64.wrap (((t + 16 : Nat) : Int) - 2) = ((t + 14 : Nat) : Int) := i64n (by omega) (by omega)
    have w1 : IntKind.i64.wrap (((t + 16 : Nat) : Int) - 15) = ((t + 1 : Nat) : Int) := i64n (by omega) (by omega)
    have w9 : IntKind.i64.wrap (((t + 16 : Nat) : Int) - 7) = ((t + 9 : Nat) : Int) := i64n (by omega) (by omega)
    have w0 : IntKind.i64.wrap (((t + 16 : Nat) : Int) - 16) = ((t : Nat) : Int) := i64n (by omega) (by omega)
    have ld : ∀ e : Nat, e < 64 → 0 ≤ (e : Int) ∧ (e : Int) < ((64 : Nat) : Int) ∧ 0 + e < (restL x 0 64).length := fun e he => ⟨by omega, by omega, by rw [restL_length]; omega⟩
    have r : ∀ e : Nat, e < t + 16 → (restL x 0 64).getD (0 + e) 0 = W e := fun e he => by rw [restL_get0 x e (by omega)]; exact hx e he
    have a1 := ld (t + 14) (by omega)
    have a2 := r (t + 14) (by omega)
    have b1 := ld (t + 1) (by omega)
    have b2 := r (t + 1) (by omega)
    have c1 := ld (t + 9) (by omega)
    have c2 := r (t + 9) (by omega)
    have d1 := ld t (by omega)
    have d2 := r t (by omega)
    refine Runs.of_outX tys_ok mixed (r256.win.step3 ys ty len at_ lo xs h x t (W (t + 14)) (W (t + 1)) (W (t + 9)) (W t) (W (t + 16)) g)
      ⟨decide_eq_true (by omega), w14, a1.1, a1.2.1, a1.2.2, a2, w14, a1.1, a1.2.1, a1.2.2, a2, w14, a1.1, a1.2.1, a1.2.2, a2, w1, b1.1, b1.2.1, b1.2.2, b2, w1, b1.1, b1.2.1, b1.2.2, b2, w1, b1.1, b1.2.1, b1.2.2, b2,
       w9, c1.1, c1.2.1, c1.2.2, c2, w0, d1.1, d1.2.1, d1.2.2, d2, hS t hlt, by omega, by omega, by rw [restL_length]; omega, i64n (by omega) (by omega), trivial⟩ (r256.win.ids3 ys ty _ _ _ _ _ _ _) rfl fun g' => ⟨(t + 1, putF (0 + (t + 16)) [W (t + 16)] x), g', rfl, rfl, ⟨hlt, fun j hj => ?_⟩, by simp only; omega⟩
    simp only at hj ⊢
    rw [putF_one]
    by_cases e : j = 0 + (t + 16)
    · rw [if_pos e, e, Nat.zero_add]
    · rw [if_neg e]; exact hx j (by omega)
  · obtain rfl : t = 48 := by omega
    exact Runs.of_outX tys_ok mixed (r256.win.end3 ys ty len at_ lo xs h x 64 g) ⟨by decide, trivial⟩ (r256.win.ids7 ys ty _ _ _ _ _ _) rfl fun g' => hp g' x hx
theorem r256_win_loop4 (ys : List Int) (ty : TypeId) (len at_ lo : Nat) (xs : List Int) (h W x : Nat → Int) (hx : ∀ j, j < 64 → x j = W j) (hp : ∀ g, Post .normal (fill g 0 (r256.win.M19 len at_)) (r256.win.memS ys ty xs lo h x (rounds h W 64))) (g : Nat → SV) :
    RunsF Tryd.prog Gs 1 (.block 6 (.loop r256.L4)) (fill g 0 (r256.win.M4 len at_ 0)) (r256.win.memS ys ty xs lo h x h) Post := by
  refine Runs.block ?_
  refine Runs.loopX (fun (t : Nat) => r256.win.M4 len at_ t) (fun t => r256.win.memS ys ty xs lo h x (rounds h W t)) (fun t => t ≤ 64) (fun t => 64 - t) ?_ 0 (Nat.zero_le _) g
  intro t g ht
  by_cases hlt : t < 64
  · exact Runs.of_outX tys_ok mixed (r256.win.step4 ys ty len at_ lo xs h x (rounds h W t) t (k256L.getD t 0) (W t) g)
      ⟨decide_eq_true (by omega), by omega, by omega, by show 0 + t < 64; omega, by rw [Nat.zero_add], by omega, by omega, by rw [restL_length]; omega, by rw [restL_get0 x t hlt]; exact hx t hlt, i64n (by omega) (by omega), trivial⟩ (r256.win.ids4 ys ty _ _ _ _ _ _ _ _) rfl fun g' => ⟨t + 1, g', rfl, rfl, hlt, by omega⟩
  · obtain rfl : t = 64 := by omega
    exact Runs.of_outX tys_ok mixed (r256.win.end4 ys ty len at_ lo xs h x _ 64 g) ⟨by decide, trivial⟩ (r256.win.ids19 ys ty _ _ _ _ _ _ _) rfl hp
theorem r256_win_loop5 (ys : List Int) (ty : TypeId) (len at_ lo : Nat) (xs : List Int) (h x s : Nat → Int) (hp : ∀ g, Post .normal (fill g 0 (r256.win.MH len at_)) (r256.win.memH ys ty xs lo (fun i => addW (h i) (s i)))) (g : Nat → SV) :
    RunsF Tryd.prog Gs 1 (.block 8 (.loop r256.L5)) (fill g 0 (r256.win.M5 len at_ 0)) (r256.win.memS ys ty xs lo (sblk.sumH h s 0) x s) Post := by
  refine Runs.block ?_
  refine Runs.loopX (fun (t : Nat) => r256.win.M5 len at_ t) (fun t => r256.win.memS ys ty xs lo (sblk.sumH h s t) x s) (fun t => t ≤ 8) (fun t => 8 - t) ?_ 0 (Nat.zero_le _) g
  intro t g ht
  by_cases hlt : t < 8
  · exact Runs.of_outX tys_ok mixed (tab_get (r256.win.tab5 ys ty len at_ lo xs h x s g) t hlt) trivial (r256.win.ids5 ys ty _ _ _ _ _ _ _ _) rfl fun g' => ⟨t + 1, g', rfl, rfl, hlt, by omega⟩
  · obtain rfl : t = 8 := by omega
    exact Runs.of_outX tys_ok mixed (r256.win.end5 ys ty len at_ lo xs h x s g) trivial (r256.win.idsH ys ty _ _ _ _ _) rfl hp
theorem r256_win_block (ys : List Int) (ty : TypeId) (len at_ lo : Nat) (xs : List Int) (h : Nat → Int) (hl : xs.length = len) (ha : at_ + 64 ≤ len) (hs : len ≤ 140737488358400) (hb : ∀ y ∈ xs, Byt y)
    (hp : ∀ g, Post .normal (fill g 0 (r256.win.MH len at_)) (r256.win.memH ys ty xs lo (compF h (schW fun j => xs.getD (at_ + j) 0)))) (g : Nat → SV) :
    RunsF Tryd.prog Gs 1 (.block 1 (.seq r256.A7 (.seq (.seq r256.A8 (.block 2 (.loop r256.L2))) (.seq (.seq r256.A13 (.block 4 (.loop r256.L3))) (.seq r256.A19 (.seq (.seq r256.A20 (.block 6 (.loop r256.L4))) (.seq r256.A28 (.block 8 (.loop r256.L5))))))))) (fill g 0 (r256.win.MH len at_)) (r256.win.memH ys ty xs lo h) Post := by
  have hS := schW_sched fun j => xs.getD (at_ + j) 0
  refine Runs.block ?_
  refine Runs.seq (Runs.of_outX tys_ok mixed (r256.win.p7 ys ty len at_ lo xs h g) trivial (r256.win.ids7 ys ty _ _ _ _ _ _) rfl fun g => ?_)
  refine Runs.seq (Runs.seq (Runs.of_outX tys_ok mixed (r256.win.p8 ys ty len at_ lo xs h _ g) trivial (r256.win.ids2 ys ty _ _ _ _ _ _ _) rfl fun g => ?_))
  refine r256_win_loop2 ys ty len at_ lo xs h (schW fun j => xs.getD (at_ + j) 0) _ hl ha hs (fun t ht => ?_) (fun g x hx => ?_) g
  · rw [wordR_eq (getD_byt hb _) (getD_byt hb _) (getD_byt hb _) (getD_byt hb _)]
    exact hS.1 t ht
  refine Runs.seq (Runs.seq (Runs.of_outX tys_ok mixed (r256.win.p13 ys ty len at_ lo xs h _ g) trivial (r256.win.ids3 ys ty _ _ _ _ _ _ _) rfl fun g => ?_))
  refine r256_win_loop3 ys ty len at_ lo xs h _ x hS.2 hx (fun g x hx => ?_) g
  refine Runs.seq (Runs.of_outX tys_ok mixed (r256.win.p19 ys ty len at_ lo xs h _ g) trivial (r256.win.ids19 ys ty _ _ _ _ _ _ _) rfl fun g => ?_)
  refine Runs.seq (Runs.seq (Runs.of_outX tys_ok mixed (r256.win.p20 ys ty len at_ lo xs h _ _ g) trivial (r256.win.ids4 ys ty _ _ _ _ _ _ _ _) rfl fun g => ?_))
  refine r256_win_loop4 ys ty len at_ lo xs h _ x hx (fun g => ?_) g
  refine Runs.seq (Runs.of_outX tys_ok mixed (r256.win.p28 ys ty len at_ lo xs h _ _ g) trivial (r256.win.ids5 ys ty _ _ _ _ _ _ _ _) rfl fun g => ?_)
  refine r256_win_loop5 ys ty len at_ lo xs h x _ (fun g => ?_) g
  exact hp g
theorem r256_win_great (ys : List Int) (ty : TypeId) (nb lo : Nat) (xs : List Int) (hl : xs.length = 64 * nb) (hs : nb ≤ 2199023255600) (hb : ∀ y ∈ xs, Byt y)
    (hp : ∀ g, Post .normal (fill g 0 (r256.win.MH (64 * nb) (64 * nb))) (r256.win.memH ys ty xs lo (refH xs nb))) (g : Nat → SV) :
    RunsF Tryd.prog Gs 1 (.block 0 (.loop r256.LL)) (fill g 0 (r256.win.MH (64 * nb) (64 * 0))) (r256.win.memH ys ty xs lo (refH xs 0)) Post := by
  refine Runs.block ?_
  refine Runs.loopX (fun (i : Nat) => r256.win.MH (64 * nb) (64 * i)) (fun i => r256.win.memH ys ty xs lo (refH xs i)) (fun i => i ≤ nb) (fun i => nb - i) ?_ 0 (Nat.zero_le _) g
  intro i g hi
  rw [r256.LL_eq]
  by_cases hlt : i < nb
  · refine Runs.seq (Runs.of_outX tys_ok mixed (r256.win.go ys ty (64 * nb) (64 * i) lo xs _ g) ⟨decide_eq_true (by omega), trivial⟩ (r256.win.idsH ys ty _ _ _ _ _) rfl fun g => ?_)
    refine Runs.seq (r256_win_block ys ty (64 * nb) (64 * i) lo xs _ hl (by omega) (by omega) hb (fun g => ?_) g)
    exact Runs.of_outX tys_ok mixed (r256.win.p6 ys ty (64 * nb) (64 * i) lo xs _ g) ⟨i64n (by omega) (by omega), trivial⟩ (r256.win.idsH ys ty _ _ _ _ _) rfl fun g' => ⟨i + 1, g', rfl, rfl, hlt, by omega⟩
  · obtain rfl : i = nb := by omega
    exact Runs.seq (Runs.of_outX tys_ok mixed (r256.win.stop ys ty (64 * i) (64 * i) lo xs _ g) ⟨decide_eq_false (by omega), trivial⟩ (r256.win.idsH ys ty _ _ _ _ _) rfl fun g => hp g)
theorem r256_win_run (ys : List Int) (n c : Nat) (ty : TypeId) (hy : ys.length = n) (hc : n ≤ c) (hn : n ≤ 140737488354000) (hb : ∀ y ∈ ys, Byt y) : RunsF Tryd.prog Gs 1 r256.body (startT r256.fn [.o (.a (.sld 0 0 0 n c))]) [⟨false, ty, .pre .u8 ys⟩] (EndsM tys r256.fn (endsQ (cB32.enc (refB ys)) .none)) := by
  obtain ⟨z1, z2, z3⟩ := padZ_64 (ys : List Int).length
  have hL := padR_length ys 64 8
  have e : (ys.drop 0).take n = ys := by rw [List.drop_zero, List.take_of_length_le (by omega)]
  rw [r256.body_eq]
  refine Runs.seq (Runs.of_outX tys_ok mixed (r256.win.a0 ys ty n c) trivial (r256.win.idsN0 ys ty n c) rfl fun g => ?_)
  refine Runs.seq (Runs.of_outX tys_ok mixed (r256.win.a1 ys ty n c g) trivial (r256.win.idsN1 ys ty n c) rfl fun g => ?_)
  refine Runs.seq (Runs.of_outX tys_ok mixed (r256.win.a2 ys ty n c g) trivial (r256.win.idsN2 ys ty n c) rfl fun g => ?_)
  refine Runs.seq (Runs.of_outX tys_ok mixed (r256.win.a3 ys ty n c g) ⟨by omega, hc, hn, trivial⟩ (r256.win.idsN3 ys ty n c _ _ _) rfl fun g => ?_)
  show RunsF _ _ _ _ (fill g 0 (r256.win.N3 (padR ((ys.drop 0).take n) 64 8).length)) (r256.win.memH ys ty (padR ((ys.drop 0).take n) 64 8) (padR ((ys.drop 0).take n) 64 8).length r256.h0) _
  rw [e]
  refine Runs.seq (Runs.seq (Runs.of_outX tys_ok mixed (r256.win.a4 ys ty _ _ _ g) trivial (r256.win.idsH ys ty _ _ _ _ _) rfl fun g => ?_))
  have hy0 : (ys : List Int).length ≤ 140737488354000 := by first | (rw [hy]; exact hn) | exact Nat.zero_le _
  have hnb : (padR ys 64 8).length = 64 * ((padR ys 64 8).length / 64) := by omega
  have hg := r256_win_great (Post := fun e t m => match e with | .normal => RunsF Tryd.prog Gs 1 r256.DD t m (EndsM tys r256.fn (endsQ (cB32.enc (refB ys)) .none)) | .exit i => EndsM tys r256.fn (endsQ (cB32.enc (refB ys)) .none) (.exit i) t m | .ret => EndsM tys r256.fn (endsQ (cB32.enc (refB ys)) .none) .ret t m) ys ty ((padR ys 64 8).length / 64) (padR ys 64 8).length (padR ys 64 8) hnb (by omega) (padR_byt hb 64 8) (fun g => Runs.of_exec tys_ok mixed (r256.win.d ys ty _ _ _ _ _ g) trivial (EndsM.ret (r256.win.res ys ty _ _ _ _ _ g) rfl)) g
  rw [← hnb] at hg
  exact hg
theorem r256_none_loop2 (len at_ lo : Nat) (xs : List Int) (h W x : Nat → Int) (hl : xs.length = len) (ha : at_ + 64 ≤ len) (hs : len ≤ 140737488358400) (hW : ∀ t, t < 16 → wordR (xs.getD (at_ + 4 * t) 0) (xs.getD (at_ + 4 * t + 1) 0) (xs.getD (at_ + 4 * t + 2) 0) (xs.getD (at_ + 4 * t + 3) 0) = W t)
    (hp : ∀ g x, (∀ j, j < 16 → x j = W j) → Post .normal (fill g 0 (r256.none.M7 len at_)) (r256.none.memW xs lo h x)) (g : Nat → SV) :
    RunsF Tryd.prog Gs 0 (.block 2 (.loop r256.L2)) (fill g 0 (r256.none.M2 len at_ 0)) (r256.none.memW xs lo h x) Post := by
  refine Runs.block ?_
  refine Runs.loopX (fun (p : Nat × (Nat → Int)) => r256.none.M2 len at_ p.1) (fun p => r256.none.memW xs lo h p.2) (fun p => p.1 ≤ 16 ∧ ∀ j, j < p.1 → p.2 j = W j) (fun p => 16 - p.1) ?_ (0, x) ⟨Nat.zero_le _, fun j hj => by simp only at hj; omega⟩ g
  rintro ⟨t, x⟩ g ⟨ht, hx⟩
  simp only at ht hx
  by_cases hlt : t < 16
  · have w0 : IntKind.i64.wrap (4 * (t : Int)) = ((4 * t : Nat) : Int) := i64n (by omega) (by omega)
    have w1 : IntKind.i64.wrap ((at_ : Int) + ((4 * t : Nat) : Int)) = ((at_ + 4 * t : Nat) : Int) := i64n (by omega) (by omega)
    have wi : ∀ i : Nat, i < 100 → IntKind.i64.wrap (((at_ + 4 * t : Nat) : Int) + (i : Int)) = ((at_ + 4 * t + i : Nat) : Int) := fun i hi => i64n (by omega) (by omega)
    have ld : ∀ e : Nat, e < len → 0 ≤ (e : Int) ∧ (e : Int) < (len : Int) ∧ 0 + e < xs.length := fun e he => ⟨by omega, by omega, by omega⟩
    have z : ∀ e : Nat, xs.getD (0 + e) 0 = xs.getD e 0 := fun e => by rw [Nat.zero_add]
    refine Runs.of_outX tys_ok mixed (r256.none.step2 len at_ lo xs h x t (xs.getD (at_ + 4 * t) 0) (xs.getD (at_ + 4 * t + 1) 0) (xs.getD (at_ + 4 * t + 2) 0) (xs.getD (at_ + 4 * t + 3) 0) (W t) g)
      ⟨decide_eq_true (by omega), w0, w1, (ld _ (by omega)).1, (ld _ (by omega)).2.1, (ld _ (by omega)).2.2, z _, w0, w1, wi 1 (by omega), (ld _ (by omega)).1, (ld _ (by omega)).2.1, (ld _ (by omega)).2.2, z _,
       w0, w1, wi 2 (by omega), (ld _ (by omega)).1, (ld _ (by omega)).2.1, (ld _ (by omega)).2.2, z _, w0, w1, wi 3 (by omega), (ld _ (by omega)).1, (ld _ (by omega)).2.1, (ld _ (by omega)).2.2, z _,
       hW t hlt, by omega, by omega, by rw [restL_length]; omega, i64n (by omega) (by omega), trivial⟩ (r256.none.ids2 _ _ _ _ _ _ _) rfl fun g' => ⟨(t + 1, putF (0 + t) [W t] x), g', rfl, rfl, ⟨hlt, fun j hj => ?_⟩, by simp only; omega⟩
    simp only at hj ⊢
    rw [putF_one]
    by_cases e : j = 0 + t
    · rw [if_pos e, e, Nat.zero_add]
    · rw [if_neg e]; exact hx j (by omega)
  · obtain rfl : t = 16 := by omega
    exact Runs.of_outX tys_ok mixed (r256.none.end2 len at_ lo xs h x 16 g) ⟨by decide, trivial⟩ (r256.none.ids7 _ _ _ _ _ _) rfl fun g' => hp g' x hx
theorem r256_none_loop3 (len at_ lo : Nat) (xs : List Int) (h W x : Nat → Int) (hS : ∀ t, t < 48 → schedF (W (t + 14)) (W (t + 1)) (W (t + 9)) (W t) = W (t + 16)) (hx0 : ∀ j, j < 16 → x j = W j)
    (hp : ∀ g x, (∀ j, j < 64 → x j = W j) → Post .normal (fill g 0 (r256.none.M7 len at_)) (r256.none.memW xs lo h x)) (g : Nat → SV) :
    RunsF Tryd.prog Gs 0 (.block 4 (.loop r256.L3)) (fill g 0 (r256.none.M3 len at_ 16)) (r256.none.memW xs lo h x) Post := by
  refine Runs.block ?_
  refine Runs.loopX (fun (p : Nat × (Nat → Int)) => r256.none.M3 len at_ (p.1 + 16)) (fun p => r256.none.memW xs lo h p.2) (fun p => p.1 ≤ 48 ∧ ∀ j, j < p.1 + 16 → p.2 j = W j) (fun p => 48 - p.1) ?_ (0, x) ⟨Nat.zero_le _, fun j hj => hx0 j (by simpa using hj)⟩ g
  rintro ⟨t, x⟩ g ⟨ht, hx⟩
  simp only at ht hx
  by_cases hlt : t < 48
  · have w14 : IntKind.i64.wrap (((t + 16 : Nat) : Int) - 2) = ((t + 14 : Nat) : Int) := i64n (by omega) (by omega)
    have w1 : IntKind.i64.wrap (((t + 16 : Nat) : Int) - 15) = ((t + 1 : Nat) : Int) := i64n (by omega) (by omega)
    have w9 : IntKind.i64.wrap (((t + 16 : Nat) : Int) - 7) = ((t + 9 : Nat) : Int) := i64n (by omega) (by omega)
    have w0 : IntKind.i64.wrap (((t + 16 : Nat) : Int) - 16) = ((t : Nat) : Int) := i64n (by omega) (by omega)
    have ld : ∀ e : Nat, e < 64 → 0 ≤ (e : Int) ∧ (e : Int) < ((64 : Nat) : Int) ∧ 0 + e < (restL x 0 64).length := fun e he => ⟨by omega, by omega, by rw [restL_length]; omega⟩
    have r : ∀ e : Nat, e < t + 16 → (restL x 0 64).getD (0 + e) 0 = W e := fun e he => by rw [restL_get0 x e (by omega)]; exact hx e he
    have a1 := ld (t + 14) (by omega)
    have a2 := r (t + 14) (by omega)
    have b1 := ld (t + 1) (by omega)
    have b2 := r (t + 1) (by omega)
    have c1 := ld (t + 9) (by omega)
    have c2 := r (t + 9) (by omega)
    have d1 := ld t (by omega)
    have d2 := r t (by omega)
    refine Runs.of_outX tys_ok mixed (r256.none.step3 len at_ lo xs h x t (W (t + 14)) (W (t + 1)) (W (t + 9)) (W t) (W (t + 16)) g)
      ⟨decide_eq_true (by omega), w14, a1.1, a1.2.1, a1.2.2, a2, w14, a1.1, a1.2.1, a1.2.2, a2, w14, a1.1, a1.2.1, a1.2.2, a2, w1, b1.1, b1.2.1, b1.2.2, b2, w1, b1.1, b1.2.1, b1.2.2, b2, w1, b1.1, b1.2.1, b1.2.2, b2,
       w9, c1.1, c1.2.1, c1.2.2, c2, w0, d1.1, d1.2.1, d1.2.2, d2, hS t hlt, by omega, by omega, by rw [restL_length]; omega, i64n (by omega) (by omega), trivial⟩ (r256.none.ids3 _ _ _ _ _ _ _) rfl fun g' => ⟨(t + 1, putF (0 + (t + 16)) [W (t + 16)] x), g', rfl, rfl, ⟨hlt, fun j hj => ?_⟩, by simp only; omega⟩
    simp only at hj ⊢
    rw [putF_one]
    by_cases e : j = 0 + (t + 16)
    · rw [if_pos e, e, Nat.zero_add]
    · rw [if_neg e]; exact hx j (by omega)
  · obtain rfl : t = 48 := by omega
    exact Runs.of_outX tys_ok mixed (r256.none.end3 len at_ lo xs h x 64 g) ⟨by decide, trivial⟩ (r256.none.ids7 _ _ _ _ _ _) rfl fun g' => hp g' x hx
theorem r256_none_loop4 (len at_ lo : Nat) (xs : List Int) (h W x : Nat → Int) (hx : ∀ j, j < 64 → x j = W j) (hp : ∀ g, Post .normal (fill g 0 (r256.none.M19 len at_)) (r256.none.memS xs lo h x (rounds h W 64))) (g : Nat → SV) :
    RunsF Tryd.prog Gs 0 (.block 6 (.loop r256.L4)) (fill g 0 (r256.none.M4 len at_ 0)) (r256.none.memS xs lo h x h) Post := by
  refine Runs.block ?_
  refine Runs.loopX (fun (t : Nat) => r256.none.M4 len at_ t) (fun t => r256.none.memS xs lo h x (rounds h W t)) (fun t => t ≤ 64) (fun t => 64 - t) ?_ 0 (Nat.zero_le _) g
  intro t g ht
  by_cases hlt : t < 64
  · exact Runs.of_outX tys_ok mixed (r256.none.step4 len at_ lo xs h x (rounds h W t) t (k256L.getD t 0) (W t) g)
      ⟨decide_eq_true (by omega), by omega, by omega, by show 0 + t < 64; omega, by rw [Nat.zero_add], by omega, by omega, by rw [restL_length]; omega, by rw [restL_get0 x t hlt]; exact hx t hlt, i64n (by omega) (by omega), trivial⟩ (r256.none.ids4 _ _ _ _ _ _ _ _) rfl fun g' => ⟨t + 1, g', rfl, rfl, hlt, by omega⟩
  · obtain rfl : t = 64 := by omega
    exact Runs.of_outX tys_ok mixed (r256.none.end4 len at_ lo xs h x _ 64 g) ⟨by decide, trivial⟩ (r256.none.ids19 _ _ _ _ _ _ _) rfl hp
theorem r256_none_loop5 (len at_ lo : Nat) (xs : List Int) (h x s : Nat → Int) (hp : ∀ g, Post .normal (fill g 0 (r256.none.MH len at_)) (r256.none.memH xs lo (fun i => addW (h i) (s i)))) (g : Nat → SV) :
    RunsF Tryd.prog Gs 0 (.block 8 (.loop r256.L5)) (fill g 0 (r256.none.M5 len at_ 0)) (r256.none.memS xs lo (sblk.sumH h s 0) x s) Post := by
  refine Runs.block ?_
  refine Runs.loopX (fun (t : Nat) => r256.none.M5 len at_ t) (fun t => r256.none.memS xs lo (sblk.sumH h s t) x s) (fun t => t ≤ 8) (fun t => 8 - t) ?_ 0 (Nat.zero_le _) g
  intro t g ht
  by_cases hlt : t < 8
  · exact Runs.of_outX tys_ok mixed (tab_get (r256.none.tab5 len at_ lo xs h x s g) t hlt) trivial (r256.none.ids5 _ _ _ _ _ _ _ _) rfl fun g' => ⟨t + 1, g', rfl, rfl, hlt, by omega⟩
  · obtain rfl : t = 8 := by omega
    exact Runs.of_outX tys_ok mixed (r256.none.end5 len at_ lo xs h x s g) trivial (r256.none.idsH _ _ _ _ _) rfl hp
theorem r256_none_block (len at_ lo : Nat) (xs : List Int) (h : Nat → Int) (hl : xs.length = len) (ha : at_ + 64 ≤ len) (hs : len ≤ 140737488358400) (hb : ∀ y ∈ xs, Byt y)
    (hp : ∀ g, Post .normal (fill g 0 (r256.none.MH len at_)) (r256.none.memH xs lo (compF h (schW fun j => xs.getD (at_ + j) 0)))) (g : Nat → SV) :
    RunsF Tryd.prog Gs 0 (.block 1 (.seq r256.A7 (.seq (.seq r256.A8 (.block 2 (.loop r256.L2))) (.seq (.seq r256.A13 (.block 4 (.loop r256.L3))) (.seq r256.A19 (.seq (.seq r256.A20 (.block 6 (.loop r256.L4))) (.seq r256.A28 (.block 8 (.loop r256.L5))))))))) (fill g 0 (r256.none.MH len at_)) (r256.none.memH xs lo h) Post := by
  have hS := schW_sched fun j => xs.getD (at_ + j) 0
  refine Runs.block ?_
  refine Runs.seq (Runs.of_outX tys_ok mixed (r256.none.p7 len at_ lo xs h g) trivial (r256.none.ids7 _ _ _ _ _ _) rfl fun g => ?_)
  refine Runs.seq (Runs.seq (Runs.of_outX tys_ok mixed (r256.none.p8 len at_ lo xs h _ g) trivial (r256.none.ids2 _ _ _ _ _ _ _) rfl fun g => ?_))
  refine r256_none_loop2 len at_ lo xs h (schW fun j => xs.getD (at_ + j) 0) _ hl ha hs (fun t ht => ?_) (fun g x hx => ?_) g
  · rw [wordR_eq (getD_byt hb _) (getD_byt hb _) (getD_byt hb _) (getD_byt hb _)]
    exact hS.1 t ht
  refine Runs.seq (Runs.seq (Runs.of_outX tys_ok mixed (r256.none.p13 len at_ lo xs h _ g) trivial (r256.none.ids3 _ _ _ _ _ _ _) rfl fun g => ?_))
  refine r256_none_loop3 len at_ lo xs h _ x hS.2 hx (fun g x hx => ?_) g
  refine Runs.seq (Runs.of_outX tys_ok mixed (r256.none.p19 len at_ lo xs h _ g) trivial (r256.none.ids19 _ _ _ _ _ _ _) rfl fun g => ?_)
  refine Runs.seq (Runs.seq (Runs.of_outX tys_ok mixed (r256.none.p20 len at_ lo xs h _ _ g) trivial (r256.none.ids4 _ _ _ _ _ _ _ _) rfl fun g => ?_))
  refine r256_none_loop4 len at_ lo xs h _ x hx (fun g => ?_) g
  refine Runs.seq (Runs.of_outX tys_ok mixed (r256.none.p28 len at_ lo xs h _ _ g) trivial (r256.none.ids5 _ _ _ _ _ _ _ _) rfl fun g => ?_)
  refine r256_none_loop5 len at_ lo xs h x _ (fun g => ?_) g
  exact hp g
theorem r256_none_great (nb lo : Nat) (xs : List Int) (hl : xs.length = 64 * nb) (hs : nb ≤ 2199023255600) (hb : ∀ y ∈ xs, Byt y)
    (hp : ∀ g, Post .normal (fill g 0 (r256.none.MH (64 * nb) (64 * nb))) (r256.none.memH xs lo (refH xs nb))) (g : Nat → SV) :
    RunsF Tryd.prog Gs 0 (.block 0 (.loop r256.LL)) (fill g 0 (r256.none.MH (64 * nb) (64 * 0))) (r256.none.memH xs lo (refH xs 0)) Post := by
  refine Runs.block ?_
  refine Runs.loopX (fun (i : Nat) => r256.none.MH (64 * nb) (64 * i)) (fun i => r256.none.memH xs lo (refH xs i)) (fun i => i ≤ nb) (fun i => nb - i) ?_ 0 (Nat.zero_le _) g
  intro i g hi
  rw [r256.LL_eq]
  by_cases hlt : i < nb
  · refine Runs.seq (Runs.of_outX tys_ok mixed (r256.none.go (64 * nb) (64 * i) lo xs _ g) ⟨decide_eq_true (by omega), trivial⟩ (r256.none.idsH _ _ _ _ _) rfl fun g => ?_)
    refine Runs.seq (r256_none_block (64 * nb) (64 * i) lo xs _ hl (by omega) (by omega) hb (fun g => ?_) g)
    exact Runs.of_outX tys_ok mixed (r256.none.p6 (64 * nb) (64 * i) lo xs _ g) ⟨i64n (by omega) (by omega), trivial⟩ (r256.none.idsH _ _ _ _ _) rfl fun g' => ⟨i + 1, g', rfl, rfl, hlt, by omega⟩
  · obtain rfl : i = nb := by omega
    exact Runs.seq (Runs.of_outX tys_ok mixed (r256.none.stop (64 * i) (64 * i) lo xs _ g) ⟨decide_eq_false (by omega), trivial⟩ (r256.none.idsH _ _ _ _ _) rfl fun g => hp g)
theorem r256_none_run (a : Option Addr) : RunsF Tryd.prog Gs 0 r256.body (startT r256.fn [.o (.a (.v (.slice a 0 0)))]) [] (EndsM tys r256.fn (endsQ (cB32.enc (refB [])) .none)) := by
  obtain ⟨z1, z2, z3⟩ := padZ_64 ([] : List Int).length
  have hL := padR_length [] 64 8
  rw [r256.body_eq]
  refine Runs.seq (Runs.of_outX tys_ok mixed (r256.none.a0 a) trivial (r256.none.idsN0 a) rfl fun g => ?_)
  refine Runs.seq (Runs.of_outX tys_ok mixed (r256.none.a1 a g) trivial (r256.none.idsN1 a) rfl fun g => ?_)
  refine Runs.seq (Runs.of_outX tys_ok mixed (r256.none.a2 a g) trivial (r256.none.idsN2 a) rfl fun g => ?_)
  refine Runs.seq (Runs.of_outX tys_ok mixed (r256.none.a3 a g) trivial (r256.none.idsN3 a _ _ _) rfl fun g => ?_)
  refine Runs.seq (Runs.seq (Runs.of_outX tys_ok mixed (r256.none.a4 _ _ _ g) trivial (r256.none.idsH _ _ _ _ _) rfl fun g => ?_))
  have hy0 : ([] : List Int).length ≤ 140737488354000 := by first | (rw [hy]; exact hn) | exact Nat.zero_le _
  have hnb : (padR [] 64 8).length = 64 * ((padR [] 64 8).length / 64) := by omega
  have hg := r256_none_great (Post := fun e t m => match e with | .normal => RunsF Tryd.prog Gs 0 r256.DD t m (EndsM tys r256.fn (endsQ (cB32.enc (refB [])) .none)) | .exit i => EndsM tys r256.fn (endsQ (cB32.enc (refB [])) .none) (.exit i) t m | .ret => EndsM tys r256.fn (endsQ (cB32.enc (refB [])) .none) .ret t m) ((padR [] 64 8).length / 64) (padR [] 64 8).length (padR [] 64 8) hnb (by omega) (padR_byt (ys := []) (fun y hy => by cases hy) 64 8) (fun g => Runs.of_exec tys_ok mixed (r256.none.d _ _ _ _ _ g) trivial (EndsM.ret (r256.none.res _ _ _ _ _ g) rfl)) g
  rw [← hnb] at hg
  exact hg
end
def r256_spec : List PArg → Option (SV × LEff × Cst)
  | [.win .u8 ys n ty] => some (cB32.enc (refB ys), .none, [n ≤ 140737488354000, ∀ y ∈ ys, Byt y])
  | [.val (.o (.a (.v (.slice _ 0 0))))] => some (cB32.enc (refB []), .none, [])
  | _ => none
noncomputable def r256_con : Con Tryd.prog Gs := Con.parts tys_ok 15 r256.fn Tryd.func15 (by kernel_rfl) (c := r256.body) (by kernel_rfl) [.win .u8] r256_spec
  (fun ps r e p h hp => by
    unfold r256_spec at h
    split at h <;> cases h
    · exact ⟨cB32.ids _, fun b hb => by simp only [locBlks, PArg.blk, List.append_nil, List.mem_singleton] at hb; rw [hb]⟩
    · exact ⟨cB32.ids _, fun b hb => by cases hb⟩)
  (fun ps r e p cap h hp hi => by
    unfold r256_spec at h
    split at h <;> cases h
    · exact r256_win_run _ _ _ _ hi.1.1 hi.1.2 hp.1 hp.2.1
    · exact r256_none_run _)
end Go.Proofs.YtpmdelihcdaffaaDoor

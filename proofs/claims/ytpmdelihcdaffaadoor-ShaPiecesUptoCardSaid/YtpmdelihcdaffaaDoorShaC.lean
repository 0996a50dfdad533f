/- Package sha2: one block of SHA-256: its loops. -/
import Derived.Test.YtpmdelihcdaffaaDoorShaB
namespace Go.Proofs.YtpmdelihcdaffaaDoor
open Go Go.Eng
set_option linter.unusedVariables false
set_option maxRecDepth 100000

theorem restL_length (R : Nat → Int) : ∀ (k j : Nat), (restL R j k).length = k
  | 0, _ => rfl
  | k + 1, j => by rw [restL, List.length_cons, restL_length R k]
theorem restL_get (R : Nat → Int) : ∀ (k j i : Nat), i < k → (restL R j k).getD i 0 = R (j + i)
  | 0, _, i, h => by omega
  | k + 1, j, 0, h => rfl
  | k + 1, j, i + 1, h => by
    rw [restL, List.getD_cons_succ, restL_get R k (j + 1) i (by omega), show j + 1 + i = j + (i + 1) by omega]
theorem restL_get0 (R : Nat → Int) (i : Nat) (h : i < 64) : (restL R 0 64).getD (0 + i) 0 = R i := by rw [Nat.zero_add, restL_get R 64 0 i h, Nat.zero_add]
theorem restL_drop (R : Nat → Int) : ∀ (i j k : Nat), (restL R j (i + k)).drop i = restL R (j + i) k
  | 0, j, k => by rw [Nat.zero_add]; rfl
  | i + 1, j, k => by
    rw [show i + 1 + k = (i + k) + 1 by omega, restL, List.drop_succ_cons, restL_drop R i (j + 1) k, show j + 1 + i = j + (i + 1) by omega]
theorem restL_take (R : Nat → Int) : ∀ (k m j : Nat), (restL R j (k + m)).take k = restL R j k
  | 0, m, j => by rw [List.take_zero]; rfl
  | k + 1, m, j => by
    rw [show k + 1 + m = (k + m) + 1 by omega, restL, List.take_succ_cons, restL_take R k m (j + 1)]
    rfl
theorem restL_four (R : Nat → Int) (t : Nat) (ht : t < 16) : ((restL R 0 64).drop (4 * t)).take 4 = [R (4 * t), R (4 * t + 1), R (4 * t + 2), R (4 * t + 3)] := by
  rw [show (64 : Nat) = 4 * t + (64 - 4 * t) by omega, restL_drop, show 64 - 4 * t = 4 + (60 - 4 * t) by omega, restL_take, Nat.zero_add]
  rfl
theorem putF_if (o : Nat) (ys : List Int) (R : Nat → Int) (j : Nat) : putF o ys R j = if o ≤ j ∧ j - o < ys.length then ys.getD (j - o) 0 else R j := by
  unfold putF
  by_cases h : o ≤ j ∧ j - o < ys.length
  · rw [if_pos h, Nat.ble_eq_true_of_le h.1]
    have : Nat.blt (j - o) ys.length = true := Nat.ble_eq_true_of_le h.2
    rw [this]; rfl
  · rw [if_neg h]
    have : (Nat.ble o j && Nat.blt (j - o) ys.length) = false := by
      rw [Bool.eq_false_iff]
      intro hc
      rw [Bool.and_eq_true] at hc
      exact h ⟨Nat.le_of_ble_eq_true hc.1, Nat.le_of_ble_eq_true hc.2⟩
    rw [this]; rfl
theorem putF_one (o : Nat) (v : Int) (R : Nat → Int) (j : Nat) : putF o [v] R j = if j = o then v else R j := by
  rw [putF_if]
  by_cases h : j = o
  · subst h
    rw [if_pos ⟨Nat.le_refl _, by rw [Nat.sub_self]; exact Nat.one_pos⟩, if_pos rfl, Nat.sub_self]
    rfl
  · rw [if_neg h, if_neg (by simp only [List.length_singleton]; omega)]
/-- The schedule of a block's words. -/
def Sched (R W : Nat → Int) : Prop := (∀ t, t < 16 → IntKind.u32.wrap (wordV [R (4 * t), R (4 * t + 1), R (4 * t + 2), R (4 * t + 3)]) = W t) ∧ ∀ t, t < 48 → schedF (W (t + 14)) (W (t + 1)) (W (t + 9)) (W t) = W (t + 16)
def rounds (h W : Nat → Int) : Nat → Nat → Int
  | 0 => h
  | t + 1 => roundF (rounds h W t) (k256L.getD t 0) (W t)
theorem i64_small (x : Int) (h0 : 0 ≤ x) (h1 : x < 9223372036854775808) : IntKind.i64.wrap x = x := by rw [IntKind.wrap_i64]; omega
section
variable (h R : Nat → Int) (n : Int) (W : Nat → Int)
theorem sblk_loop1 (hS : Sched R W) (x : Nat → Int) {Post : Ex → List SV → List Blk → Prop} (hp : ∀ g x, (∀ j, j < 16 → x j = W j) → Post .normal (fill g 0 sblk.M0) (sblk.mem h R n x)) (g : Nat → SV) :
    RunsF Tryd.prog Gs 1 (.block 0 (.loop sblk.L1)) (fill g 0 (sblk.M1 0)) (sblk.mem h R n x) Post := by
  refine Runs.block ?_
  refine Runs.loopX (fun (p : Nat × (Nat → Int)) => sblk.M1 p.1) (fun p => sblk.mem h R n p.2) (fun p => p.1 ≤ 16 ∧ ∀ j, j < p.1 → p.2 j = W j) (fun p => 16 - p.1) ?_ (0, x) ⟨Nat.zero_le _, fun j hj => by simp only at hj; omega⟩ g
  rintro ⟨t, x⟩ g ⟨ht, hx⟩
  simp only at ht hx
  by_cases hlt : t < 16
  · refine Runs.of_outX tys_ok mixed (sblk.step1 h R n x t (W t) g) ?_ (sblk.ids1 h R n _ _) rfl fun g' => ⟨(t + 1, putF (0 + t) [W t] x), g', rfl, rfl, ⟨hlt, fun j hj => ?_⟩, by simp only; omega⟩
    · refine ⟨decide_eq_true (by omega), ?_, ?_, by omega, by omega, by omega, ?_, by rw [restL_length]; omega, ?_, by rw [restL_four R t hlt]; exact hS.1 t hlt, by omega, by omega, by rw [restL_length]; omega, ?_, trivial⟩
      · rw [i64_small _ (by omega) (by omega)]; omega
      · rw [i64_small (4 * (t : Int)) (by omega) (by omega), i64_small _ (by omega) (by omega)]; omega
      · unfold advO
        rw [if_neg (by omega), Nat.zero_add, Nat.add_sub_cancel_left]
      · rw [restL_four R t hlt]; simp
      · rw [i64_small _ (by omega) (by omega)]; omega
    · simp only at hj ⊢
      rw [putF_one]
      by_cases e : j = 0 + t
      · rw [if_pos e, e, Nat.zero_add]
      · rw [if_neg e]; exact hx j (by omega)
  · obtain rfl : t = 16 := by omega
    exact Runs.of_outX tys_ok mixed (sblk.end1 h R n x 16 g) ⟨by decide, trivial⟩ (sblk.ids0 h R n x) rfl fun g' => hp g' x hx
theorem sblk_loop2 (hS : Sched R W) (x : Nat → Int) (hx0 : ∀ j, j < 16 → x j = W j) {Post : Ex → List SV → List Blk → Prop} (hp : ∀ g x, (∀ j, j < 64 → x j = W j) → Post .normal (fill g 0 sblk.M0) (sblk.mem h R n x)) (g : Nat → SV) :
    RunsF Tryd.prog Gs 1 (.block 2 (.loop sblk.L2)) (fill g 0 (sblk.M2 16)) (sblk.mem h R n x) Post := by
  refine Runs.block ?_
  refine Runs.loopX (fun (p : Nat × (Nat → Int)) => sblk.M2 (p.1 + 16)) (fun p => sblk.mem h R n p.2) (fun p => p.1 ≤ 48 ∧ ∀ j, j < p.1 + 16 → p.2 j = W j) (fun p => 48 - p.1) ?_ (0, x) ⟨Nat.zero_le _, fun j hj => hx0 j (by simpa using hj)⟩ g
  rintro ⟨t, x⟩ g ⟨ht, hx⟩
  simp only at ht hx
  by_cases hlt : t < 48
  · refine Runs.of_outX tys_ok mixed (sblk.step2 h R n x t (W (t + 14)) (W (t + 1)) (W (t + 9)) (W t) (W (t + 16)) g) ?_ (sblk.ids2 h R n _ _) rfl fun g' => ⟨(t + 1, putF (0 + (t + 16)) [W (t + 16)] x), g', rfl, rfl, ⟨hlt, fun j hj => ?_⟩, by simp only; omega⟩
    · have w : ∀ y : Int, 0 ≤ y → y < 100 → IntKind.i64.wrap y = y := fun y h0 h1 => i64_small y h0 (by omega)
      have l : ∀ e, e < 64 → 0 + e < (restL x 0 64).length := fun e he => by rw [restL_length]; omega
      have r : ∀ e, e < t + 16 → (restL x 0 64).getD (0 + e) 0 = W e := fun e he => by rw [restL_get0 x e (by omega)]; exact hx e he
      refine ⟨decide_eq_true (by omega), ?_, by omega, by omega, l _ (by omega), r _ (by omega), ?_, by omega, by omega, l _ (by omega), r _ (by omega), ?_, by omega, by omega, l _ (by omega), r _ (by omega), ?_, by omega, by omega, l _ (by omega), r _ (by omega), hS.2 t hlt, by omega, by omega, by rw [restL_length]; omega, ?_, trivial⟩
      · rw [w _ (by omega) (by omega)]; omega
      · rw [w _ (by omega) (by omega)]; omega
      · rw [w _ (by omega) (by omega)]; omega
      · rw [w _ (by omega) (by omega)]; omega
      · rw [w _ (by omega) (by omega)]; omega
    · simp only at hj ⊢
      rw [putF_one]
      by_cases e : j = 0 + (t + 16)
      · rw [if_pos e, e, Nat.zero_add]
      · rw [if_neg e]; exact hx j (by omega)
  · obtain rfl : t = 48 := by omega
    exact Runs.of_outX tys_ok mixed (sblk.end2 h R n x 64 g) ⟨by decide, trivial⟩ (sblk.ids0 h R n x) rfl fun g' => hp g' x hx
theorem sblk_loop3 (x : Nat → Int) (hx : ∀ j, j < 64 → x j = W j) {Post : Ex → List SV → List Blk → Prop} (hp : ∀ g, Post .normal (fill g 0 (sblk.M13 (rounds h W 64))) (sblk.mem h R n x)) (g : Nat → SV) :
    RunsF Tryd.prog Gs 1 (.block 4 (.loop sblk.L3)) (fill g 0 (sblk.M3 h 0)) (sblk.mem h R n x) Post := by
  refine Runs.block ?_
  refine Runs.loopX (fun (t : Nat) => sblk.M3 (rounds h W t) t) (fun t => sblk.mem h R n x) (fun t => t ≤ 64) (fun t => 64 - t) ?_ 0 (Nat.zero_le _) g
  intro t g ht
  by_cases hlt : t < 64
  · refine Runs.of_outX tys_ok mixed (sblk.step3 h R n x (rounds h W t) t (k256L.getD t 0) (W t) g) ?_ (sblk.ids3 h R n _ _ _) rfl fun g' => ⟨t + 1, g', rfl, rfl, hlt, by omega⟩
    refine ⟨decide_eq_true (by omega), by omega, by omega, by show 0 + t < 64; omega, by rw [Nat.zero_add], by omega, by omega, by rw [restL_length]; omega, by rw [restL_get0 x t hlt]; exact hx t hlt, ?_, trivial⟩
    rw [i64_small _ (by omega) (by omega)]; omega
  · obtain rfl : t = 64 := by omega
    exact Runs.of_outX tys_ok mixed (sblk.end3 h R n x _ 64 g) ⟨by decide, trivial⟩ (sblk.ids13 h R n x _) rfl hp
theorem sblk_loop4 (x s : Nat → Int) {Post : Ex → List SV → List Blk → Prop} (hp : ∀ g, Post .normal (fill g 0 (sblk.M4 s 8)) (sblk.mem (sblk.sumH h s 8) R n x)) (g : Nat → SV) :
    RunsF Tryd.prog Gs 1 (.block 6 (.loop sblk.L4)) (fill g 0 (sblk.M4 s 0)) (sblk.mem (sblk.sumH h s 0) R n x) Post := by
  refine Runs.block ?_
  refine Runs.loopX (fun (t : Nat) => sblk.M4 s t) (fun t => sblk.mem (sblk.sumH h s t) R n x) (fun t => t ≤ 8) (fun t => 8 - t) ?_ 0 (Nat.zero_le _) g
  intro t g ht
  by_cases hlt : t < 8
  · exact Runs.of_outX tys_ok mixed (tab_get (sblk.tab4 h R n x s g) t hlt) trivial (sblk.ids4 h R n x s _) rfl fun g' => ⟨t + 1, g', rfl, rfl, hlt, by omega⟩
  · obtain rfl : t = 8 := by omega
    exact Runs.of_outX tys_ok mixed (sblk.end4 h R n x s g) trivial (sblk.ids4 h R n x s 8) rfl hp
/-- The hash's words behind a block. -/
def compF (h W : Nat → Int) (i : Nat) : Int := addW (h i) (rounds h W 64 i)
theorem sblk_res (x s : Nat → Int) (g : Nat → SV) : eRes tys (fill g 0 (sblk.M4 s 8)) (fun k => (sblk.mem (sblk.sumH h s 8) R n x)[k]?) sblk.fn.results.toList = some [] := by kernel_rfl
theorem sblk_row (x s : Nat → Int) : (sblk.mem (sblk.sumH h s 8) R n x)[0]? = some ⟨true, 51, hashRow (fun i => addW (h i) (s i)) R n⟩ := by kernel_rfl
theorem sblk_run (hS : Sched R W) : RunsF Tryd.prog Gs 1 sblk.body (startT sblk.fn [.o (.a (.ptr 0 0)), .o (.a (.slc 0 8 64 64))]) [⟨true, 51, hashRow h R n⟩] (EndsM tys sblk.fn (endsQ (.t []) (.upd 51 (hashRow (compF h W) R n)))) := by
  rw [sblk.body_eq]
  refine Runs.seq (Runs.of_outX tys_ok mixed (sblk.pre0 h R n W) trivial (sblk.ids0 h R n _) rfl fun g => ?_)
  refine Runs.seq (Runs.seq (Runs.of_outX tys_ok mixed (sblk.pre1 h R n _ g) trivial (sblk.ids1 h R n _ 0) rfl ?_))
  refine sblk_loop1 h R n W hS _ fun g x hx => ?_
  refine Runs.seq (Runs.seq (Runs.of_outX tys_ok mixed (sblk.pre2 h R n x g) trivial (sblk.ids2 h R n x 16) rfl ?_))
  refine sblk_loop2 h R n W hS x hx fun g x hx => ?_
  refine Runs.seq (Runs.of_outX tys_ok mixed (sblk.pre3 h R n x g) trivial (sblk.ids13 h R n x h) rfl fun g => ?_)
  refine Runs.seq (Runs.seq (Runs.of_outX tys_ok mixed (sblk.pre4 h R n x h g) trivial (sblk.ids3 h R n x h 0) rfl ?_))
  refine sblk_loop3 h R n W x hx fun g => ?_
  refine Runs.seq (Runs.of_outX tys_ok mixed (sblk.pre5 h R n x _ g) trivial (sblk.ids4 h R n x _ 0) rfl ?_)
  refine sblk_loop4 h R n x _ fun g => ?_
  exact EndsM.fall (sblk_res h R n x _ g) ⟨rfl, sblk_row h R n x _⟩
end
end Go.Proofs.YtpmdelihcdaffaaDoor
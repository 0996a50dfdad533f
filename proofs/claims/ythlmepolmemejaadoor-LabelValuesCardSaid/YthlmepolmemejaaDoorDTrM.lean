/- Trees over rows of bits, in plain terms: common bits, the order, nodes that are apart, the node over nodes, what stays around labels. -/
import Derived.Test.YthlmepolmemejaaDoorDCod2
namespace Go.Proofs.YthlmepolmemejaaDoor
open Go Go.Eng
set_option linter.unusedVariables false
set_option linter.unusedSimpArgs false
def Byte (x : Int) : Prop := 0 ≤ x ∧ x < 256
def BOk (b : B32) : Prop := ∀ i, Byte (b.at i)
def bt (x : Int) (k : Nat) : Bool := x / 2 ^ k % 2 == 1
def bitV (b : B32) (i : Nat) : Bool := bt (b.at (i / 8)) (7 - i % 8)
def lcpN (f g : Nat → Bool) : Nat → Nat → Nat
  | 0, i => i
  | k + 1, i => bif f i == g i then lcpN f g k (i + 1) else i
def comV (a b : B32) : Nat := lcpN (bitV a) (bitV b) 256 0
theorem lcpN_le (f g : Nat → Bool) : ∀ k i, i ≤ lcpN f g k i ∧ lcpN f g k i ≤ i + k
  | 0, i => ⟨Nat.le_refl _, Nat.le_refl _⟩
  | k + 1, i => by
    have h := lcpN_le f g k (i + 1)
    rw [lcpN]
    cases f i == g i
    · exact ⟨Nat.le_refl _, by simp⟩
    · simp only [cond_true]; omega
theorem lcpN_eq (f g : Nat → Bool) : ∀ k i j, i ≤ j → j < lcpN f g k i → f j = g j
  | 0, i, j, h1, h2 => by rw [lcpN] at h2; omega
  | k + 1, i, j, h1, h2 => by
    rw [lcpN] at h2
    cases hb : f i == g i with
    | false => rw [hb] at h2; simp at h2; omega
    | true =>
      rw [hb] at h2
      simp only [cond_true] at h2
      rcases Nat.lt_or_ge i j with h | h
      · exact lcpN_eq f g k (i + 1) j h h2
      · obtain rfl : i = j := by omega
        simpa using hb
theorem lcpN_ne (f g : Nat → Bool) : ∀ k i, lcpN f g k i < i + k → f (lcpN f g k i) ≠ g (lcpN f g k i)
  | 0, i, h => by rw [lcpN] at h; omega
  | k + 1, i, h => by
    rw [lcpN] at h ⊢
    cases hb : f i == g i with
    | false => simpa using hb
    | true =>
      rw [hb] at h
      simp only [cond_true] at h ⊢
      exact lcpN_ne f g k (i + 1) (by omega)
theorem com_le (a b : B32) : comV a b ≤ 256 := by have := (lcpN_le (bitV a) (bitV b) 256 0).2; unfold comV; omega
theorem com_eq {a b : B32} {j : Nat} (h : j < comV a b) : bitV a j = bitV b j := lcpN_eq _ _ 256 0 j (Nat.zero_le _) h
theorem com_ne {a b : B32} (h : comV a b < 256) : bitV a (comV a b) ≠ bitV b (comV a b) := lcpN_ne _ _ 256 0 (by unfold comV at h; omega)
theorem le_com {a b : B32} {n : Nat} (hn : n ≤ 256) (h : ∀ j, j < n → bitV a j = bitV b j) : n ≤ comV a b := by
  rcases Nat.lt_or_ge (comV a b) n with h1 | h1
  · exact absurd (h _ h1) (com_ne (by omega))
  · exact h1
theorem com_is {a b : B32} {n : Nat} (hn : n < 256) (h : ∀ j, j < n → bitV a j = bitV b j) (hd : bitV a n ≠ bitV b n) : comV a b = n := by
  have h1 := le_com (by omega) h
  rcases Nat.lt_or_ge n (comV a b) with h2 | h2
  · exact absurd (com_eq h2) hd
  · omega
theorem com_self (a : B32) : comV a a = 256 := Nat.le_antisymm (com_le _ _) (le_com (Nat.le_refl _) fun _ _ => rfl)
theorem byte_sum {x : Int} (hx : Byte x) : x = 128 * (x / 128 % 2) + 64 * (x / 64 % 2) + 32 * (x / 32 % 2) + 16 * (x / 16 % 2) + 8 * (x / 8 % 2) + 4 * (x / 4 % 2) + 2 * (x / 2 % 2) + x % 2 := by
  obtain ⟨x0, x1⟩ := hx
  have a1 : x = 2 * (x / 2) + x % 2 := by omega
  have a2 : x / 2 = 2 * (x / 4) + x / 2 % 2 := by omega
  have a3 : x / 4 = 2 * (x / 8) + x / 4 % 2 := by omega
  have a4 : x / 8 = 2 * (x / 16) + x / 8 % 2 := by omega
  have a5 : x / 16 = 2 * (x / 32) + x / 16 % 2 := by omega
  have a6 : x / 32 = 2 * (x / 64) + x / 32 % 2 := by omega
  have a7 : x / 64 = 2 * (x / 128) + x / 64 % 2 := by omega
  have a8 : x / 128 = x / 128 % 2 := by omega
  generalize x / 2 = q1 at *; generalize x / 4 = q2 at *; generalize x / 8 = q3 at *; generalize x / 16 = q4 at *; generalize x / 32 = q5 at *; generalize x / 64 = q6 at *; generalize x / 128 = q7 at *
  generalize x % 2 = r0 at *; generalize q1 % 2 = r1 at *; generalize q2 % 2 = r2 at *; generalize q3 % 2 = r3 at *; generalize q4 % 2 = r4 at *; generalize q5 % 2 = r5 at *; generalize q6 % 2 = r6 at *; generalize q7 % 2 = r7 at *
  omega
theorem bt_num {x y : Int} {k : Nat} (h : bt x k = bt y k) : x / 2 ^ k % 2 = y / 2 ^ k % 2 := by
  unfold bt at h
  rw [Bool.eq_iff_iff] at h
  simp only [beq_iff_eq] at h
  have h1 := Int.emod_two_eq (x / 2 ^ k)
  have h2 := Int.emod_two_eq (y / 2 ^ k)
  omega
theorem byte_ext {x y : Int} (hx : Byte x) (hy : Byte y) (h : ∀ k, k < 8 → bt x k = bt y k) : x = y := by
  have g0 := bt_num (h 0 (by omega)); have g1 := bt_num (h 1 (by omega)); have g2 := bt_num (h 2 (by omega)); have g3 := bt_num (h 3 (by omega))
  have g4 := bt_num (h 4 (by omega)); have g5 := bt_num (h 5 (by omega)); have g6 := bt_num (h 6 (by omega)); have g7 := bt_num (h 7 (by omega))
  simp only [Int.reducePow, Int.ediv_one] at g0 g1 g2 g3 g4 g5 g6 g7
  rw [byte_sum hx, byte_sum hy, g0, g1, g2, g3, g4, g5, g6, g7]
theorem at_to (b : B32) : ∀ (i : Nat), i < 32 → b.to.getD i 0 = b.at i
  | 0, _ | 1, _ | 2, _ | 3, _ | 4, _ | 5, _ | 6, _ | 7, _ | 8, _ | 9, _ | 10, _ | 11, _ | 12, _ | 13, _ | 14, _ | 15, _
  | 16, _ | 17, _ | 18, _ | 19, _ | 20, _ | 21, _ | 22, _ | 23, _ | 24, _ | 25, _ | 26, _ | 27, _ | 28, _ | 29, _ | 30, _ | 31, _ => rfl
  | n + 32, h => absurd h (by omega)
theorem b32_ext {a b : B32} (h : ∀ i, i < 32 → a.at i = b.at i) : a = b := by
  have h0 := h 0 (by omega); have h1 := h 1 (by omega); have h2 := h 2 (by omega); have h3 := h 3 (by omega); have h4 := h 4 (by omega); have h5 := h 5 (by omega); have h6 := h 6 (by omega); have h7 := h 7 (by omega)
  have h8 := h 8 (by omega); have h9 := h 9 (by omega); have h10 := h 10 (by omega); have h11 := h 11 (by omega); have h12 := h 12 (by omega); have h13 := h 13 (by omega); have h14 := h 14 (by omega); have h15 := h 15 (by omega)
  have h16 := h 16 (by omega); have h17 := h 17 (by omega); have h18 := h 18 (by omega); have h19 := h 19 (by omega); have h20 := h 20 (by omega); have h21 := h 21 (by omega); have h22 := h 22 (by omega); have h23 := h 23 (by omega)
  have h24 := h 24 (by omega); have h25 := h 25 (by omega); have h26 := h 26 (by omega); have h27 := h 27 (by omega); have h28 := h 28 (by omega); have h29 := h 29 (by omega); have h30 := h 30 (by omega); have h31 := h 31 (by omega)
  cases a; cases b
  simp only [B32.at] at *
  simp only [*]
def topB (x : Int) (r : Nat) : Int := bif Nat.ble 8 r then x else x / 2 ^ (8 - r) * 2 ^ (8 - r)
def fstV (b : B32) (n : Nat) : B32 := B32.mk' fun j => topB (b.at j) (n - 8 * j)
def ltV (a b : B32) : Bool := bif Nat.blt (comV a b) 256 then bitV b (comV a b) else false
theorem blt_t {a b : Nat} (h : a < b) : Nat.blt a b = true := by unfold Nat.blt; rw [Nat.ble_eq]; exact h
theorem blt_f {a b : Nat} (h : b ≤ a) : Nat.blt a b = false := by rw [← Bool.not_eq_true]; unfold Nat.blt; rw [Nat.ble_eq]; omega
theorem lt_com {a b : B32} (h : ltV a b = true) : comV a b < 256 ∧ bitV a (comV a b) = false ∧ bitV b (comV a b) = true := by
  unfold ltV at h
  rcases Nat.lt_or_ge (comV a b) 256 with h1 | h1
  · rw [blt_t h1, cond_true] at h
    refine ⟨h1, ?_, h⟩
    have := com_ne h1
    rw [h] at this
    simpa using this
  · rw [blt_f h1] at h; cases h
theorem lt_of {a b : B32} {n : Nat} (hn : n < 256) (h : ∀ j, j < n → bitV a j = bitV b j) (ha : bitV a n = false) (hb : bitV b n = true) : ltV a b = true ∧ comV a b = n := by
  have hc := com_is hn h (by rw [ha, hb]; decide)
  refine ⟨?_, hc⟩
  unfold ltV
  rw [hc, blt_t hn, cond_true, hb]
theorem lt_irrefl (a : B32) : ltV a a = false := by unfold ltV; rw [com_self]; rfl
theorem lt_trans' {a b c : B32} (h : ltV a b = true) (k : ltV b c = true) : ltV a c = true ∧ comV a c = min (comV a b) (comV b c) := by
  obtain ⟨h1, h2, h3⟩ := lt_com h
  obtain ⟨k1, k2, k3⟩ := lt_com k
  rcases Nat.lt_trichotomy (comV a b) (comV b c) with h4 | h4 | h4
  · rw [Nat.min_eq_left (by omega)]
    exact lt_of h1 (fun j hj => (com_eq hj).trans (com_eq (by omega))) h2 ((com_eq h4).symm.trans h3)
  · rw [h4] at h3; rw [h3] at k2; cases k2
  · rw [Nat.min_eq_right (by omega)]
    exact lt_of k1 (fun j hj => (com_eq (show j < comV a b by omega)).trans (com_eq hj)) ((com_eq h4).trans k2) k3
structure Nd where
  len : Int
  pre : B32
  hash : B32
def zB : B32 := ⟨0, 0, 0, 0, 0, 0, 0, 0, 0, 0, 0, 0, 0, 0, 0, 0, 0, 0, 0, 0, 0, 0, 0, 0, 0, 0, 0, 0, 0, 0, 0, 0⟩
def eqL : List Int → List Int → Bool
  | [], [] => true
  | x :: xs, y :: ys => (x == y) && eqL xs ys
  | _, _ => false
theorem eqL_iff : ∀ (a b : List Int), eqL a b = true ↔ a = b
  | [], [] => by simp [eqL]
  | [], _ :: _ => by simp [eqL]
  | _ :: _, [] => by simp [eqL]
  | x :: xs, y :: ys => by simp [eqL, eqL_iff xs ys]
def NOk (n : Nd) : Prop := BOk n.pre ∧ BOk n.hash
structure GoodP (n : Nd) : Prop where
  lo : 0 ≤ n.len
  hi : n.len ≤ 256
  eq : fstV n.pre n.len.toNat = n.pre
def Next (m n : Nd) : Prop := ltV m.pre n.pre = true ∧ (comV m.pre n.pre : Int) < m.len ∧ (comV m.pre n.pre : Int) < n.len
theorem Next.trans {a b c : Nd} (h : Next a b) (k : Next b c) : Next a c := by
  obtain ⟨h1, h2, h3⟩ := h
  obtain ⟨k1, k2, k3⟩ := k
  obtain ⟨e1, e2⟩ := lt_trans' h1 k1
  refine ⟨e1, ?_, ?_⟩ <;> rw [e2] <;> omega
structure Ap (l : List Nd) : Prop where
  good : ∀ n ∈ l, GoodP n
  pair : l.Pairwise Next
  ok : ∀ n ∈ l, NOk n
theorem Ap.sub {l k : List Nd} (h : Ap l) (s : k.Sublist l) : Ap k := ⟨fun n hn => h.good n (s.subset hn), h.pair.sublist s, fun n hn => h.ok n (s.subset hn)⟩
section
variable (H : Nd → Nd → B32)
end
section
variable (H : Nd → Nd → B32)
variable (hH : ∀ a b, BOk (H a b))
include hH
end
section
variable (H : Nd → Nd → B32)
variable (hH : ∀ a b, BOk (H a b))
include hH
end
end Go.Proofs.YthlmepolmemejaaDoor

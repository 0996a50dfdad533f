/- Rows of 32 bytes, the numbers that they stand for, and limbs: plain arithmetic, no program. -/
import Derived.Test.YtmfobbdgmedhdaaFMath
namespace Go.Proofs.Ytmfobbdgmedhdaa
open Go Go.Eng
set_option linter.unusedVariables false

def Byte (x : Int) : Prop := 0 ≤ x ∧ x < 256
def BOk (b : B32) : Prop := ∀ i, Byte (b.at i)
def VB (b : B32) : Int := b.b0 + 256 * (b.b1 + 256 * (b.b2 + 256 * (b.b3 + 256 * (b.b4 + 256 * (b.b5 + 256 * (b.b6 + 256 * (b.b7 + 256 * (b.b8 + 256 * (b.b9 + 256 * (b.b10 + 256 * (b.b11 + 256 * (b.b12 + 256 * (b.b13 + 256 * (b.b14 + 256 * (b.b15
  + 256 * (b.b16 + 256 * (b.b17 + 256 * (b.b18 + 256 * (b.b19 + 256 * (b.b20 + 256 * (b.b21 + 256 * (b.b22 + 256 * (b.b23 + 256 * (b.b24 + 256 * (b.b25 + 256 * (b.b26 + 256 * (b.b27 + 256 * (b.b28 + 256 * (b.b29 + 256 * (b.b30 + 256 * b.b31))))))))))))))))))))))))))))))

theorem stepW {acc x : Int} (h0 : 0 ≤ acc) (h1 : acc < 72057594037927936) (hx : Byte x) : orU (shlU acc 8) (IntKind.u64.wrap x) = acc * 256 + x := by
  obtain ⟨x0, x1⟩ := hx
  rw [shlU_eq, wrap64]
  rw [orU_add 8 _ _ (by omega) (by omega) (by omega) (by omega) (by omega) (by omega)]
  omega
def sum8 (b : B32) (k : Nat) : Int := (((((((b.at (k + 7)) * 256 + b.at (k + 6)) * 256 + b.at (k + 5)) * 256 + b.at (k + 4)) * 256 + b.at (k + 3)) * 256 + b.at (k + 2)) * 256 + b.at (k + 1)) * 256 + b.at (k + 0)
theorem word8_eq (b : B32) (k : Nat) (h : BOk b) : word8 b k = sum8 b k := by
  have h7 := h (k + 7)
  have h6 := h (k + 6)
  have h5 := h (k + 5)
  have h4 := h (k + 4)
  have h3 := h (k + 3)
  have h2 := h (k + 2)
  have h1 := h (k + 1)
  have h0 := h (k + 0)
  unfold Byte at *
  unfold word8 sum8
  simp only
  rw [stepW (by omega) (by omega) h7, stepW (by omega) (by omega) h6, stepW (by omega) (by omega) h5, stepW (by omega) (by omega) h4, stepW (by omega) (by omega) h3, stepW (by omega) (by omega) h2, stepW (by omega) (by omega) h1, stepW (by omega) (by omega) h0]
  omega

theorem limb0 (b0 b1 b2 b3 b4 b5 b6 b7 : Int) (hb0 : 0 ≤ b0 ∧ b0 < 256) (hb1 : 0 ≤ b1 ∧ b1 < 256) (hb2 : 0 ≤ b2 ∧ b2 < 256) (hb3 : 0 ≤ b3 ∧ b3 < 256) (hb4 : 0 ≤ b4 ∧ b4 < 256) (hb5 : 0 ≤ b5 ∧ b5 < 256) (hb6 : 0 ≤ b6 ∧ b6 < 256) (hb7 : 0 ≤ b7 ∧ b7 < 256) : (((((((((b7) * 256 + b6) * 256 + b5) * 256 + b4) * 256 + b3) * 256 + b2) * 256 + b1) * 256 + b0) / 1) % 2251799813685248 = b0 + 256 * b1 + 65536 * b2 + 16777216 * b3 + 4294967296 * b4 + 1099511627776 * b5 + 281474976710656 * (b6 % 8) := by
  omega
theorem limb1 (b6 b7 b8 b9 b10 b11 b12 b13 : Int) (hb6 : 0 ≤ b6 ∧ b6 < 256) (hb7 : 0 ≤ b7 ∧ b7 < 256) (hb8 : 0 ≤ b8 ∧ b8 < 256) (hb9 : 0 ≤ b9 ∧ b9 < 256) (hb10 : 0 ≤ b10 ∧ b10 < 256) (hb11 : 0 ≤ b11 ∧ b11 < 256) (hb12 : 0 ≤ b12 ∧ b12 < 256) (hb13 : 0 ≤ b13 ∧ b13 < 256) : (((((((((b13) * 256 + b12) * 256 + b11) * 256 + b10) * 256 + b9) * 256 + b8) * 256 + b7) * 256 + b6) / 8) % 2251799813685248 = b6 / 8 + 32 * b7 + 8192 * b8 + 2097152 * b9 + 536870912 * b10 + 137438953472 * b11 + 35184372088832 * (b12 % 64) := by
  omega
theorem limb2 (b12 b13 b14 b15 b16 b17 b18 b19 : Int) (hb12 : 0 ≤ b12 ∧ b12 < 256) (hb13 : 0 ≤ b13 ∧ b13 < 256) (hb14 : 0 ≤ b14 ∧ b14 < 256) (hb15 : 0 ≤ b15 ∧ b15 < 256) (hb16 : 0 ≤ b16 ∧ b16 < 256) (hb17 : 0 ≤ b17 ∧ b17 < 256) (hb18 : 0 ≤ b18 ∧ b18 < 256) (hb19 : 0 ≤ b19 ∧ b19 < 256) : (((((((((b19) * 256 + b18) * 256 + b17) * 256 + b16) * 256 + b15) * 256 + b14) * 256 + b13) * 256 + b12) / 64) % 2251799813685248 = b12 / 64 + 4 * b13 + 1024 * b14 + 262144 * b15 + 67108864 * b16 + 17179869184 * b17 + 4398046511104 * b18 + 1125899906842624 * (b19 % 2) := by
  omega
theorem limb3 (b19 b20 b21 b22 b23 b24 b25 b26 : Int) (hb19 : 0 ≤ b19 ∧ b19 < 256) (hb20 : 0 ≤ b20 ∧ b20 < 256) (hb21 : 0 ≤ b21 ∧ b21 < 256) (hb22 : 0 ≤ b22 ∧ b22 < 256) (hb23 : 0 ≤ b23 ∧ b23 < 256) (hb24 : 0 ≤ b24 ∧ b24 < 256) (hb25 : 0 ≤ b25 ∧ b25 < 256) (hb26 : 0 ≤ b26 ∧ b26 < 256) : (((((((((b26) * 256 + b25) * 256 + b24) * 256 + b23) * 256 + b22) * 256 + b21) * 256 + b20) * 256 + b19) / 2) % 2251799813685248 = b19 / 2 + 128 * b20 + 32768 * b21 + 8388608 * b22 + 2147483648 * b23 + 549755813888 * b24 + 140737488355328 * (b25 % 16) := by
  omega
theorem limb4 (b24 b25 b26 b27 b28 b29 b30 b31 : Int) (hb24 : 0 ≤ b24 ∧ b24 < 256) (hb25 : 0 ≤ b25 ∧ b25 < 256) (hb26 : 0 ≤ b26 ∧ b26 < 256) (hb27 : 0 ≤ b27 ∧ b27 < 256) (hb28 : 0 ≤ b28 ∧ b28 < 256) (hb29 : 0 ≤ b29 ∧ b29 < 256) (hb30 : 0 ≤ b30 ∧ b30 < 256) (hb31 : 0 ≤ b31 ∧ b31 < 256) : (((((((((b31) * 256 + b30) * 256 + b29) * 256 + b28) * 256 + b27) * 256 + b26) * 256 + b25) * 256 + b24) / 4096) % 2251799813685248 = b25 / 16 + 16 * b26 + 4096 * b27 + 1048576 * b28 + 268435456 * b29 + 68719476736 * b30 + 17592186044416 * (b31 % 128) := by
  omega
theorem limb0' (x y : Int) (hx : 0 ≤ x ∧ x < 2251799813685248) (hy : 0 ≤ y ∧ y < 256) : addU x (mulU 19 (y / 128 % 18446744073709551616)) = x + 19 * (y / 128) := by
  rw [addU_eq, mulU_eq]
  have : y / 128 % 18446744073709551616 = y / 128 := by omega
  rw [this]
  have : 19 * (y / 128) % 18446744073709551616 = 19 * (y / 128) := by omega
  rw [this]
  omega

theorem of_lim (b : B32) (h : BOk b) : Lim (ofF b) ∧ V (ofF b) = VB b - (b.b31 / 128) * pP := by
  unfold ofF
  rw [word8_eq b 0 h, word8_eq b 6 h, word8_eq b 12 h, word8_eq b 19 h, word8_eq b 24 h]
  have hb : ∀ i, Byte (b.at i) := h
  have k0 : 0 ≤ b.b0 ∧ b.b0 < 256 := hb 0
  have k1 : 0 ≤ b.b1 ∧ b.b1 < 256 := hb 1
  have k2 : 0 ≤ b.b2 ∧ b.b2 < 256 := hb 2
  have k3 : 0 ≤ b.b3 ∧ b.b3 < 256 := hb 3
  have k4 : 0 ≤ b.b4 ∧ b.b4 < 256 := hb 4
  have k5 : 0 ≤ b.b5 ∧ b.b5 < 256 := hb 5
  have k6 : 0 ≤ b.b6 ∧ b.b6 < 256 := hb 6
  have k7 : 0 ≤ b.b7 ∧ b.b7 < 256 := hb 7
  have k8 : 0 ≤ b.b8 ∧ b.b8 < 256 := hb 8
  have k9 : 0 ≤ b.b9 ∧ b.b9 < 256 := hb 9
  have k10 : 0 ≤ b.b10 ∧ b.b10 < 256 := hb 10
  have k11 : 0 ≤ b.b11 ∧ b.b11 < 256 := hb 11
  have k12 : 0 ≤ b.b12 ∧ b.b12 < 256 := hb 12
  have k13 : 0 ≤ b.b13 ∧ b.b13 < 256 := hb 13
  have k14 : 0 ≤ b.b14 ∧ b.b14 < 256 := hb 14
  have k15 : 0 ≤ b.b15 ∧ b.b15 < 256 := hb 15
  have k16 : 0 ≤ b.b16 ∧ b.b16 < 256 := hb 16
  have k17 : 0 ≤ b.b17 ∧ b.b17 < 256 := hb 17
  have k18 : 0 ≤ b.b18 ∧ b.b18 < 256 := hb 18
  have k19 : 0 ≤ b.b19 ∧ b.b19 < 256 := hb 19
  have k20 : 0 ≤ b.b20 ∧ b.b20 < 256 := hb 20
  have k21 : 0 ≤ b.b21 ∧ b.b21 < 256 := hb 21
  have k22 : 0 ≤ b.b22 ∧ b.b22 < 256 := hb 22
  have k23 : 0 ≤ b.b23 ∧ b.b23 < 256 := hb 23
  have k24 : 0 ≤ b.b24 ∧ b.b24 < 256 := hb 24
  have k25 : 0 ≤ b.b25 ∧ b.b25 < 256 := hb 25
  have k26 : 0 ≤ b.b26 ∧ b.b26 < 256 := hb 26
  have k27 : 0 ≤ b.b27 ∧ b.b27 < 256 := hb 27
  have k28 : 0 ≤ b.b28 ∧ b.b28 < 256 := hb 28
  have k29 : 0 ≤ b.b29 ∧ b.b29 < 256 := hb 29
  have k30 : 0 ≤ b.b30 ∧ b.b30 < 256 := hb 30
  have k31 : 0 ≤ b.b31 ∧ b.b31 < 256 := hb 31
  have e0 : sum8 b 0 = (((((((b.b7) * 256 + b.b6) * 256 + b.b5) * 256 + b.b4) * 256 + b.b3) * 256 + b.b2) * 256 + b.b1) * 256 + b.b0 := rfl
  have e6 : sum8 b 6 = (((((((b.b13) * 256 + b.b12) * 256 + b.b11) * 256 + b.b10) * 256 + b.b9) * 256 + b.b8) * 256 + b.b7) * 256 + b.b6 := rfl
  have e12 : sum8 b 12 = (((((((b.b19) * 256 + b.b18) * 256 + b.b17) * 256 + b.b16) * 256 + b.b15) * 256 + b.b14) * 256 + b.b13) * 256 + b.b12 := rfl
  have e19 : sum8 b 19 = (((((((b.b26) * 256 + b.b25) * 256 + b.b24) * 256 + b.b23) * 256 + b.b22) * 256 + b.b21) * 256 + b.b20) * 256 + b.b19 := rfl
  have e24 : sum8 b 24 = (((((((b.b31) * 256 + b.b30) * 256 + b.b29) * 256 + b.b28) * 256 + b.b27) * 256 + b.b26) * 256 + b.b25) * 256 + b.b24 := rfl
  have i0 : 0 ≤ sum8 b 0 ∧ sum8 b 0 < 18446744073709551616 := by omega
  have i6 : 0 ≤ sum8 b 6 ∧ sum8 b 6 < 18446744073709551616 := by omega
  have i12 : 0 ≤ sum8 b 12 ∧ sum8 b 12 < 18446744073709551616 := by omega
  have i19 : 0 ≤ sum8 b 19 ∧ sum8 b 19 < 18446744073709551616 := by omega
  have i24 : 0 ≤ sum8 b 24 ∧ sum8 b 24 < 18446744073709551616 := by omega
  have f7 : b.b31.fdiv (2 ^ 7) = b.b31 / 128 := Int.fdiv_eq_ediv_of_nonneg _ (by decide)
  simp only [shrU_eq, wrap64, f7]
  rw [and51 _ i0.1 i0.2, and51 _ (by omega) (by omega), and51 _ (by omega) (by omega), and51 _ (by omega) (by omega), and51 _ (by omega) (by omega)]
  rw [← Int.ediv_one (sum8 b 0), e0, e6, e12, e19, e24]
  have q1 : (2 : Int) ^ 3 = 8 := by decide
  have q2 : (2 : Int) ^ 6 = 64 := by decide
  have q3 : (2 : Int) ^ 1 = 2 := by decide
  have q4 : (2 : Int) ^ 12 = 4096 := by decide
  rw [q1, q2, q3, q4, limb0 _ _ _ _ _ _ _ _ k0 k1 k2 k3 k4 k5 k6 k7, limb1 _ _ _ _ _ _ _ _ k6 k7 k8 k9 k10 k11 k12 k13, limb2 _ _ _ _ _ _ _ _ k12 k13 k14 k15 k16 k17 k18 k19, limb3 _ _ _ _ _ _ _ _ k19 k20 k21 k22 k23 k24 k25 k26, limb4 _ _ _ _ _ _ _ _ k24 k25 k26 k27 k28 k29 k30 k31]
  clear e0 e6 e12 e19 e24 i0 i6 i12 i19 i24 f7 q1 q2 q3 q4
  rw [limb0' _ _ ⟨by omega, by omega⟩ k31]
  constructor
  · refine ⟨⟨?_, ?_⟩, ⟨?_, ?_⟩, ⟨?_, ?_⟩, ⟨?_, ?_⟩, ⟨?_, ?_⟩⟩ <;> simp only <;> omega
  · unfold V VB pP
    simp only
    omega

theorem orU_comm (a b : Int) : orU a b = orU b a := by
  unfold orU bits
  simp only
  rw [BitVec.or_comm]

def Lim51 (e : E5) : Prop := (0 ≤ e.l0 ∧ e.l0 < 2251799813685248) ∧ (0 ≤ e.l1 ∧ e.l1 < 2251799813685248) ∧ (0 ≤ e.l2 ∧ e.l2 < 2251799813685248) ∧ (0 ≤ e.l3 ∧ e.l3 < 2251799813685248) ∧ (0 ≤ e.l4 ∧ e.l4 < 2251799813685248)

theorem mod_unique {a b q : Int} (h : b = a - q * pP) (h0 : 0 ≤ b) (h1 : b < pP) : b = a % pP := by
  rw [← mod_of_sub h, Int.emod_eq_of_lt h0 h1]

/-- The last step of bringing below p, of limbs that are small. -/
def least1 (e : E5) : E5 :=
  let q := shrU (addU e.l4 (shrU (addU e.l3 (shrU (addU e.l2 (shrU (addU e.l1 (shrU (addU e.l0 19) 51)) 51)) 51)) 51)) 51
  let a0 := addU e.l0 (mulU 19 q)
  let a1 := addU e.l1 (shrU a0 51)
  let a2 := addU e.l2 (shrU a1 51)
  let a3 := addU e.l3 (shrU a2 51)
  let a4 := addU e.l4 (shrU a3 51)
  ⟨andU a0 m51, andU a1 m51, andU a2 m51, andU a3 m51, andU a4 m51⟩
theorem addU_small {a b : Int} (ha : 0 ≤ a) (hb : 0 ≤ b) (h : a + b < 18446744073709551616) : addU a b = a + b := by
  rw [addU_eq]; omega
theorem shr51 (a : Int) : shrU a 51 = a / 2251799813685248 := by rw [shrU_eq]; rfl
theorem least1_val (e : E5) (h : (0 ≤ e.l0 ∧ e.l0 < 2251799813685248 + 19) ∧ (0 ≤ e.l1 ∧ e.l1 ≤ 2251799813685248) ∧ (0 ≤ e.l2 ∧ e.l2 ≤ 2251799813685248) ∧ (0 ≤ e.l3 ∧ e.l3 ≤ 2251799813685248) ∧ (0 ≤ e.l4 ∧ e.l4 ≤ 2251799813685248)) :
    Lim51 (least1 e) ∧ V (least1 e) = V e % pP := by
  obtain ⟨⟨a0, a1⟩, ⟨b0, b1⟩, ⟨c0, c1⟩, ⟨d0, d1⟩, ⟨f0, f1⟩⟩ := h
  obtain ⟨l0, l1, l2, l3, l4⟩ := e
  simp only at *
  unfold least1
  simp only [shr51]
  rw [addU_small (a := l0) (b := 19) a0 (by decide) (by omega)]
  generalize ht0 : (l0 + 19) / 2251799813685248 = t0
  have k0 : 0 ≤ t0 ∧ t0 ≤ 1 := by omega
  rw [addU_small (a := l1) (b := t0) b0 k0.1 (by omega)]
  generalize ht1 : (l1 + t0) / 2251799813685248 = t1
  have k1 : 0 ≤ t1 ∧ t1 ≤ 1 := by omega
  rw [addU_small (a := l2) (b := t1) c0 k1.1 (by omega)]
  generalize ht2 : (l2 + t1) / 2251799813685248 = t2
  have k2 : 0 ≤ t2 ∧ t2 ≤ 1 := by omega
  rw [addU_small (a := l3) (b := t2) d0 k2.1 (by omega)]
  generalize ht3 : (l3 + t2) / 2251799813685248 = t3
  have k3 : 0 ≤ t3 ∧ t3 ≤ 1 := by omega
  rw [addU_small (a := l4) (b := t3) f0 k3.1 (by omega)]
  generalize hq : (l4 + t3) / 2251799813685248 = q
  have kq : 0 ≤ q ∧ q ≤ 1 := by omega
  have m19 : mulU 19 q = 19 * q := by rw [mulU_eq]; omega
  rw [m19, addU_small (a := l0) (b := 19 * q) a0 (by omega) (by omega)]
  generalize hs0 : (l0 + 19 * q) / 2251799813685248 = s0
  have j0 : 0 ≤ s0 ∧ s0 ≤ 1 := by omega
  rw [addU_small (a := l1) (b := s0) b0 j0.1 (by omega)]
  generalize hs1 : (l1 + s0) / 2251799813685248 = s1
  have j1 : 0 ≤ s1 ∧ s1 ≤ 1 := by omega
  rw [addU_small (a := l2) (b := s1) c0 j1.1 (by omega)]
  generalize hs2 : (l2 + s1) / 2251799813685248 = s2
  have j2 : 0 ≤ s2 ∧ s2 ≤ 1 := by omega
  rw [addU_small (a := l3) (b := s2) d0 j2.1 (by omega)]
  generalize hs3 : (l3 + s2) / 2251799813685248 = s3
  have j3 : 0 ≤ s3 ∧ s3 ≤ 1 := by omega
  rw [addU_small (a := l4) (b := s3) f0 j3.1 (by omega)]
  rw [and51 _ (by omega) (by omega), and51 _ (by omega) (by omega), and51 _ (by omega) (by omega), and51 _ (by omega) (by omega), and51 _ (by omega) (by omega)]
  have hs4 : (l4 + s3) / 2251799813685248 = q := by
    rcases (by omega : q = 0 ∨ q = 1) with h | h
    · subst h
      have g3 : s3 ≤ t3 := by
        have g0 : s0 ≤ t0 := by omega
        have g1 : s1 ≤ t1 := by omega
        have g2 : s2 ≤ t2 := by omega
        omega
      omega
    · subst h
      have g0 : s0 = t0 := by omega
      have g1 : s1 = t1 := by rw [← hs1, ← ht1, g0]
      have g2 : s2 = t2 := by rw [← hs2, ← ht2, g1]
      have g3 : s3 = t3 := by rw [← hs3, ← ht3, g2]
      omega
  have r0 : (l0 + 19 * q) % 2251799813685248 = l0 + 19 * q - 2251799813685248 * s0 := by omega
  have r1 : (l1 + s0) % 2251799813685248 = l1 + s0 - 2251799813685248 * s1 := by omega
  have r2 : (l2 + s1) % 2251799813685248 = l2 + s1 - 2251799813685248 * s2 := by omega
  have r3 : (l3 + s2) % 2251799813685248 = l3 + s2 - 2251799813685248 * s3 := by omega
  have r4 : (l4 + s3) % 2251799813685248 = l4 + s3 - 2251799813685248 * q := by omega
  rw [r0, r1, r2, r3, r4]
  have w0 : l0 + 19 * q - 2251799813685248 * s0 < 2251799813685248 ∧ 0 ≤ l0 + 19 * q - 2251799813685248 * s0 := by omega
  have w1 : l1 + s0 - 2251799813685248 * s1 < 2251799813685248 ∧ 0 ≤ l1 + s0 - 2251799813685248 * s1 := by omega
  have w2 : l2 + s1 - 2251799813685248 * s2 < 2251799813685248 ∧ 0 ≤ l2 + s1 - 2251799813685248 * s2 := by omega
  have w3 : l3 + s2 - 2251799813685248 * s3 < 2251799813685248 ∧ 0 ≤ l3 + s2 - 2251799813685248 * s3 := by omega
  have w4 : l4 + s3 - 2251799813685248 * q < 2251799813685248 ∧ 0 ≤ l4 + s3 - 2251799813685248 * q := by omega
  refine ⟨⟨⟨w0.2, w0.1⟩, ⟨w1.2, w1.1⟩, ⟨w2.2, w2.1⟩, ⟨w3.2, w3.1⟩, ⟨w4.2, w4.1⟩⟩, ?_⟩
  refine mod_unique (q := q) ?_ ?_ ?_
  · unfold V pP; simp only; omega
  · unfold V; simp only; omega
  · unfold V pP
    simp only
    rcases (by omega : q = 0 ∨ q = 1) with h | h
    · subst h
      have u0 : l0 + 19 < 2251799813685248 * (t0 + 1) := by omega
      have u1 : l1 + t0 < 2251799813685248 * (t1 + 1) := by omega
      have u2 : l2 + t1 < 2251799813685248 * (t2 + 1) := by omega
      have u3 : l3 + t2 < 2251799813685248 * (t3 + 1) := by omega
      have u4 : l4 + t3 < 2251799813685248 := by omega
      clear hs0 hs1 hs2 hs3 hs4 ht0 ht1 ht2 ht3 hq r0 r1 r2 r3 r4 w0 w1 w2 w3 w4 m19
      omega
    · subst h
      clear hs0 hs1 hs2 hs3 hs4 ht0 ht1 ht2 ht3 hq r0 r1 r2 r3 r4 w0 w1 w2 w3 w4 m19
      omega

theorem least_val (e : E5) (h : Words e) : Lim51 (leastF e) ∧ V (leastF e) = V e % pP := by
  have h1 := carried_lim e h
  have hl : leastF e = least1 (carriedF (carriedF e)) := rfl
  have hv : V (carriedF (carriedF e)) % pP = V e % pP := by
    rw [mod_of_sub (carried_val _ h1.words), mod_of_sub (carried_val _ h)]
  rw [hl, ← hv]
  refine least1_val _ ?_
  rw [carried_eq _ h1.words]
  obtain ⟨⟨a0, a1⟩, ⟨b0, b1⟩, ⟨c0, c1⟩, ⟨d0, d1⟩, ⟨f0, f1⟩⟩ := h1
  simp only
  refine ⟨⟨?_, ?_⟩, ⟨?_, ?_⟩, ⟨?_, ?_⟩, ⟨?_, ?_⟩, ⟨?_, ?_⟩⟩ <;> omega

def N4V (w : N4) : Int := w.l0 + 18446744073709551616 * w.l1 + 340282366920938463463374607431768211456 * w.l2 + 6277101735386680763835789423207666416102355444464034512896 * w.l3
def N4Ok (w : N4) : Prop := Word w.l0 ∧ Word w.l1 ∧ Word w.l2 ∧ Word w.l3
theorem words_val (e : E5) (h : Lim51 e) : N4Ok (wordsF e) ∧ N4V (wordsF e) = V e := by
  obtain ⟨⟨a0, a1⟩, ⟨b0, b1⟩, ⟨c0, c1⟩, ⟨d0, d1⟩, ⟨f0, f1⟩⟩ := h
  unfold wordsF
  simp only [shlU_eq, shrU_eq]
  have w0 : orU e.l0 (e.l1 * 2 ^ 51 % 18446744073709551616) = e.l0 + 2251799813685248 * (e.l1 % 8192) := by
    rw [orU_comm, orU_add 51 _ _ (by omega) (by omega) (by omega) (by omega) (by omega) (by omega)]; omega
  have w1 : orU (e.l1 / 2 ^ 13) (e.l2 * 2 ^ 38 % 18446744073709551616) = e.l1 / 8192 + 274877906944 * (e.l2 % 67108864) := by
    rw [orU_comm, orU_add 38 _ _ (by omega) (by omega) (by omega) (by omega) (by omega) (by omega)]; omega
  have w2 : orU (e.l2 / 2 ^ 26) (e.l3 * 2 ^ 25 % 18446744073709551616) = e.l2 / 67108864 + 33554432 * (e.l3 % 549755813888) := by
    rw [orU_comm, orU_add 25 _ _ (by omega) (by omega) (by omega) (by omega) (by omega) (by omega)]; omega
  have w3 : orU (e.l3 / 2 ^ 39) (e.l4 * 2 ^ 12 % 18446744073709551616) = e.l3 / 549755813888 + 4096 * e.l4 := by
    rw [orU_comm, orU_add 12 _ _ (by omega) (by omega) (by omega) (by omega) (by omega) (by omega)]; omega
  rw [w0, w1, w2, w3]
  clear w0 w1 w2 w3
  refine ⟨⟨⟨?_, ?_⟩, ⟨?_, ?_⟩, ⟨?_, ?_⟩, ⟨?_, ?_⟩⟩, ?_⟩
  any_goals (simp only; omega)
  unfold V N4V
  simp only
  omega

theorem byteOf_ok (w : Int) (j : Nat) : Byte (byteOf w j) := by
  unfold byteOf
  rw [IntKind.wrap_u8]
  exact ⟨by omega, by omega⟩
theorem bytes8 (w : Int) (h : Word w) : byteOf w 0 + 256 * (byteOf w 1 + 256 * (byteOf w 2 + 256 * (byteOf w 3 + 256 * (byteOf w 4 + 256 * (byteOf w 5 + 256 * (byteOf w 6 + 256 * byteOf w 7)))))) = w := by
  obtain ⟨h0, h1⟩ := h
  unfold byteOf
  simp only [IntKind.wrap_u8, shrU_eq]
  omega
theorem bytes4_ok (w : N4) : BOk (bytes4 w) := by
  intro i
  unfold B32.at bytes4
  split <;> exact byteOf_ok _ _
theorem bytes4_val (w : N4) (h : N4Ok w) : VB (bytes4 w) = N4V w := by
  obtain ⟨h0, h1, h2, h3⟩ := h
  have k0 := bytes8 _ h0
  have k1 := bytes8 _ h1
  have k2 := bytes8 _ h2
  have k3 := bytes8 _ h3
  unfold VB bytes4 N4V
  simp only
  omega
theorem bytes_val (e : E5) (h : Words e) : BOk (bytesF e) ∧ VB (bytesF e) = V e % pP := by
  obtain ⟨h1, h2⟩ := least_val e h
  obtain ⟨h3, h4⟩ := words_val _ h1
  refine ⟨bytes4_ok _, ?_⟩
  unfold bytesF
  rw [bytes4_val _ h3, h4, h2]
end Go.Proofs.Ytmfobbdgmedhdaa

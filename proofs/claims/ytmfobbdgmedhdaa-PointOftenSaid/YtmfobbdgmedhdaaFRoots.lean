/- Square roots modulo p. -/
import Derived.Test.YtmfobbdgmedhdaaFInv
namespace Go.Proofs.Ytmfobbdgmedhdaa
open Go Go.Eng
set_option linter.unusedVariables false

theorem eqm {a b : Int} : a % pP = b % pP ↔ ∃ k, a = b + k * pP := by
  constructor
  · intro h
    refine ⟨a / pP - b / pP, ?_⟩
    have h1 := Int.mul_ediv_add_emod a pP
    have h2 := Int.mul_ediv_add_emod b pP
    rw [Int.sub_mul, Int.mul_comm (a / pP), Int.mul_comm (b / pP)]
    omega
  · rintro ⟨k, rfl⟩
    rw [Int.add_mul_emod_self_right]

theorem isF_iff {e f : E5} {n m : Int} (he : Is e n) (hf : Is f m) : isF e f = true ↔ n % pP = m % pP := by
  have h1 := he.bytes
  have h2 := hf.bytes
  unfold isF
  constructor
  · intro h
    rw [eqB_iff] at h
    rw [← h1.2, h, h2.2]
  · intro h
    exact eqB_val h1.1 h2.1 (by rw [h1.2, h2.2, h])
theorem VB_par (b : B32) (h : BOk b) : b.b0 % 2 = VB b % 2 := by
  unfold VB
  omega
theorem oddF_iff {e : E5} {n : Int} (he : Is e n) : oddF e = true ↔ n % pP % 2 = 1 := by
  have h1 := he.bytes
  unfold oddF
  rw [show bits .and .u8 (bytesF e).b0 1 = (bytesF e).b0 % 2 from bits_mask .u8 8 (by decide) wraps_u8 1 (by decide) _ (h1.1 0).1 (h1.1 0).2, VB_par _ h1.1, h1.2]
  simp
theorem Is.lit (e : E5) (h : Lim e) : Is e (V e) := ⟨h, rfl⟩
def Jn : Int := 19681161376707505956807079304988542015446066515923890162744021073123829784752
theorem rootM1_is : Is rootM1E Jn := ⟨by unfold Lim; decide, by decide⟩
theorem Jn_sq : Jn * Jn % pP = (-1) % pP := by decide
theorem zeroE_is : Is zeroE 0 := ⟨by unfold Lim; decide, by decide⟩
theorem oneE_is : Is oneE 1 := ⟨by unfold Lim; decide, by decide⟩
theorem sqF1 {e : E5} {x : Int} (h : Is e x) : Is (sqF 1 e) (x * x) := by
  have := h.sq 1
  rw [Nat.pow_one, Int.pow_succ, Int.pow_one] at this
  exact this

/-- The first try of a root of x / y. -/
def root0 (x y : Int) : Int := x * (y * y * y) * (x * (y * y * y * (y * y * y)) * y) ^ K58
theorem ratio0_is {u v : E5} {x y : Int} (hu : Is u x) (hv : Is v y) : Is (ratio0 u v) (root0 x y) := by
  have h3 : Is (v3F v) (y * y * y) := (sqF1 hv).times hv
  exact (hu.times h3).times (pow58_is ((hu.times (sqF1 h3)).times hv))
theorem root0_sq (x y : Int) : y * (root0 x y * root0 x y) = x * (x * (y * y * y * (y * y * y)) * y) ^ (2 * K58 + 1) := by
  rw [Int.pow_succ, Nat.two_mul, Int.pow_add]
  unfold root0
  generalize (x * (y * y * y * (y * y * y)) * y) ^ K58 = T
  grind

theorem sign_of {s : Int} (hs : s % pP ≠ 0) : s ^ (2 * (2 * K58 + 1)) % pP = 1 ∨ s ^ (2 * (2 * K58 + 1)) % pP = (-1) % pP := by
  have h1 := fermatP hs
  rw [show pN - 1 = 2 * (2 * K58 + 1) + 2 * (2 * K58 + 1) from by decide, Int.pow_add] at h1
  generalize s ^ (2 * (2 * K58 + 1)) = g at *
  have h2 : (g - 1) * (g + 1) % pP = 0 := by
    have e : (g - 1) * (g + 1) = g * g - 1 := by grind
    rw [e, Int.sub_emod, h1]
    decide
  rcases mul_zero_p h2 with h | h
  · left
    rw [show (0 : Int) = 0 % pP from by decide, eqm] at h
    obtain ⟨k, hk⟩ := h
    rw [show (1 : Int) = 1 % pP from by decide, eqm]
    exact ⟨k, by omega⟩
  · right
    rw [show (0 : Int) = 0 % pP from by decide, eqm] at h
    obtain ⟨k, hk⟩ := h
    rw [eqm]
    exact ⟨k, by omega⟩

/-- Where x / y is a square, the first try's square is it, or its negative. -/
theorem root0_ok {x y r : Int} (hy : y % pP ≠ 0) (hr : y * (r * r) % pP = x % pP) :
    y * (root0 x y * root0 x y) % pP = x % pP ∨ y * (root0 x y * root0 x y) % pP = (-x) % pP := by
  rw [root0_sq]
  by_cases hx : x % pP = 0
  · left
    rw [Int.mul_emod, hx, Int.zero_mul]
    rfl
  · have hs : r * (y * y * (y * y)) % pP ≠ 0 := fun h => by
      rcases mul_zero_p h with h | h
      · apply hx
        rw [← hr, show y * (r * r) = y * r * r from (Int.mul_assoc _ _ _).symm, Int.mul_emod, h, Int.mul_zero]
        rfl
      · rcases mul_zero_p h with h | h <;> rcases mul_zero_p h with h | h <;> exact hy h
    have ht : (x * (y * y * y * (y * y * y)) * y) ^ (2 * K58 + 1) % pP = (r * (y * y * (y * y))) ^ (2 * (2 * K58 + 1)) % pP := by
      rw [Int.pow_mul]
      have e : (x * (y * y * y * (y * y * y)) * y) % pP = ((r * (y * y * (y * y))) ^ 2) % pP := by
        rw [eqm] at hr ⊢
        obtain ⟨k, hk⟩ := hr
        refine ⟨-k * (y * y * y * (y * y * y)) * y, ?_⟩
        have hx' : x = y * (r * r) - k * pP := by omega
        rw [hx']
        grind
      rw [emod_pow, e, ← emod_pow]
    rcases sign_of hs with h | h
    · left
      rw [← mul_emod_r, ht, h, Int.mul_one]
    · right
      rw [← mul_emod_r, ht, h, mul_emod_r, Int.mul_neg_one]

theorem neg_par {z : Int} (h : z % pP % 2 = 1) : (0 - z) % pP % 2 = 0 := by
  have h0 : 0 ≤ z % pP := Int.emod_nonneg _ (by decide)
  have h1 : z % pP < pP := Int.emod_lt_of_pos _ (by decide)
  have e : (0 - z) % pP = pP - z % pP := by
    have h2 : (0 - z) % pP = (pP - z % pP) % pP := by
      rw [eqm]
      refine ⟨-(z / pP) - 1, ?_⟩
      have := Int.mul_ediv_add_emod z pP
      rw [Int.sub_mul, Int.neg_mul, Int.mul_comm (z / pP), Int.one_mul]
      omega
    rw [h2]
    exact Int.emod_eq_of_lt (by omega) (by omega)
  have hp : pP % 2 = 1 := by decide
  rw [e]
  omega

theorem ratio_is {u v : E5} {x y : Int} (hu : Is u x) (hv : Is v y) : ∃ z, Is (ratio2 u v) z ∧ z % pP % 2 = 0 ∧ (ratioOk u v = true ↔ y * (z * z) % pP = x % pP) ∧
    (y % pP ≠ 0 → (∃ r, y * (r * r) % pP = x % pP) → ratioOk u v = true) := by
  have h0 := ratio0_is hu hv
  have hc := isF_iff (hv.times (sqF1 h0)) hu
  obtain ⟨z1, hz1, hk⟩ : ∃ z1, Is (ratio1 u v) z1 ∧ (y % pP ≠ 0 → (∃ r, y * (r * r) % pP = x % pP) → y * (z1 * z1) % pP = x % pP) := by
    unfold ratio1
    cases hb : isF (timesF v (sqF 1 (ratio0 u v))) u with
    | true => exact ⟨_, h0, fun _ _ => hc.1 hb⟩
    | false =>
      refine ⟨_, h0.times rootM1_is, fun hy hr => ?_⟩
      obtain ⟨r, hr⟩ := hr
      rcases root0_ok hy hr with h | h
      · rw [hc.2 h] at hb; cases hb
      · have e : y * (root0 x y * Jn * (root0 x y * Jn)) = y * (root0 x y * root0 x y) * (Jn * Jn) := by grind
        rw [e, Int.mul_emod, h, Jn_sq, ← Int.mul_emod]
        congr 1
        omega
  have hok : ratioOk u v = true ↔ y * (z1 * z1) % pP = x % pP := isF_iff (hv.times (sqF1 hz1)) hu
  have ho := oddF_iff hz1
  have hn : (0 - z1) * (0 - z1) = z1 * z1 := by grind
  unfold ratio2
  cases hb : oddF (ratio1 u v) with
  | true =>
    exact ⟨0 - z1, zeroE_is.minus hz1, neg_par (ho.1 hb), by rw [hn]; exact hok, fun hy hr => hok.2 (hk hy hr)⟩
  | false =>
    refine ⟨z1, hz1, ?_, hok, fun hy hr => hok.2 (hk hy hr)⟩
    have h1 : ¬ z1 % pP % 2 = 1 := fun h => by rw [ho.2 h] at hb; cases hb
    have := Int.emod_nonneg (z1 % pP) (by decide : (2 : Int) ≠ 0)
    have := Int.emod_lt_of_pos (z1 % pP) (by decide : (0 : Int) < 2)
    omega

theorem zeroB_eq : zeroB = numB 0 := rfl
/-- What Sqrt answers: the even root where there is one. -/
theorem sqrt_val {a : B32} (ha : BOk a) : (sqrtE a = 0 ∧ BOk (sqrtB a) ∧ (∃ z, VB (sqrtB a) = z % pP ∧ z % pP % 2 = 0 ∧ z * z % pP = VB a % pP)) ∨ (sqrtE a = 4 ∧ sqrtB a = numB 0 ∧ ¬ ∃ r : Int, r * r % pP = VB a % pP) := by
  obtain ⟨z, h1, h2, h3, h4⟩ := ratio_is (Is.of ha) oneE_is
  unfold sqrtE sqrtB
  cases hb : ratioOk (ofF a) oneE with
  | true =>
    left
    refine ⟨rfl, h1.bytes.1, z, h1.bytes.2, h2, ?_⟩
    have := h3.1 hb
    rwa [Int.one_mul] at this
  | false =>
    right
    refine ⟨rfl, rfl, ?_⟩
    rintro ⟨r, hr⟩
    rw [h4 (by decide) ⟨r, by rw [Int.one_mul]; exact hr⟩] at hb
    cases hb

theorem b0_par {b : B32} (hb : BOk b) {n : Int} (h : VB b = n) (hn : n % 2 = 0) : b.b0.tmod 2 = 0 := by
  have h1 := VB_par b hb
  have h0 : 0 ≤ b.b0 := (hb 0).1
  rw [Int.tmod_eq_emod_of_nonneg h0]
  omega

theorem roots_ok (a : B32) (ha : BOk a) : FnOk Try.prog 6 [cB32.enc a] (cBool.enc true) := by
  have o0 := numB_ok 0 ⟨by decide, by decide⟩
  have a0 := addB_val ha o0
  rw [numB_val, Int.add_zero] at a0
  have m := mulB_val ha ha
  have n0 := subB_val o0 ha
  rw [numB_val] at n0
  have hs : sqrtE (mulB a a) = 0 ∧ BOk (sqrtB (mulB a a)) ∧ ∃ z, VB (sqrtB (mulB a a)) = z % pP ∧ z % pP % 2 = 0 ∧ z * z % pP = VB (mulB a a) % pP := by
    rcases sqrt_val m.1 with h | h
    · exact h
    · exact absurd ⟨VB a, by rw [m.2, mod_mod_p]⟩ h.2.2
  obtain ⟨h1, h2, z, h3, h4, h5⟩ := hs
  rw [m.2, mod_mod_p] at h5
  have mr := mulB_val h2 h2
  refine roots_fn a h1 (b0_par h2 h3 h4) (eqB_val mr.1 m.1 ?_) ?_ ?_ ?_
  · rw [mr.2, h3, mul_emod_l, mul_emod_r, h5, m.2]
  · have hz : (z - VB a) * (z + VB a) % pP = 0 := by
      have e : (z - VB a) * (z + VB a) = z * z - VB a * VB a := by grind
      rw [e, Int.sub_emod, h5, Int.sub_self]
      rfl
    rcases mul_zero_p hz with h | h
    · left
      refine eqB_val h2 a0.1 ?_
      rw [h3, a0.2, eqm]
      rw [show (0 : Int) = 0 % pP from by decide, eqm] at h
      obtain ⟨k, hk⟩ := h
      exact ⟨k, by omega⟩
    · right
      refine eqB_val h2 n0.1 ?_
      rw [h3, n0.2, eqm]
      rw [show (0 : Int) = 0 % pP from by decide, eqm] at h
      obtain ⟨k, hk⟩ := h
      exact ⟨k, by omega⟩
  · intro hf
    rcases sqrt_val ha with h | h
    · obtain ⟨_, g2, s, g3, g4, g5⟩ := h
      have ms := mulB_val g2 g2
      exact ⟨eqB_val ms.1 a0.1 (by rw [ms.2, g3, mul_emod_l, mul_emod_r, g5, a0.2]), b0_par g2 g3 g4⟩
    · rw [h.1] at hf; cases hf
  · intro hf
    rcases sqrt_val ha with h | h
    · exact absurd h.1 hf
    · exact ⟨h.1, by rw [eqB_iff, h.2.1]⟩
end Go.Proofs.Ytmfobbdgmedhdaa

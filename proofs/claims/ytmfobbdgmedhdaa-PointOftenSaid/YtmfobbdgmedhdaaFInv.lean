/- Inverses, canonical rows and square roots modulo p. -/
import Derived.Test.YtmfobbdgmedhdaaFRing
import Derived.Test.YtmfobbdgmedhdaaPrime
namespace Go.Proofs.Ytmfobbdgmedhdaa
open Go Go.Eng
set_option linter.unusedVariables false

def pN : Nat := 57896044618658097711785492504343953926634992332820282019728792003956564819949
theorem pN_prime : IsPrime pN := prime_p
theorem pP_eq : pP = (pN : Int) := by decide

theorem emod_pow (x n : Int) : ∀ k : Nat, x ^ k % n = (x % n) ^ k % n
  | 0 => by rw [Int.pow_zero, Int.pow_zero]
  | k + 1 => by rw [Int.pow_succ, Int.pow_succ, ← mul_emod_l, emod_pow x n k, mul_emod_l, ← mul_emod_r]
theorem pow_nat (x : Int) (k : Nat) : x ^ k % pP = (((x % pP).toNat ^ k % pN : Nat) : Int) := by
  have h : x % pP = ((x % pP).toNat : Int) := (Int.toNat_of_nonneg (Int.emod_nonneg _ (by decide))).symm
  rw [emod_pow, h, ← Int.natCast_pow, pP_eq, ← Int.natCast_emod]
  rfl
theorem not_dvd {x : Int} (h : x % pP ≠ 0) : ¬ pN ∣ (x % pP).toNat := by
  intro hd
  have h0 : 0 ≤ x % pP := Int.emod_nonneg _ (by decide)
  have h1 : x % pP < pP := Int.emod_lt_of_pos _ (by decide)
  have h2 : (x % pP).toNat < pN := by have := pP_eq; omega
  have := Nat.eq_zero_of_dvd_of_lt hd h2
  omega
theorem fermatP {x : Int} (h : x % pP ≠ 0) : x ^ (pN - 1) % pP = 1 := by
  rw [pow_nat, fermat pN_prime (not_dvd h)]
  rfl
theorem mul_zero_p {x y : Int} (h : x * y % pP = 0) : x % pP = 0 ∨ y % pP = 0 := by
  by_cases hx : x % pP = 0
  · exact .inl hx
  · by_cases hy : y % pP = 0
    · exact .inr hy
    · exfalso
      have e1 : x % pP = ((x % pP).toNat : Int) := (Int.toNat_of_nonneg (Int.emod_nonneg _ (by decide))).symm
      have e2 : y % pP = ((y % pP).toNat : Int) := (Int.toNat_of_nonneg (Int.emod_nonneg _ (by decide))).symm
      rw [Int.mul_emod, e1, e2, pP_eq, ← Int.natCast_mul, ← Int.natCast_emod] at h
      have h' : (x % (pN : Int)).toNat * (y % (pN : Int)).toNat % pN = 0 := by exact_mod_cast h
      rcases pN_prime.dvd_mul (Nat.dvd_of_mod_eq_zero h') with hd | hd
      · exact not_dvd hx (by rw [pP_eq]; exact hd)
      · exact not_dvd hy (by rw [pP_eq]; exact hd)

/-! ### Powers -/
theorem Is.self {e : E5} {x : Int} (h : Is e x) : Is e (x ^ 1) := by rw [Int.pow_one]; exact h
theorem Is.mulPow {e f : E5} {x : Int} {a b : Nat} (he : Is e (x ^ a)) (hf : Is f (x ^ b)) : Is (timesF e f) (x ^ (a + b)) := by
  rw [Int.pow_add]; exact he.times hf
theorem Is.sq {e : E5} {x : Int} (h : Is e x) : ∀ n : Nat, Is (sqF n e) (x ^ 2 ^ n)
  | 0 => by rw [Nat.pow_zero, Int.pow_one]; exact h
  | n + 1 => by
    have := (h.sq n).times (h.sq n)
    rw [← Int.pow_add, ← Nat.mul_two, ← Nat.pow_succ] at this
    exact this
theorem Is.sqPow {e : E5} {x : Int} {a : Nat} (h : Is e (x ^ a)) (n : Nat) : Is (sqF n e) (x ^ (a * 2 ^ n)) := by
  rw [Int.pow_mul]; exact h.sq n
theorem Is.pow_eq {e : E5} {x : Int} {a b : Nat} (h : Is e (x ^ a)) (hab : a = b) : Is e (x ^ b) := hab ▸ h
def K250 : Nat := 1809251394333065553493296640760748560207343510400633813116524750123642650623
theorem chain_is {e : E5} {x : Int} (h : Is e x) : Is (x250F e) (x ^ K250) ∧ Is (e11F e) (x ^ 11) := by
  have e1 := h.self
  have e9 : Is (e9F e) (x ^ 9) := (((e1.sqPow 1).sqPow 2).mulPow e1).pow_eq (by decide)
  have e11 : Is (e11F e) (x ^ 11) := (e9.mulPow (e1.sqPow 1)).pow_eq (by decide)
  have x5 : Is (x5F e) (x ^ 31) := ((e11.sqPow 1).mulPow e9).pow_eq (by decide)
  have x10 : Is (x10F e) (x ^ 1023) := ((x5.sqPow 5).mulPow x5).pow_eq (by decide)
  have x20 : Is (x20F e) (x ^ 1048575) := ((x10.sqPow 10).mulPow x10).pow_eq (by decide)
  have x40 : Is (x40F e) (x ^ 1099511627775) := ((x20.sqPow 20).mulPow x20).pow_eq (by decide)
  have x50 : Is (x50F e) (x ^ 1125899906842623) := ((x40.sqPow 10).mulPow x10).pow_eq (by decide)
  have x100 : Is (x100F e) (x ^ 1267650600228229401496703205375) := ((x50.sqPow 50).mulPow x50).pow_eq (by decide)
  have x200 : Is (x200F e) (x ^ 1606938044258990275541962092341162602522202993782792835301375) := ((x100.sqPow 100).mulPow x100).pow_eq (by decide)
  exact ⟨((x200.sqPow 50).mulPow x50).pow_eq (by decide), e11⟩
theorem inv_is {e : E5} {x : Int} (h : Is e x) : Is (invF e) (x ^ (pN - 2)) := by
  obtain ⟨h1, h2⟩ := chain_is h
  exact ((h1.sqPow 5).mulPow h2).pow_eq (by decide)
def K58 : Nat := 7237005577332262213973186563042994240829374041602535252466099000494570602493
theorem pow58_is {e : E5} {x : Int} (h : Is e x) : Is (pow58F e) (x ^ K58) := by
  obtain ⟨h1, h2⟩ := chain_is h
  exact ((h1.sqPow 2).mulPow h.self).pow_eq (by decide)

theorem invB_val {a : B32} (ha : BOk a) : BOk (invB a) ∧ VB (invB a) = VB a ^ (pN - 2) % pP := (inv_is (Is.of ha)).bytes
theorem inv_mul {x : Int} (h : x % pP ≠ 0) : x * x ^ (pN - 2) % pP = 1 := by
  have : x * x ^ (pN - 2) = x ^ (pN - 1) := by
    rw [Int.mul_comm, ← Int.pow_succ]
    exact congrArg (x ^ ·) (by decide : pN - 2 + 1 = pN - 1)
  rw [this, fermatP h]
theorem inv_inv {x : Int} (h : x % pP ≠ 0) : (x ^ (pN - 2) % pP) ^ (pN - 2) % pP = x % pP := by
  rw [← emod_pow, ← Int.pow_mul]
  have e : (pN - 2) * (pN - 2) = (pN - 1) * (pN - 3) + 1 := by decide
  rw [e, Int.pow_succ, Int.pow_mul, ← mul_emod_l, emod_pow, fermatP h, Int.one_pow]
  rw [show (1 : Int) % pP = 1 from by decide, Int.one_mul]
theorem zero_pow_p {x : Int} (h : x % pP = 0) : x ^ (pN - 2) % pP = 0 := by
  rw [emod_pow, h]
  have : (0 : Int) ^ (pN - 2) = 0 := by
    have e : pN - 2 = (pN - 3) + 1 := by decide
    rw [e, Int.pow_succ, Int.mul_zero]
  rw [this]; rfl

theorem inverses_ok (a : B32) (ha : BOk a) : FnOk Try.prog 4 [cB32.enc a] (cBool.enc true) := by
  have o0 := numB_ok 0 ⟨by decide, by decide⟩
  have o1 := numB_ok 1 ⟨by decide, by decide⟩
  have a0 := addB_val ha o0
  rw [numB_val, Int.add_zero] at a0
  have ia := invB_val ha
  have iia := invB_val ia.1
  have m := mulB_val ha ia.1
  refine inverses_fn a (fun h => ?_) fun h => ?_
  · rw [eqB_iff] at h
    have hz : VB a % pP = 0 := by rw [← a0.2, h, numB_val]
    exact eqB_val ia.1 o0 (by rw [ia.2, numB_val, zero_pow_p hz])
  · have hz : VB a % pP ≠ 0 := fun hz => by
      rw [eqB_val a0.1 o0 (by rw [a0.2, hz, numB_val])] at h
      cases h
    refine ⟨eqB_val m.1 o1 ?_, eqB_val iia.1 a0.1 ?_⟩
    · rw [m.2, ia.2, mul_emod_r, inv_mul hz, numB_val]
    · rw [iia.2, ia.2, inv_inv hz, a0.2]

theorem can_of {a : B32} (ha : BOk a) (h : VB a % pP = VB a) : canB a = true := by
  have := (Is.of ha).bytes
  exact eqB_val this.1 ha (by rw [this.2, h])
theorem mod_mod_p (x : Int) : x % pP % pP = x % pP := Int.emod_emod _ _
theorem canon_ok (a b : B32) (ha : BOk a) (hb : BOk b) : FnOk Try.prog 5 [cB32.enc a, cB32.enc b] (cBool.enc true) := by
  have o0 := numB_ok 0 ⟨by decide, by decide⟩
  have a0 := addB_val ha o0
  rw [numB_val, Int.add_zero] at a0
  have h1 := addB_val ha hb
  have h2 := mulB_val ha hb
  have h3 := subB_val ha hb
  have h4 := invB_val ha
  have h5 := (Is.of ha).bytes
  refine canon_fn a b (can_of h1.1 (by rw [h1.2, mod_mod_p])) (can_of h2.1 (by rw [h2.2, mod_mod_p])) (can_of h3.1 (by rw [h3.2, mod_mod_p])) (can_of h4.1 (by rw [h4.2, mod_mod_p])) ?_
  unfold canB
  rw [VB_inj (bytesF (ofF a)) (addB a (numB 0)) h5.1 a0.1 (by rw [h5.2, a0.2])]
end Go.Proofs.Ytmfobbdgmedhdaa

/- PointOften: its content, with the sums and products modulo the order. -/
import Derived.Test.YtmfobbdgmedhdaaConP
namespace Go.Proofs.Ytmfobbdgmedhdaa
open Go Go.Eng
set_option linter.unusedVariables false

/-- Doubled and added, bit by bit. -/
def accS (f : Nat → Bool) (y : N4) : Nat → N4 → N4
  | 0, o => o
  | k + 1, o => accS f y k (match f k with
    | true => plusL (plusL o o) y
    | false => plusL o o)
theorem modS_acc (b : B32) : ∀ k o, modS b k o = accS (bitB b) one4 k o
  | 0, o => rfl
  | k + 1, o => by
    rw [modS, accS, modS_acc b k]
    rfl
theorem mulS_acc (x y : N4) : ∀ k o, mulS x y k o = accS (bitW x) y k o
  | 0, o => rfl
  | k + 1, o => by
    rw [mulS, accS, mulS_acc x y k]
    rfl
theorem ordI_pos : 0 < ordI := by decide
theorem mm {a b : Int} (t s : Int) (h : a % ordI = b % ordI) : (a * t + s) % ordI = (b * t + s) % ordI := by
  rw [Int.add_emod, Int.mul_emod, h, ← Int.mul_emod, ← Int.add_emod]
theorem plusL_lt {a b : N4} (ha : N4Ok a) (hb : N4Ok b) (la : N4V a < ordI) (lb : N4V b < ordI) : N4V (plusL a b) < ordI := by
  rw [plusL_val ha hb la lb]
  exact Int.emod_lt_of_pos _ ordI_pos
theorem accS_val {f : Nat → Bool} {y : N4} (hy : N4Ok y) (ly : N4V y < ordI) : ∀ (k : Nat) (o : N4), N4Ok o → N4V o < ordI → N4Ok (accS f y k o) ∧ N4V (accS f y k o) = (N4V o * 2 ^ k + N4V y * (bsum f k : Nat)) % ordI
  | 0, o, ho, lo => by
    refine ⟨ho, ?_⟩
    have h0 := (N4V_lt ho).1
    rw [accS, bsum, Int.pow_zero, Int.mul_one, Int.natCast_zero, Int.mul_zero, Int.add_zero, Int.emod_eq_of_lt h0 lo]
  | k + 1, o, ho, lo => by
    have hoo := plusL_ok ho ho
    have loo := plusL_lt ho ho lo lo
    have voo := plusL_val ho ho lo lo
    rw [accS, bsum]
    cases hf : f k with
    | true =>
      have v2 := plusL_val hoo hy loo ly
      obtain ⟨h1, h2⟩ := accS_val (f := f) hy ly k _ (plusL_ok hoo hy) (plusL_lt hoo hy loo ly)
      refine ⟨h1, ?_⟩
      have e : N4V (plusL (plusL o o) y) % ordI = (N4V o + N4V o + N4V y) % ordI := by
        rw [v2, voo, Int.emod_emod, Int.emod_add_emod]
      simp only
      rw [h2, mm _ _ e]
      congr 1
      rw [Int.pow_succ, Bool.toNat_true, Int.natCast_add, Nat.mul_one, Int.natCast_pow]
      show (N4V o + N4V o + N4V y) * (2 : Int) ^ k + _ = N4V o * ((2 : Int) ^ k * 2) + N4V y * (_ + (2 : Int) ^ k)
      generalize (2 : Int) ^ k = t
      grind
    | false =>
      obtain ⟨h1, h2⟩ := accS_val (f := f) hy ly k _ hoo loo
      refine ⟨h1, ?_⟩
      have e : N4V (plusL o o) % ordI = (N4V o + N4V o) % ordI := by rw [voo, Int.emod_emod]
      simp only
      rw [h2, mm _ _ e]
      congr 1
      rw [Int.pow_succ, Bool.toNat_false, Nat.mul_zero, Nat.add_zero]
      grind
theorem byteSum_low (b : B32) : ∀ k, byteSum b k = lowV b k
  | 0 => rfl
  | k + 1 => by rw [byteSum, lowV, byteSum_low b k]
theorem bits_NV {b : B32} (hb : BOk b) : bsum (bitB b) 256 = NV b := by
  rw [show 256 = 8 * 32 from rfl, bsum_bytes hb, byteSum_low, lowV_eq hb]
theorem one4_lt : N4V one4 < ordI := by decide
theorem zero4_lt : N4V zero4 < ordI := by decide
theorem zero4_val : N4V zero4 = 0 := by decide
theorem one4_val : N4V one4 = 1 := by decide
theorem modN_val {b : B32} (hb : BOk b) : N4V (modN b) = VB b % ordI := by
  unfold modN
  rw [modS_acc, (accS_val one4_ok one4_lt 256 zero4 zero4_ok zero4_lt).2, zero4_val, one4_val, Int.zero_mul, Int.zero_add, Int.one_mul, bits_NV hb, NV_cast hb]
theorem modN_lt {b : B32} (hb : BOk b) : N4V (modN b) < ordI := by
  rw [modN_val hb]
  exact Int.emod_lt_of_pos _ ordI_pos

theorem andU1 (x : Int) (h0 : 0 ≤ x) (h1 : x < 18446744073709551616) : andU x 1 = x % 2 :=
  bits_mask .u64 64 (by decide) wraps_u64 1 (by decide) x h0 h1
theorem at4_word {x : N4} (hx : N4Ok x) (i : Nat) : Word (at4 x i) := by
  unfold at4
  split
  · exact hx.1
  · exact hx.2.1
  · exact hx.2.2.1
  · exact hx.2.2.2
theorem bitW_eq {x : N4} (hx : N4Ok x) (i t : Nat) (ht : t < 64) : bitW x (64 * i + t) = decide ((at4 x i).toNat / 2 ^ t % 2 = 1) := by
  obtain ⟨h0, h1⟩ := at4_word hx i
  unfold bitW
  rw [show (64 * i + t) / 64 = i by omega, show (64 * i + t) % 64 = t by omega, shrU_eq]
  generalize at4 x i = w at *
  obtain ⟨n, rfl⟩ := Int.eq_ofNat_of_zero_le h0
  have e : (n : Int) / 2 ^ t = ((n / 2 ^ t : Nat) : Int) := by simp
  have hle : n / 2 ^ t ≤ n := Nat.div_le_self _ _
  rw [e, Int.toNat_natCast]
  generalize n / 2 ^ t = q at *
  rw [andU1 _ (by omega) (by omega)]
  have e2 : (q : Int) % 2 = ((q % 2 : Nat) : Int) := by simp
  rw [e2]
  by_cases hc : q % 2 = 1
  · rw [hc]; rfl
  · rw [decide_eq_false hc, beq_eq_false_iff_ne]
    omega
theorem word_step {x : N4} (hx : N4Ok x) (i : Nat) : bsum (bitW x) (64 * (i + 1)) = bsum (bitW x) (64 * i) + 2 ^ (64 * i) * (at4 x i).toNat := by
  obtain ⟨h0, h1⟩ := at4_word hx i
  rw [Nat.mul_succ, bsum_word (bitW x) (64 * i) (at4 x i).toNat 64 (fun t ht => bitW_eq hx i t ht), Nat.mod_eq_of_lt (by omega)]
theorem bits_N4V {x : N4} (hx : N4Ok x) : (bsum (bitW x) 256 : Int) = N4V x := by
  have e0 := word_step hx 0
  have e1 := word_step hx 1
  have e2 := word_step hx 2
  have e3 := word_step hx 3
  have w0 := hx.1.1
  have w1 := hx.2.1.1
  have w2 := hx.2.2.1.1
  have w3 := hx.2.2.2.1
  have z : bsum (bitW x) (64 * 0) = 0 := rfl
  rw [z] at e0
  rw [e0] at e1
  rw [e1] at e2
  rw [e2] at e3
  unfold N4V
  rw [show 256 = 64 * (3 + 1) from rfl, e3]
  unfold at4
  simp only [Nat.mul_zero, Nat.mul_one, Nat.pow_zero]
  omega
theorem smulN_val {a b : B32} (ha : BOk a) (hb : BOk b) : N4V (smulN a b) = (VB b * VB a) % ordI := by
  unfold smulN
  rw [mulS_acc, (accS_val (modN_ok b) (modN_lt hb) 256 zero4 zero4_ok zero4_lt).2, zero4_val, Int.zero_mul, Int.zero_add, bits_N4V (modN_ok a), modN_val ha, modN_val hb, ← Int.mul_emod]
theorem smulN_ok (a b : B32) (hb : BOk b) : N4Ok (smulN a b) := by
  unfold smulN
  rw [mulS_acc]
  exact (accS_val (modN_ok b) (modN_lt hb) 256 zero4 zero4_ok zero4_lt).1
theorem ordI_cast : ordI = (ordL : Int) := by decide
theorem sadd_val {a b : B32} (ha : BOk a) (hb : BOk b) : BOk (saddB a b) ∧ NV (saddB a b) = (NV a + NV b) % ordL := by
  refine ⟨bytes4_ok _, ?_⟩
  have h : VB (saddB a b) = (VB a + VB b) % ordI := by
    unfold saddB
    rw [bytes4_val _ (plusL_ok (modN_ok a) (modN_ok b)), plusL_val (modN_ok a) (modN_ok b) (modN_lt ha) (modN_lt hb), modN_val ha, modN_val hb, ← Int.add_emod]
  have e : ((NV (saddB a b) : Nat) : Int) = (((NV a + NV b) % ordL : Nat) : Int) := by
    have hk : BOk (saddB a b) := bytes4_ok _
    rw [NV_cast hk, Int.natCast_emod, Int.natCast_add, NV_cast ha, NV_cast hb, ← ordI_cast]
    exact h
  exact_mod_cast e
theorem zeroB_ok : BOk zeroB := numB_ok 0 ⟨by decide, by decide⟩
theorem smul_val {a b : B32} (ha : BOk a) (hb : BOk b) : BOk (smulB a b zeroB) ∧ NV (smulB a b zeroB) = (NV b * NV a) % ordL := by
  refine ⟨bytes4_ok _, ?_⟩
  have hz : N4V (modN zeroB) = 0 := by
    rw [modN_val zeroB_ok]
    decide
  have hl : N4V (smulN a b) < ordI := by
    rw [smulN_val ha hb]
    exact Int.emod_lt_of_pos _ ordI_pos
  have h : VB (smulB a b zeroB) = (VB b * VB a) % ordI := by
    unfold smulB
    rw [bytes4_val _ (plusL_ok (smulN_ok a b hb) (modN_ok _)), plusL_val (smulN_ok a b hb) (modN_ok _) hl (modN_lt zeroB_ok), hz, Int.add_zero, smulN_val ha hb, Int.emod_emod]
  have e : ((NV (smulB a b zeroB) : Nat) : Int) = (((NV b * NV a) % ordL : Nat) : Int) := by
    have hk : BOk (smulB a b zeroB) := bytes4_ok _
    rw [NV_cast hk, Int.natCast_emod, Int.natCast_mul, NV_cast ha, NV_cast hb, ← ordI_cast]
    exact h
  exact_mod_cast e
theorem often_sum {n m : B32} (hn : BOk n) (hm : BOk m) : eqB (paddB (pbaseB n) (pbaseB m)) (pbaseB (saddB n m)) = true := by
  have h := add_pt (base_pt hn) (base_pt hm)
  rw [← nC_add bC_on] at h
  have k := base_pt (sadd_val hn hm).1
  rw [(sadd_val hn hm).2, nC_mod bC_on order_L] at k
  exact h.eq k
theorem often_mul {n m : B32} (hn : BOk n) (hm : BOk m) : eqB (pmulB n (pbaseB m)) (pbaseB (smulB n m zeroB)) = true := by
  have h := mul_pt hn (base_pt hm)
  rw [← nC_mul bC_on] at h
  have k := base_pt (smul_val hn hm).1
  rw [(smul_val hn hm).2, nC_mod bC_on order_L] at k
  exact h.eq k
theorem poften_ok (n m : B32) (hn : BOk n) (hm : BOk m) : FnOk Try.prog 11 [cB32.enc n, cB32.enc m] (cBool.enc true) :=
  poften_walk n m (pbaseB n) (pbaseB m) (paddB (pbaseB n) (pbaseB m)) (pmulB n (pbaseB m)) (saddB n m) (pbaseB (saddB n m)) (smulB n m zeroB) (pbaseB (smulB n m zeroB))
    (nib_of hn) rfl (nib_of hm) rfl (add_flag (base_pt hn) (base_pt hm)) (nib_of hm) rfl (nib_of hn) (mul_flag (base_pt hm)) rfl (nib_of (sadd_val hn hm).1) rfl (often_sum hn hm) rfl (nib_of (smul_val hn hm).1) rfl (often_mul hn hm)
end Go.Proofs.Ytmfobbdgmedhdaa

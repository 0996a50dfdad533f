/- Package beaconref03: mod of any bytes: walk, contract, value. -/
import Derived.Test.YtbfndladaldajaaDoorQMC
import Derived.Test.YtbfndladaldajaaDoorQMS
import Derived.Test.YtbfndladaldajaaDoorQMP
import Derived.Test.YtbfndladaldajaaDoorQMQ
namespace Go.Proofs.YtbfndladaldajaaDoor
open Go Go.Eng
set_option linter.unusedVariables false
set_option maxRecDepth 100000
def bitF (f : Nat → Int) (k : Nat) : Bool := bits .and .u8 (shrU (f (k / 8)) (k % 8)) 1 == 1
def modB (f : Nat → Bool) : Nat → N4 → N4
  | 0, o => o
  | k + 1, o => modB f k (bif f k then plusL (plusL o o) one4 else plusL o o)
end Go.Proofs.YtbfndladaldajaaDoor
/- Numbers modulo the order: bit by bit and word by word, the same. -/
namespace Go.Proofs.YtbfndladaldajaaDoor
open Go Go.Eng
set_option linter.unusedVariables false
set_option maxRecDepth 100000
theorem plus_lt {a b : N4} (ha : N4Ok a) (hb : N4Ok b) (la : N4V a < ordI) (lb : N4V b < ordI) : N4V (plusL a b) < ordI := by
  rw [plusL_val ha hb la lb]
  exact Int.emod_lt_of_pos _ (by decide)
theorem one4_val : N4V one4 = 1 := by decide
theorem modB_val (f : Nat → Bool) : ∀ (k : Nat) (o : N4), N4Ok o → N4V o < ordI → N4Ok (modB f k o) ∧ N4V (modB f k o) = (N4V o * ((2 ^ k : Nat) : Int) + ((bsum f k : Nat) : Int)) % ordI
  | 0, o, ho, hl => ⟨ho, by
      show N4V o = (N4V o * 1 + 0) % ordI
      rw [Int.mul_one, Int.add_zero, Int.emod_eq_of_lt (N4V_lt ho).1 hl]⟩
  | k + 1, o, ho, hl => by
    have hoo := plusL_ok ho ho
    have loo := plus_lt ho ho hl hl
    have voo := plusL_val ho ho hl hl
    have h1l : N4V one4 < ordI := by rw [one4_val]; decide
    have hp : ((2 ^ (k + 1) : Nat) : Int) = 2 * ((2 ^ k : Nat) : Int) := by rw [Nat.pow_succ]; omega
    have fin : ∀ (x t : Int) (o' : N4), N4Ok o' → N4V o' < ordI → N4V o' = (x + x + t) % ordI → (N4V (modB f k o') = (N4V o' * ((2 ^ k : Nat) : Int) + ((bsum f k : Nat) : Int)) % ordI) → N4V (modB f k o') = (x * ((2 ^ (k + 1) : Nat) : Int) + (((bsum f k : Nat) : Int) + ((2 ^ k : Nat) : Int) * t)) % ordI := by
      intro x t o' _ _ h1 h2
      rw [h2, h1, Int.add_emod, Int.mul_emod, Int.emod_emod_of_dvd _ (Int.dvd_refl _), ← Int.mul_emod, ← Int.add_emod, hp]
      congr 1
      rw [Int.add_mul, Int.add_mul, Int.mul_comm t]
      generalize ((2 ^ k : Nat) : Int) = P
      have : x * (2 * P) = x * P + x * P := by rw [← Int.mul_assoc, Int.mul_comm x 2, Int.mul_assoc]; omega
      omega
    cases hb : f k with
    | true =>
      have e : modB f (k + 1) o = modB f k (plusL (plusL o o) one4) := by
        show modB f k (bif f k then _ else _) = _
        rw [hb, cond_true]
      have h3 := plusL_ok hoo one4_ok
      have l3 := plus_lt hoo one4_ok loo h1l
      have v3 := plusL_val hoo one4_ok loo h1l
      rw [voo, one4_val] at v3
      obtain ⟨g1, g2⟩ := modB_val f k _ h3 l3
      refine ⟨by rw [e]; exact g1, ?_⟩
      have v4 : N4V (plusL (plusL o o) one4) = (N4V o + N4V o + 1) % ordI := by
        rw [v3, Int.add_emod, Int.emod_emod_of_dvd _ (Int.dvd_refl _), ← Int.add_emod]
      have := fin (N4V o) 1 _ h3 l3 v4 g2
      rw [e, this]
      congr 2
      show _ = ((bsum f k + 2 ^ k * (f k).toNat : Nat) : Int)
      rw [hb]
      show _ = ((bsum f k + 2 ^ k * 1 : Nat) : Int)
      omega
    | false =>
      have e : modB f (k + 1) o = modB f k (plusL o o) := by
        show modB f k (bif f k then _ else _) = _
        rw [hb, cond_false]
      obtain ⟨g1, g2⟩ := modB_val f k _ hoo loo
      refine ⟨by rw [e]; exact g1, ?_⟩
      have v4 : N4V (plusL o o) = (N4V o + N4V o + 0) % ordI := by rw [voo, Int.add_zero]
      have := fin (N4V o) 0 _ hoo loo v4 g2
      rw [e, this]
      congr 2
      show _ = ((bsum f k + 2 ^ k * (f k).toNat : Nat) : Int)
      rw [hb]
      show _ = ((bsum f k + 2 ^ k * 0 : Nat) : Int)
      omega
theorem bitF_eq {f : Nat → Int} (hf : ∀ i, 0 ≤ f i ∧ f i < 256) (i t : Nat) (ht : t < 8) : bitF f (8 * i + t) = decide ((f i).toNat / 2 ^ t % 2 = 1) := by
  obtain ⟨h0, h1⟩ := hf i
  unfold bitF
  rw [show (8 * i + t) / 8 = i by omega, show (8 * i + t) % 8 = t by omega, shrU_eq]
  generalize f i = x at *
  obtain ⟨n, rfl⟩ := Int.eq_ofNat_of_zero_le h0
  have e : (n : Int) / 2 ^ t = ((n / 2 ^ t : Nat) : Int) := by simp
  have hle : n / 2 ^ t ≤ n := Nat.div_le_self _ _
  rw [e, Int.toNat_natCast]
  generalize n / 2 ^ t = q at *
  rw [and1 _ (by omega) (by omega)]
  have e2 : (q : Int) % 2 = ((q % 2 : Nat) : Int) := by simp
  rw [e2]
  by_cases hc : q % 2 = 1
  · rw [hc]; rfl
  · rw [decide_eq_false hc, beq_eq_false_iff_ne]
    omega
def byteV (f : Nat → Int) (s : Nat) : Nat → Nat
  | 0 => 0
  | m + 1 => byteV f s m + 256 ^ m * (f (s + m)).toNat
theorem byteV_cat (f : Nat → Int) (s m : Nat) : ∀ r, byteV f s (m + r) = byteV f s m + 256 ^ m * byteV f (s + m) r
  | 0 => by simp [byteV]
  | r + 1 => by
    rw [← Nat.add_assoc]
    show byteV f s (m + r) + 256 ^ (m + r) * (f (s + (m + r))).toNat = _
    rw [byteV_cat f s m r, Nat.pow_add]
    show _ = byteV f s m + 256 ^ m * (byteV f (s + m) r + 256 ^ r * (f (s + m + r)).toNat)
    rw [Nat.mul_add, Nat.add_assoc, Nat.mul_assoc, Nat.add_assoc s m r]
theorem bsum_byteV {f : Nat → Int} (hf : ∀ i, 0 ≤ f i ∧ f i < 256) : ∀ i, bsum (bitF f) (8 * i) = byteV f 0 i
  | 0 => by rw [Nat.mul_zero, bsum, byteV]
  | i + 1 => by
    rw [Nat.mul_succ, bsum_word (bitF f) (8 * i) (f i).toNat 8 (fun t ht => bitF_eq hf i t ht), bsum_byteV hf i, byteV, Nat.zero_add]
    have h1 := (hf i).2
    have h0 := (hf i).1
    rw [Nat.mod_eq_of_lt (by omega), Nat.pow_mul]
theorem w8_byteV {f : Nat → Int} (hf : ∀ i, 0 ≤ f i ∧ f i < 256) (k : Nat) : w8 f k = ((byteV f k 8 : Nat) : Int) := by
  rw [(w8_val hf k).1]
  have h7 := (hf (k + 7)).1
  have h6 := (hf (k + 6)).1
  have h5 := (hf (k + 5)).1
  have h4 := (hf (k + 4)).1
  have h3 := (hf (k + 3)).1
  have h2 := (hf (k + 2)).1
  have h1 := (hf (k + 1)).1
  have h0 := (hf (k + 0)).1
  simp only [byteV]
  generalize f (k + 7) = x7 at *
  generalize f (k + 6) = x6 at *
  generalize f (k + 5) = x5 at *
  generalize f (k + 4) = x4 at *
  generalize f (k + 3) = x3 at *
  generalize f (k + 2) = x2 at *
  generalize f (k + 1) = x1 at *
  generalize f (k + 0) = x0 at *
  omega
theorem hor_byteV {f : Nat → Int} (hf : ∀ i, 0 ≤ f i ∧ f i < 256) (n : Nat) : ∀ j, j ≤ n → hor f n j = ((byteV f (8 * (n - j)) (8 * j) : Nat) : Int)
  | 0, _ => rfl
  | j + 1, h => by
    show hor f n j * 18446744073709551616 + w8 f (8 * (n - 1 - j)) = _
    rw [hor_byteV hf n j (by omega), w8_byteV hf, show 8 * (j + 1) = 8 + 8 * j by omega, byteV_cat, show 8 * (n - (j + 1)) = 8 * (n - 1 - j) by omega, show 8 * (n - 1 - j) + 8 = 8 * (n - j) by omega]
    generalize byteV f (8 * (n - j)) (8 * j) = A
    generalize byteV f (8 * (n - 1 - j)) 8 = B
    have : (256 ^ 8 : Nat) = 18446744073709551616 := by decide
    rw [this]
    omega
theorem bsum_congr {f g : Nat → Bool} : ∀ k, (∀ i, i < k → f i = g i) → bsum f k = bsum g k
  | 0, _ => rfl
  | k + 1, h => by
    rw [bsum, bsum, bsum_congr k fun i hi => h i (by omega), h k (by omega)]
theorem zero4_val : N4V zero4 = 0 := by decide
theorem red_mod {f g : Nat → Int} (n : Nat) (hf : ∀ i, 0 ≤ f i ∧ f i < 256) (he : ∀ i, i < 8 * n → g i = f i) : modB (bitF g) (8 * (8 * n)) zero4 = redW f n n := by
  obtain ⟨g1, g2⟩ := modB_val (bitF g) (8 * (8 * n)) zero4 zero4_ok (by rw [zero4_val]; decide)
  obtain ⟨k1, k2⟩ := redW_val hf n n
  refine N4V_inj g1 k1 ?_
  have e : bsum (bitF g) (8 * (8 * n)) = bsum (bitF f) (8 * (8 * n)) := bsum_congr _ fun i hi => by
    unfold bitF
    rw [he _ (by omega)]
  rw [g2, k2, zero4_val, Int.zero_mul, Int.zero_add, e, bsum_byteV hf, hor_byteV hf n n (Nat.le_refl _), Nat.sub_self]
end Go.Proofs.YtbfndladaldajaaDoor
/- Package beaconref03: Reduce; numbers of mod and of products. -/
namespace Go.Proofs.YtbfndladaldajaaDoor
open Go Go.Eng
set_option linter.unusedVariables false
set_option maxRecDepth 100000
theorem modS_modB (b : B32) : ∀ (k : Nat) (o : N4), modS b k o = modB (bitF b.at) k o
  | 0, o => by rw [modS, modB]
  | k + 1, o => by
    show modS b k (match bitB b k with | true => plusL (plusL o o) one4 | false => plusL o o) = modB (bitF b.at) k (bif bitB b k then plusL (plusL o o) one4 else plusL o o)
    rw [← modS_modB b k]
    cases bitB b k with
    | true => rfl
    | false => rfl
theorem modN_red {b : B32} (h : ∀ i, 0 ≤ b.at i ∧ b.at i < 256) : modN b = redW b.at 4 4 := by
  unfold modN
  rw [modS_modB]
  exact red_mod 4 h fun _ _ => rfl
theorem and1w (x : Int) (h : Word x) : andU x 1 = x % 2 :=
  bits_mask .u64 64 (by decide) wraps_u64 1 (by decide) x h.1 h.2
theorem bitW_eq (e : N4) (he : N4Ok e) (i t : Nat) (hi : i < 4) (ht : t < 64) : bitW e (64 * i + t) = decide ((at4 e i).toNat / 2 ^ t % 2 = 1) := by
  have hw : Word (at4 e i) := by
    obtain ⟨a, b, c, d⟩ := he
    match i, hi with
    | 0, _ => exact a
    | 1, _ => exact b
    | 2, _ => exact c
    | 3, _ => exact d
  obtain ⟨h0, h1⟩ := hw
  unfold bitW
  rw [show (64 * i + t) / 64 = i by omega, show (64 * i + t) % 64 = t by omega, shrU_eq]
  generalize at4 e i = x at *
  obtain ⟨n, rfl⟩ := Int.eq_ofNat_of_zero_le h0
  have e : (n : Int) / 2 ^ t = ((n / 2 ^ t : Nat) : Int) := by simp
  have hle : n / 2 ^ t ≤ n := Nat.div_le_self _ _
  rw [e, Int.toNat_natCast]
  generalize n / 2 ^ t = q at *
  rw [and1w _ ⟨by omega, by omega⟩]
  have e2 : (q : Int) % 2 = ((q % 2 : Nat) : Int) := by simp
  rw [e2]
  by_cases hc : q % 2 = 1
  · rw [hc]; rfl
  · rw [decide_eq_false hc, beq_eq_false_iff_ne]
    omega
theorem bsum_n4 {e : N4} (he : N4Ok e) : ((bsum (bitW e) 256 : Nat) : Int) = N4V e := by
  have s := fun i hi => bsum_word (bitW e) (64 * i) (at4 e i).toNat 64 (fun t ht => bitW_eq e he i t hi ht)
  have s3 := s 3 (by omega)
  have s2 := s 2 (by omega)
  have s1 := s 1 (by omega)
  have s0 := s 0 (by omega)
  simp only [Nat.mul_zero, Nat.mul_one] at s0 s1 s2 s3
  obtain ⟨⟨a0, a1⟩, ⟨b0, b1⟩, ⟨c0, c1⟩, ⟨d0, d1⟩⟩ := he
  rw [show (256 : Nat) = 64 * 3 + 64 by rfl, s3, show 64 * 3 = 64 * 2 + 64 by rfl, s2, show 64 * 2 = 64 + 64 by rfl, s1, show bsum (bitW e) 64 = bsum (bitW e) (0 + 64) by rw [Nat.zero_add], s0]
  show ((0 + 2 ^ 0 * (e.l0.toNat % 2 ^ 64) + 2 ^ 64 * (e.l1.toNat % 2 ^ 64) + 2 ^ (64 + 64) * (e.l2.toNat % 2 ^ 64) + 2 ^ (64 * 2 + 64) * (e.l3.toNat % 2 ^ 64) : Nat) : Int) = _
  unfold N4V
  generalize e.l0 = x0 at *
  generalize e.l1 = x1 at *
  generalize e.l2 = x2 at *
  generalize e.l3 = x3 at *
  clear s0 s1 s2 s3 s
  omega
theorem mulS_val {x y : N4} (hy : N4Ok y) (ly : N4V y < ordI) : ∀ (k : Nat) (o : N4), N4Ok o → N4V o < ordI → N4Ok (mulS x y k o) ∧ N4V (mulS x y k o) = (N4V o * ((2 ^ k : Nat) : Int) + ((bsum (bitW x) k : Nat) : Int) * N4V y) % ordI
  | 0, o, ho, hl => ⟨by rw [mulS]; exact ho, by
      rw [mulS]
      show N4V o = (N4V o * 1 + 0 * N4V y) % ordI
      rw [Int.mul_one, Int.zero_mul, Int.add_zero, Int.emod_eq_of_lt (N4V_lt ho).1 hl]⟩
  | k + 1, o, ho, hl => by
    have hoo := plusL_ok ho ho
    have loo := plus_lt ho ho hl hl
    have voo := plusL_val ho ho hl hl
    have hp : ((2 ^ (k + 1) : Nat) : Int) = 2 * ((2 ^ k : Nat) : Int) := by rw [Nat.pow_succ]; omega
    have fin : ∀ (z t : Int) (o' : N4), N4V o' = (z + z + t) % ordI → (N4V (mulS x y k o') = (N4V o' * ((2 ^ k : Nat) : Int) + ((bsum (bitW x) k : Nat) : Int) * N4V y) % ordI) → N4V (mulS x y k o') = (z * ((2 ^ (k + 1) : Nat) : Int) + (((bsum (bitW x) k : Nat) : Int) * N4V y + ((2 ^ k : Nat) : Int) * t)) % ordI := by
      intro z t o' h1 h2
      rw [h2, h1, Int.add_emod, Int.mul_emod, Int.emod_emod_of_dvd _ (Int.dvd_refl _), ← Int.mul_emod, ← Int.add_emod, hp]
      congr 1
      rw [Int.add_mul, Int.add_mul, Int.mul_comm t]
      generalize ((2 ^ k : Nat) : Int) = P
      have : z * (2 * P) = z * P + z * P := by rw [← Int.mul_assoc, Int.mul_comm z 2, Int.mul_assoc]; omega
      omega
    cases hb : bitW x k with
    | true =>
      have e : mulS x y (k + 1) o = mulS x y k (plusL (plusL o o) y) := by
        show mulS x y k (match bitW x k with | true => plusL (plusL o o) y | false => plusL o o) = _
        rw [hb]
      have h3 := plusL_ok hoo hy
      have l3 := plus_lt hoo hy loo ly
      have v3 := plusL_val hoo hy loo ly
      rw [voo] at v3
      obtain ⟨g1, g2⟩ := mulS_val hy ly k _ h3 l3
      refine ⟨by rw [e]; exact g1, ?_⟩
      have v4 : N4V (plusL (plusL o o) y) = (N4V o + N4V o + N4V y) % ordI := by
        rw [v3, Int.add_emod, Int.emod_emod_of_dvd _ (Int.dvd_refl _), ← Int.add_emod]
      have := fin (N4V o) (N4V y) _ v4 g2
      rw [e, this]
      congr 2
      show _ = ((bsum (bitW x) k + 2 ^ k * (bitW x k).toNat : Nat) : Int) * N4V y
      rw [hb]
      show _ = ((bsum (bitW x) k + 2 ^ k * 1 : Nat) : Int) * N4V y
      rw [Nat.mul_one, Int.natCast_add, Int.add_mul]
    | false =>
      have e : mulS x y (k + 1) o = mulS x y k (plusL o o) := by
        show mulS x y k (match bitW x k with | true => plusL (plusL o o) y | false => plusL o o) = _
        rw [hb]
      obtain ⟨g1, g2⟩ := mulS_val hy ly k _ hoo loo
      refine ⟨by rw [e]; exact g1, ?_⟩
      have v4 : N4V (plusL o o) = (N4V o + N4V o + 0) % ordI := by rw [voo, Int.add_zero]
      have := fin (N4V o) 0 _ v4 g2
      rw [e, this]
      congr 2
      show _ = ((bsum (bitW x) k + 2 ^ k * (bitW x k).toNat : Nat) : Int) * N4V y
      rw [hb]
      show _ = ((bsum (bitW x) k + 2 ^ k * 0 : Nat) : Int) * N4V y
      rw [Nat.mul_zero, Int.mul_zero, Int.add_zero, Nat.add_zero]
theorem mul0_val {x y : N4} (hx : N4Ok x) (hy : N4Ok y) (ly : N4V y < ordI) : N4Ok (mulS x y 256 zero4) ∧ N4V (mulS x y 256 zero4) = (N4V x * N4V y) % ordI := by
  obtain ⟨h1, h2⟩ := mulS_val (x := x) hy ly 256 zero4 zero4_ok (by rw [zero4_val]; decide)
  refine ⟨h1, ?_⟩
  rw [h2, zero4_val, Int.zero_mul, Int.zero_add, bsum_n4 hx]
end Go.Proofs.YtbfndladaldajaaDoor
/- Package scalar: MulAdd: walk, number. -/
namespace Go.Proofs.YtbfndladaldajaaDoor
open Go Go.Eng
set_option linter.unusedVariables false
set_option maxRecDepth 100000
def le64 (w0 w1 w2 w3 w4 w5 w6 w7 : Int) : B64 := ⟨byteOf w0 0, byteOf w0 1, byteOf w0 2, byteOf w0 3, byteOf w0 4, byteOf w0 5, byteOf w0 6, byteOf w0 7, byteOf w1 0, byteOf w1 1, byteOf w1 2, byteOf w1 3, byteOf w1 4, byteOf w1 5, byteOf w1 6, byteOf w1 7, byteOf w2 0, byteOf w2 1, byteOf w2 2, byteOf w2 3, byteOf w2 4, byteOf w2 5, byteOf w2 6, byteOf w2 7, byteOf w3 0, byteOf w3 1, byteOf w3 2, byteOf w3 3, byteOf w3 4, byteOf w3 5, byteOf w3 6, byteOf w3 7, byteOf w4 0, byteOf w4 1, byteOf w4 2, byteOf w4 3, byteOf w4 4, byteOf w4 5, byteOf w4 6, byteOf w4 7, byteOf w5 0, byteOf w5 1, byteOf w5 2, byteOf w5 3, byteOf w5 4, byteOf w5 5, byteOf w5 6, byteOf w5 7, byteOf w6 0, byteOf w6 1, byteOf w6 2, byteOf w6 3, byteOf w6 4, byteOf w6 5, byteOf w6 6, byteOf w6 7, byteOf w7 0, byteOf w7 1, byteOf w7 2, byteOf w7 3, byteOf w7 4, byteOf w7 5, byteOf w7 6, byteOf w7 7⟩
theorem le64_byte (w0 w1 w2 w3 w4 w5 w6 w7 : Int) : ∀ i, 0 ≤ (le64 w0 w1 w2 w3 w4 w5 w6 w7).at i ∧ (le64 w0 w1 w2 w3 w4 w5 w6 w7).at i < 256 := by
  have hb : ∀ w j, 0 ≤ byteOf w j ∧ byteOf w j < 256 := fun w j => by
    unfold byteOf
    rw [IntKind.wrap_u8]
    omega
  intro i
  unfold B64.at
  split <;> exact hb _ _
theorem byteOf_eq (w : Int) (j : Nat) : byteOf w j = w / 2 ^ (8 * j) % 256 := by
  unfold byteOf
  rw [IntKind.wrap_u8, shrU_eq]
theorem le64_w8 (w0 w1 w2 w3 w4 w5 w6 w7 : Int) (h : ∀ i, 0 ≤ (le64 w0 w1 w2 w3 w4 w5 w6 w7).at i ∧ (le64 w0 w1 w2 w3 w4 w5 w6 w7).at i < 256) :
    (Word w0 → w8 (le64 w0 w1 w2 w3 w4 w5 w6 w7).at 0 = w0) ∧ (Word w1 → w8 (le64 w0 w1 w2 w3 w4 w5 w6 w7).at 8 = w1) ∧ (Word w2 → w8 (le64 w0 w1 w2 w3 w4 w5 w6 w7).at 16 = w2) ∧ (Word w3 → w8 (le64 w0 w1 w2 w3 w4 w5 w6 w7).at 24 = w3) ∧ (Word w4 → w8 (le64 w0 w1 w2 w3 w4 w5 w6 w7).at 32 = w4) ∧ (Word w5 → w8 (le64 w0 w1 w2 w3 w4 w5 w6 w7).at 40 = w5) ∧ (Word w6 → w8 (le64 w0 w1 w2 w3 w4 w5 w6 w7).at 48 = w6) ∧ (Word w7 → w8 (le64 w0 w1 w2 w3 w4 w5 w6 w7).at 56 = w7) := by
  have key : ∀ (w : Int), Word w → (((((((byteOf w 7) * 256 + byteOf w 6) * 256 + byteOf w 5) * 256 + byteOf w 4) * 256 + byteOf w 3) * 256 + byteOf w 2) * 256 + byteOf w 1) * 256 + byteOf w 0 = w := by
    intro w hw
    simp only [byteOf_eq]
    unfold Word at hw
    omega
  refine ⟨fun hw => ((w8_val h 0).1).trans (key _ hw), fun hw => ((w8_val h 8).1).trans (key _ hw), fun hw => ((w8_val h 16).1).trans (key _ hw), fun hw => ((w8_val h 24).1).trans (key _ hw), fun hw => ((w8_val h 32).1).trans (key _ hw), fun hw => ((w8_val h 40).1).trans (key _ hw), fun hw => ((w8_val h 48).1).trans (key _ hw), fun hw => ((w8_val h 56).1).trans (key _ hw)⟩
theorem le64_hor (w0 w1 w2 w3 w4 w5 w6 w7 : Int) (h0 : Word w0) (h1 : Word w1) (h2 : Word w2) (h3 : Word w3) (h4 : Word w4) (h5 : Word w5) (h6 : Word w6) (h7 : Word w7) : hor (le64 w0 w1 w2 w3 w4 w5 w6 w7).at 8 8 = 1 * w0 + 18446744073709551616 * w1 + 340282366920938463463374607431768211456 * w2 + 6277101735386680763835789423207666416102355444464034512896 * w3 + 115792089237316195423570985008687907853269984665640564039457584007913129639936 * w4 + 2135987035920910082395021706169552114602704522356652769947041607822219725780640550022962086936576 * w5 + 39402006196394479212279040100143613805079739270465446667948293404245721771497210611414266254884915640806627990306816 * w6 + 726838724295606890549323807888004534353641360687318060281490199180639288113397923326191050713763565560762521606266177933534601628614656 * w7 := by
  obtain ⟨g0, g1, g2, g3, g4, g5, g6, g7⟩ := le64_w8 w0 w1 w2 w3 w4 w5 w6 w7 (le64_byte w0 w1 w2 w3 w4 w5 w6 w7)
  simp only [hor]
  rw [show 8 * (8 - 1 - 0) = 56 by rfl, g7 h7, show 8 * (8 - 1 - 1) = 48 by rfl, g6 h6, show 8 * (8 - 1 - 2) = 40 by rfl, g5 h5, show 8 * (8 - 1 - 3) = 32 by rfl, g4 h4, show 8 * (8 - 1 - 4) = 24 by rfl, g3 h3, show 8 * (8 - 1 - 5) = 16 by rfl, g2 h2, show 8 * (8 - 1 - 6) = 8 by rfl, g1 h1, show 8 * (8 - 1 - 7) = 0 by rfl, g0 h0]
  omega
namespace scu
noncomputable abbrev fn := Tryd.f48
noncomputable def Γ : Cons Tryd.prog G2 := [screduce_con, mul64_con.lift gx_g2, add64_con.lift gx_g2, scadd_con, scless_con, scbytes_con]
def orc (a b p q r1 r : N4) (x00 y00 x01 y01 x02 y02 x03 y03 x10 y10 x11 y11 x12 y12 x13 y13 x20 y20 x21 y21 x22 y22 x23 y23 x30 y30 x31 y31 x32 y32 x33 y33 : Int) : Orc := [(20, [.s (cN4.enc a)]), (22, [.s (cN4.enc b)]), (53, [.n x00, .n x01, .n x02, .n x03, .n x10, .n x11, .n x12, .n x13, .n x20, .n x21, .n x22, .n x23, .n x30, .n x31, .n x32, .n x33]), (63, [.n y00, .n y01, .n y02, .n y03, .n y10, .n y11, .n y12, .n y13, .n y20, .n y21, .n y22, .n y23, .n y30, .n y31, .n y32, .n y33]), (87, [.s (cN4.enc p)]), (89, [.s (cN4.enc q)]), (90, [.s (cN4.enc r1)]), (91, [.s (cN4.enc r)])]
def cs (A B C : B32) (a b p q r1 r : N4) (x00 y00 x01 y01 x02 y02 x03 y03 x10 y10 x11 y11 x12 y12 x13 y13 x20 y20 x21 y21 x22 y22 x23 y23 x30 y30 x31 y31 x32 y32 x33 y33 : Int) : Cst := [∀ i, 0 ≤ A.at i ∧ A.at i < 256, cN4.enc (redW A.at 4 4) = cN4.enc a, ∀ i, 0 ≤ B.at i ∧ B.at i < 256, cN4.enc (redW B.at 4 4) = cN4.enc b, (0 : Int).toNat ≤ 1, (0 : Int).toNat ≤ 1, add64S (add64S (mulU a.l0 b.l0) 0 0) 0 0 = x00, addU (addU (mulHi a.l0 b.l0) (add64C (mulU a.l0 b.l0) 0 0)) (add64C (add64S (mulU a.l0 b.l0) 0 0) 0 0) = y00, (0 : Int).toNat ≤ 1, (0 : Int).toNat ≤ 1, add64S (add64S (mulU a.l0 b.l1) 0 0) y00 0 = x01, addU (addU (mulHi a.l0 b.l1) (add64C (mulU a.l0 b.l1) 0 0)) (add64C (add64S (mulU a.l0 b.l1) 0 0) y00 0) = y01, (0 : Int).toNat ≤ 1, (0 : Int).toNat ≤ 1, add64S (add64S (mulU a.l0 b.l2) 0 0) y01 0 = x02, addU (addU (mulHi a.l0 b.l2) (add64C (mulU a.l0 b.l2) 0 0)) (add64C (add64S (mulU a.l0 b.l2) 0 0) y01 0) = y02, (0 : Int).toNat ≤ 1, (0 : Int).toNat ≤ 1, add64S (add64S (mulU a.l0 b.l3) 0 0) y02 0 = x03, addU (addU (mulHi a.l0 b.l3) (add64C (mulU a.l0 b.l3) 0 0)) (add64C (add64S (mulU a.l0 b.l3) 0 0) y02 0) = y03, (0 : Int).toNat ≤ 1, (0 : Int).toNat ≤ 1, add64S (add64S (mulU a.l1 b.l0) x01 0) 0 0 = x10, addU (addU (mulHi a.l1 b.l0) (add64C (mulU a.l1 b.l0) x01 0)) (add64C (add64S (mulU a.l1 b.l0) x01 0) 0 0) = y10, (0 : Int).toNat ≤ 1, (0 : Int).toNat ≤ 1, add64S (add64S (mulU a.l1 b.l1) x02 0) y10 0 = x11, addU (addU (mulHi a.l1 b.l1) (add64C (mulU a.l1 b.l1) x02 0)) (add64C (add64S (mulU a.l1 b.l1) x02 0) y10 0) = y11, (0 : Int).toNat ≤ 1, (0 : Int).toNat ≤ 1, add64S (add64S (mulU a.l1 b.l2) x03 0) y11 0 = x12, addU (addU (mulHi a.l1 b.l2) (add64C (mulU a.l1 b.l2) x03 0)) (add64C (add64S (mulU a.l1 b.l2) x03 0) y11 0) = y12, (0 : Int).toNat ≤ 1, (0 : Int).toNat ≤ 1, add64S (add64S (mulU a.l1 b.l3) y03 0) y12 0 = x13, addU (addU (mulHi a.l1 b.l3) (add64C (mulU a.l1 b.l3) y03 0)) (add64C (add64S (mulU a.l1 b.l3) y03 0) y12 0) = y13, (0 : Int).toNat ≤ 1, (0 : Int).toNat ≤ 1, add64S (add64S (mulU a.l2 b.l0) x11 0) 0 0 = x20, addU (addU (mulHi a.l2 b.l0) (add64C (mulU a.l2 b.l0) x11 0)) (add64C (add64S (mulU a.l2 b.l0) x11 0) 0 0) = y20, (0 : Int).toNat ≤ 1, (0 : Int).toNat ≤ 1, add64S (add64S (mulU a.l2 b.l1) x12 0) y20 0 = x21, addU (addU (mulHi a.l2 b.l1) (add64C (mulU a.l2 b.l1) x12 0)) (add64C (add64S (mulU a.l2 b.l1) x12 0) y20 0) = y21, (0 : Int).toNat ≤ 1, (0 : Int).toNat ≤ 1, add64S (add64S (mulU a.l2 b.l2) x13 0) y21 0 = x22, addU (addU (mulHi a.l2 b.l2) (add64C (mulU a.l2 b.l2) x13 0)) (add64C (add64S (mulU a.l2 b.l2) x13 0) y21 0) = y22, (0 : Int).toNat ≤ 1, (0 : Int).toNat ≤ 1, add64S (add64S (mulU a.l2 b.l3) y13 0) y22 0 = x23, addU (addU (mulHi a.l2 b.l3) (add64C (mulU a.l2 b.l3) y13 0)) (add64C (add64S (mulU a.l2 b.l3) y13 0) y22 0) = y23, (0 : Int).toNat ≤ 1, (0 : Int).toNat ≤ 1, add64S (add64S (mulU a.l3 b.l0) x21 0) 0 0 = x30, addU (addU (mulHi a.l3 b.l0) (add64C (mulU a.l3 b.l0) x21 0)) (add64C (add64S (mulU a.l3 b.l0) x21 0) 0 0) = y30, (0 : Int).toNat ≤ 1, (0 : Int).toNat ≤ 1, add64S (add64S (mulU a.l3 b.l1) x22 0) y30 0 = x31, addU (addU (mulHi a.l3 b.l1) (add64C (mulU a.l3 b.l1) x22 0)) (add64C (add64S (mulU a.l3 b.l1) x22 0) y30 0) = y31, (0 : Int).toNat ≤ 1, (0 : Int).toNat ≤ 1, add64S (add64S (mulU a.l3 b.l2) x23 0) y31 0 = x32, addU (addU (mulHi a.l3 b.l2) (add64C (mulU a.l3 b.l2) x23 0)) (add64C (add64S (mulU a.l3 b.l2) x23 0) y31 0) = y32, (0 : Int).toNat ≤ 1, (0 : Int).toNat ≤ 1, add64S (add64S (mulU a.l3 b.l3) y23 0) y32 0 = x33, addU (addU (mulHi a.l3 b.l3) (add64C (mulU a.l3 b.l3) y23 0)) (add64C (add64S (mulU a.l3 b.l3) y23 0) y32 0) = y33, ∀ i, 0 ≤ (le64 x00 x10 x20 x30 x31 x32 x33 y33).at i ∧ (le64 x00 x10 x20 x30 x31 x32 x33 y33).at i < 256, cN4.enc (redW (le64 x00 x10 x20 x30 x31 x32 x33 y33).at 8 8) = cN4.enc p, ∀ i, 0 ≤ C.at i ∧ C.at i < 256, cN4.enc (redW C.at 4 4) = cN4.enc q, N4Ok p, N4Ok q, cN4.enc (sumS p q) = cN4.enc r1, cN4.enc (lessS r1) = cN4.enc r]
theorem ex (A B C : B32) (a b p q r1 r : N4) (x00 y00 x01 y01 x02 y02 x03 y03 x10 y10 x11 y11 x12 y12 x13 y13 x20 y20 x21 y21 x22 y22 x23 y23 x30 y30 x31 y31 x32 y32 x33 y33 : Int) : runOut Γ tys fn 100 [cB32.enc A, cB32.enc B, cB32.enc C] (orc a b p q r1 r x00 y00 x01 y01 x02 y02 x03 y03 x10 y10 x11 y11 x12 y12 x13 y13 x20 y20 x21 y21 x22 y22 x23 y23 x30 y30 x31 y31 x32 y32 x33 y33) = some (cB32.enc (bytes4 r), cs A B C a b p q r1 r x00 y00 x01 y01 x02 y02 x03 y03 x10 y10 x11 y11 x12 y12 x13 y13 x20 y20 x21 y21 x22 y22 x23 y23 x30 y30 x31 y31 x32 y32 x33 y33) := by kernel_rfl
end scu
theorem scu_walk (A B C : B32) (hA : ∀ i, 0 ≤ A.at i ∧ A.at i < 256) (hB : ∀ i, 0 ≤ B.at i ∧ B.at i < 256) (hC : ∀ i, 0 ≤ C.at i ∧ C.at i < 256) (a b : N4) (ea : redW A.at 4 4 = a) (eb : redW B.at 4 4 = b) (x00 y00 x01 y01 x02 y02 x03 y03 x10 y10 x11 y11 x12 y12 x13 y13 x20 y20 x21 y21 x22 y22 x23 y23 x30 y30 x31 y31 x32 y32 x33 y33 : Int) (hx00 : add64S (add64S (mulU a.l0 b.l0) 0 0) 0 0 = x00) (hy00 : addU (addU (mulHi a.l0 b.l0) (add64C (mulU a.l0 b.l0) 0 0)) (add64C (add64S (mulU a.l0 b.l0) 0 0) 0 0) = y00) (hx01 : add64S (add64S (mulU a.l0 b.l1) 0 0) y00 0 = x01) (hy01 : addU (addU (mulHi a.l0 b.l1) (add64C (mulU a.l0 b.l1) 0 0)) (add64C (add64S (mulU a.l0 b.l1) 0 0) y00 0) = y01) (hx02 : add64S (add64S (mulU a.l0 b.l2) 0 0) y01 0 = x02) (hy02 : addU (addU (mulHi a.l0 b.l2) (add64C (mulU a.l0 b.l2) 0 0)) (add64C (add64S (mulU a.l0 b.l2) 0 0) y01 0) = y02) (hx03 : add64S (add64S (mulU a.l0 b.l3) 0 0) y02 0 = x03) (hy03 : addU (addU (mulHi a.l0 b.l3) (add64C (mulU a.l0 b.l3) 0 0)) (add64C (add64S (mulU a.l0 b.l3) 0 0) y02 0) = y03) (hx10 : add64S (add64S (mulU a.l1 b.l0) x01 0) 0 0 = x10) (hy10 : addU (addU (mulHi a.l1 b.l0) (add64C (mulU a.l1 b.l0) x01 0)) (add64C (add64S (mulU a.l1 b.l0) x01 0) 0 0) = y10) (hx11 : add64S (add64S (mulU a.l1 b.l1) x02 0) y10 0 = x11) (hy11 : addU (addU (mulHi a.l1 b.l1) (add64C (mulU a.l1 b.l1) x02 0)) (add64C (add64S (mulU a.l1 b.l1) x02 0) y10 0) = y11) (hx12 : add64S (add64S (mulU a.l1 b.l2) x03 0) y11 0 = x12) (hy12 : addU (addU (mulHi a.l1 b.l2) (add64C (mulU a.l1 b.l2) x03 0)) (add64C (add64S (mulU a.l1 b.l2) x03 0) y11 0) = y12) (hx13 : add64S (add64S (mulU a.l1 b.l3) y03 0) y12 0 = x13) (hy13 : addU (addU (mulHi a.l1 b.l3) (add64C (mulU a.l1 b.l3) y03 0)) (add64C (add64S (mulU a.l1 b.l3) y03 0) y12 0) = y13) (hx20 : add64S (add64S (mulU a.l2 b.l0) x11 0) 0 0 = x20) (hy20 : addU (addU (mulHi a.l2 b.l0) (add64C (mulU a.l2 b.l0) x11 0)) (add64C (add64S (mulU a.l2 b.l0) x11 0) 0 0) = y20) (hx21 : add64S (add64S (mulU a.l2 b.l1) x12 0) y20 0 = x21) (hy21 : addU (addU (mulHi a.l2 b.l1) (add64C (mulU a.l2 b.l1) x12 0)) (add64C (add64S (mulU a.l2 b.l1) x12 0) y20 0) = y21) (hx22 : add64S (add64S (mulU a.l2 b.l2) x13 0) y21 0 = x22) (hy22 : addU (addU (mulHi a.l2 b.l2) (add64C (mulU a.l2 b.l2) x13 0)) (add64C (add64S (mulU a.l2 b.l2) x13 0) y21 0) = y22) (hx23 : add64S (add64S (mulU a.l2 b.l3) y13 0) y22 0 = x23) (hy23 : addU (addU (mulHi a.l2 b.l3) (add64C (mulU a.l2 b.l3) y13 0)) (add64C (add64S (mulU a.l2 b.l3) y13 0) y22 0) = y23) (hx30 : add64S (add64S (mulU a.l3 b.l0) x21 0) 0 0 = x30) (hy30 : addU (addU (mulHi a.l3 b.l0) (add64C (mulU a.l3 b.l0) x21 0)) (add64C (add64S (mulU a.l3 b.l0) x21 0) 0 0) = y30) (hx31 : add64S (add64S (mulU a.l3 b.l1) x22 0) y30 0 = x31) (hy31 : addU (addU (mulHi a.l3 b.l1) (add64C (mulU a.l3 b.l1) x22 0)) (add64C (add64S (mulU a.l3 b.l1) x22 0) y30 0) = y31) (hx32 : add64S (add64S (mulU a.l3 b.l2) x23 0) y31 0 = x32) (hy32 : addU (addU (mulHi a.l3 b.l2) (add64C (mulU a.l3 b.l2) x23 0)) (add64C (add64S (mulU a.l3 b.l2) x23 0) y31 0) = y32) (hx33 : add64S (add64S (mulU a.l3 b.l3) y23 0) y32 0 = x33) (hy33 : addU (addU (mulHi a.l3 b.l3) (add64C (mulU a.l3 b.l3) y23 0)) (add64C (add64S (mulU a.l3 b.l3) y23 0) y32 0) = y33) :
    FnOk Tryd.prog G2 48 [cB32.enc A, cB32.enc B, cB32.enc C] (cB32.enc (bytes4 (lessS (sumS (redW (le64 x00 x10 x20 x30 x31 x32 x33 y33).at 8 8) (redW C.at 4 4))))) :=
  have z : (0 : Int).toNat ≤ 1 := by decide
  FnOk.of_out tys_ok mixed Tryd.func48 (scu.ex A B C a b (redW (le64 x00 x10 x20 x30 x31 x32 x33 y33).at 8 8) (redW C.at 4 4) _ _ x00 y00 x01 y01 x02 y02 x03 y03 x10 y10 x11 y11 x12 y12 x13 y13 x20 y20 x21 y21 x22 y22 x23 y23 x30 y30 x31 y31 x32 y32 x33 y33) ⟨hA, congrArg cN4.enc ea, hB, congrArg cN4.enc eb, z, z, hx00, hy00, z, z, hx01, hy01, z, z, hx02, hy02, z, z, hx03, hy03, z, z, hx10, hy10, z, z, hx11, hy11, z, z, hx12, hy12, z, z, hx13, hy13, z, z, hx20, hy20, z, z, hx21, hy21, z, z, hx22, hy22, z, z, hx23, hy23, z, z, hx30, hy30, z, z, hx31, hy31, z, z, hx32, hy32, z, z, hx33, hy33, le64_byte _ _ _ _ _ _ _ _, rfl, hC, rfl, (redW_val (le64_byte _ _ _ _ _ _ _ _) 8 8).1, (redW_val hC 4 4).1, rfl, rfl, trivial⟩ rfl rfl
theorem scu_fn (A B C : B32) (hA : ∀ i, 0 ≤ A.at i ∧ A.at i < 256) (hB : ∀ i, 0 ≤ B.at i ∧ B.at i < 256) (hC : ∀ i, 0 ≤ C.at i ∧ C.at i < 256) : FnOk Tryd.prog G2 48 [cB32.enc A, cB32.enc B, cB32.enc C] (cB32.enc (smulB A B C)) := by
  obtain ⟨oka, va⟩ := redW_val hA 4 4
  obtain ⟨okb, vb⟩ := redW_val hB 4 4
  have la := redW_lt hA 4 4
  have lb := redW_lt hB 4 4
  have lc := redW_lt hC 4 4
  obtain ⟨okc, vc⟩ := redW_val hC 4 4
  have e : smulB A B C = bytes4 (plusL (mulS (redW A.at 4 4) (redW B.at 4 4) 256 zero4) (redW C.at 4 4)) := by
    unfold smulB smulN
    rw [modN_red hA, modN_red hB, modN_red hC]
  obtain ⟨okm, vm⟩ := mul0_val oka okb lb
  rw [e]
  clear va vb e
  generalize ea : redW A.at 4 4 = a at *
  generalize eb : redW B.at 4 4 = b at *
  obtain ⟨a0, a1, a2, a3⟩ := oka
  obtain ⟨b0, b1, b2, b3⟩ := okb
  obtain ⟨wx00, wy00, e00⟩ := mulStep a0 b0 word0 word0
  generalize hx00 : add64S (add64S (mulU a.l0 b.l0) 0 0) 0 0 = x00 at wx00 e00
  generalize hy00 : addU (addU (mulHi a.l0 b.l0) (add64C (mulU a.l0 b.l0) 0 0)) (add64C (add64S (mulU a.l0 b.l0) 0 0) 0 0) = y00 at wy00 e00
  obtain ⟨wx01, wy01, e01⟩ := mulStep a0 b1 word0 wy00
  generalize hx01 : add64S (add64S (mulU a.l0 b.l1) 0 0) y00 0 = x01 at wx01 e01
  generalize hy01 : addU (addU (mulHi a.l0 b.l1) (add64C (mulU a.l0 b.l1) 0 0)) (add64C (add64S (mulU a.l0 b.l1) 0 0) y00 0) = y01 at wy01 e01
  obtain ⟨wx02, wy02, e02⟩ := mulStep a0 b2 word0 wy01
  generalize hx02 : add64S (add64S (mulU a.l0 b.l2) 0 0) y01 0 = x02 at wx02 e02
  generalize hy02 : addU (addU (mulHi a.l0 b.l2) (add64C (mulU a.l0 b.l2) 0 0)) (add64C (add64S (mulU a.l0 b.l2) 0 0) y01 0) = y02 at wy02 e02
  obtain ⟨wx03, wy03, e03⟩ := mulStep a0 b3 word0 wy02
  generalize hx03 : add64S (add64S (mulU a.l0 b.l3) 0 0) y02 0 = x03 at wx03 e03
  generalize hy03 : addU (addU (mulHi a.l0 b.l3) (add64C (mulU a.l0 b.l3) 0 0)) (add64C (add64S (mulU a.l0 b.l3) 0 0) y02 0) = y03 at wy03 e03
  obtain ⟨wx10, wy10, e10⟩ := mulStep a1 b0 wx01 word0
  generalize hx10 : add64S (add64S (mulU a.l1 b.l0) x01 0) 0 0 = x10 at wx10 e10
  generalize hy10 : addU (addU (mulHi a.l1 b.l0) (add64C (mulU a.l1 b.l0) x01 0)) (add64C (add64S (mulU a.l1 b.l0) x01 0) 0 0) = y10 at wy10 e10
  obtain ⟨wx11, wy11, e11⟩ := mulStep a1 b1 wx02 wy10
  generalize hx11 : add64S (add64S (mulU a.l1 b.l1) x02 0) y10 0 = x11 at wx11 e11
  generalize hy11 : addU (addU (mulHi a.l1 b.l1) (add64C (mulU a.l1 b.l1) x02 0)) (add64C (add64S (mulU a.l1 b.l1) x02 0) y10 0) = y11 at wy11 e11
  obtain ⟨wx12, wy12, e12⟩ := mulStep a1 b2 wx03 wy11
  generalize hx12 : add64S (add64S (mulU a.l1 b.l2) x03 0) y11 0 = x12 at wx12 e12
  generalize hy12 : addU (addU (mulHi a.l1 b.l2) (add64C (mulU a.l1 b.l2) x03 0)) (add64C (add64S (mulU a.l1 b.l2) x03 0) y11 0) = y12 at wy12 e12
  obtain ⟨wx13, wy13, e13⟩ := mulStep a1 b3 wy03 wy12
  generalize hx13 : add64S (add64S (mulU a.l1 b.l3) y03 0) y12 0 = x13 at wx13 e13
  generalize hy13 : addU (addU (mulHi a.l1 b.l3) (add64C (mulU a.l1 b.l3) y03 0)) (add64C (add64S (mulU a.l1 b.l3) y03 0) y12 0) = y13 at wy13 e13
  obtain ⟨wx20, wy20, e20⟩ := mulStep a2 b0 wx11 word0
  generalize hx20 : add64S (add64S (mulU a.l2 b.l0) x11 0) 0 0 = x20 at wx20 e20
  generalize hy20 : addU (addU (mulHi a.l2 b.l0) (add64C (mulU a.l2 b.l0) x11 0)) (add64C (add64S (mulU a.l2 b.l0) x11 0) 0 0) = y20 at wy20 e20
  obtain ⟨wx21, wy21, e21⟩ := mulStep a2 b1 wx12 wy20
  generalize hx21 : add64S (add64S (mulU a.l2 b.l1) x12 0) y20 0 = x21 at wx21 e21
  generalize hy21 : addU (addU (mulHi a.l2 b.l1) (add64C (mulU a.l2 b.l1) x12 0)) (add64C (add64S (mulU a.l2 b.l1) x12 0) y20 0) = y21 at wy21 e21
  obtain ⟨wx22, wy22, e22⟩ := mulStep a2 b2 wx13 wy21
  generalize hx22 : add64S (add64S (mulU a.l2 b.l2) x13 0) y21 0 = x22 at wx22 e22
  generalize hy22 : addU (addU (mulHi a.l2 b.l2) (add64C (mulU a.l2 b.l2) x13 0)) (add64C (add64S (mulU a.l2 b.l2) x13 0) y21 0) = y22 at wy22 e22
  obtain ⟨wx23, wy23, e23⟩ := mulStep a2 b3 wy13 wy22
  generalize hx23 : add64S (add64S (mulU a.l2 b.l3) y13 0) y22 0 = x23 at wx23 e23
  generalize hy23 : addU (addU (mulHi a.l2 b.l3) (add64C (mulU a.l2 b.l3) y13 0)) (add64C (add64S (mulU a.l2 b.l3) y13 0) y22 0) = y23 at wy23 e23
  obtain ⟨wx30, wy30, e30⟩ := mulStep a3 b0 wx21 word0
  generalize hx30 : add64S (add64S (mulU a.l3 b.l0) x21 0) 0 0 = x30 at wx30 e30
  generalize hy30 : addU (addU (mulHi a.l3 b.l0) (add64C (mulU a.l3 b.l0) x21 0)) (add64C (add64S (mulU a.l3 b.l0) x21 0) 0 0) = y30 at wy30 e30
  obtain ⟨wx31, wy31, e31⟩ := mulStep a3 b1 wx22 wy30
  generalize hx31 : add64S (add64S (mulU a.l3 b.l1) x22 0) y30 0 = x31 at wx31 e31
  generalize hy31 : addU (addU (mulHi a.l3 b.l1) (add64C (mulU a.l3 b.l1) x22 0)) (add64C (add64S (mulU a.l3 b.l1) x22 0) y30 0) = y31 at wy31 e31
  obtain ⟨wx32, wy32, e32⟩ := mulStep a3 b2 wx23 wy31
  generalize hx32 : add64S (add64S (mulU a.l3 b.l2) x23 0) y31 0 = x32 at wx32 e32
  generalize hy32 : addU (addU (mulHi a.l3 b.l2) (add64C (mulU a.l3 b.l2) x23 0)) (add64C (add64S (mulU a.l3 b.l2) x23 0) y31 0) = y32 at wy32 e32
  obtain ⟨wx33, wy33, e33⟩ := mulStep a3 b3 wy23 wy32
  generalize hx33 : add64S (add64S (mulU a.l3 b.l3) y23 0) y32 0 = x33 at wx33 e33
  generalize hy33 : addU (addU (mulHi a.l3 b.l3) (add64C (mulU a.l3 b.l3) y23 0)) (add64C (add64S (mulU a.l3 b.l3) y23 0) y32 0) = y33 at wy33 e33
  have walk := scu_walk A B C hA hB hC a b ea eb x00 y00 x01 y01 x02 y02 x03 y03 x10 y10 x11 y11 x12 y12 x13 y13 x20 y20 x21 y21 x22 y22 x23 y23 x30 y30 x31 y31 x32 y32 x33 y33 hx00 hy00 hx01 hy01 hx02 hy02 hx03 hy03 hx10 hy10 hx11 hy11 hx12 hy12 hx13 hy13 hx20 hy20 hx21 hy21 hx22 hy22 hx23 hy23 hx30 hy30 hx31 hy31 hx32 hy32 hx33 hy33
  have hh := le64_hor x00 x10 x20 x30 x31 x32 x33 y33 wx00 wx10 wx20 wx30 wx31 wx32 wx33 wy33
  have hV : N4V a * N4V b = 1 * x00 + 18446744073709551616 * x10 + 340282366920938463463374607431768211456 * x20 + 6277101735386680763835789423207666416102355444464034512896 * x30 + 115792089237316195423570985008687907853269984665640564039457584007913129639936 * x31 + 2135987035920910082395021706169552114602704522356652769947041607822219725780640550022962086936576 * x32 + 39402006196394479212279040100143613805079739270465446667948293404245721771497210611414266254884915640806627990306816 * x33 + 726838724295606890549323807888004534353641360687318060281490199180639288113397923326191050713763565560762521606266177933534601628614656 * y33 := by
    have hV : N4V a * N4V b = (a.l0 * b.l0 + 18446744073709551616 * (a.l0 * b.l1) + 340282366920938463463374607431768211456 * (a.l0 * b.l2) + 6277101735386680763835789423207666416102355444464034512896 * (a.l0 * b.l3))
        + 18446744073709551616 * (a.l1 * b.l0 + 18446744073709551616 * (a.l1 * b.l1) + 340282366920938463463374607431768211456 * (a.l1 * b.l2) + 6277101735386680763835789423207666416102355444464034512896 * (a.l1 * b.l3))
        + 340282366920938463463374607431768211456 * (a.l2 * b.l0 + 18446744073709551616 * (a.l2 * b.l1) + 340282366920938463463374607431768211456 * (a.l2 * b.l2) + 6277101735386680763835789423207666416102355444464034512896 * (a.l2 * b.l3))
        + 6277101735386680763835789423207666416102355444464034512896 * (a.l3 * b.l0 + 18446744073709551616 * (a.l3 * b.l1) + 340282366920938463463374607431768211456 * (a.l3 * b.l2) + 6277101735386680763835789423207666416102355444464034512896 * (a.l3 * b.l3))
        := by unfold N4V; grind
    rw [hV]
    clear hV hh walk vm okm lc la lb hx00 hy00 hx01 hy01 hx02 hy02 hx03 hy03 hx10 hy10 hx11 hy11 hx12 hy12 hx13 hy13 hx20 hy20 hx21 hy21 hx22 hy22 hx23 hy23 hx30 hy30 hx31 hy31 hx32 hy32 hx33 hy33
    generalize a.l0 * b.l0 = p00 at *
    generalize a.l0 * b.l1 = p01 at *
    generalize a.l0 * b.l2 = p02 at *
    generalize a.l0 * b.l3 = p03 at *
    generalize a.l1 * b.l0 = p10 at *
    generalize a.l1 * b.l1 = p11 at *
    generalize a.l1 * b.l2 = p12 at *
    generalize a.l1 * b.l3 = p13 at *
    generalize a.l2 * b.l0 = p20 at *
    generalize a.l2 * b.l1 = p21 at *
    generalize a.l2 * b.l2 = p22 at *
    generalize a.l2 * b.l3 = p23 at *
    generalize a.l3 * b.l0 = p30 at *
    generalize a.l3 * b.l1 = p31 at *
    generalize a.l3 * b.l2 = p32 at *
    generalize a.l3 * b.l3 = p33 at *
    omega
  obtain ⟨okp, vp⟩ := redW_val (le64_byte x00 x10 x20 x30 x31 x32 x33 y33) 8 8
  have lp := redW_lt (le64_byte x00 x10 x20 x30 x31 x32 x33 y33) 8 8
  rw [hh, ← hV] at vp
  refine cast (congrArg (fun r => FnOk Tryd.prog G2 48 [cB32.enc A, cB32.enc B, cB32.enc C] (cB32.enc (bytes4 r))) ?_) walk
  clear walk hh hV hx00 hy00 hx01 hy01 hx02 hy02 hx03 hy03 hx10 hy10 hx11 hy11 hx12 hy12 hx13 hy13 hx20 hy20 hx21 hy21 hx22 hy22 hx23 hy23 hx30 hy30 hx31 hy31 hx32 hy32 hx33 hy33
  have eq : redW (le64 x00 x10 x20 x30 x31 x32 x33 y33).at 8 8 = mulS a b 256 zero4 := N4V_inj okp okm (by rw [vp, vm])
  rw [eq] at lp okp ⊢
  clear vp vm eq
  generalize mulS a b 256 zero4 = m at *
  generalize redW C.at 4 4 = c at *
  have hm := (N4V_lt okm).1
  have hc := (N4V_lt okc).1
  obtain ⟨s1, s2⟩ := sum_small okm okc (by unfold ordI at lp lc; omega)
  obtain ⟨l1, l2⟩ := lessS_val s1 (by rw [s2]; omega)
  refine N4V_inj l1 (plusL_ok okm okc) ?_
  rw [l2, s2, plusL_val okm okc lp lc]
noncomputable def scu_con : Con Tryd.prog G2 := con3 48 Tryd.f48 Tryd.func48 (by kernel_rfl) (by kernel_rfl) cB32 cB32 cB32 (fun a b c => cB32.enc (smulB a b c)) (fun a b c => [∀ i, 0 ≤ a.at i ∧ a.at i < 256, ∀ i, 0 ≤ b.at i ∧ b.at i < 256, ∀ i, 0 ≤ c.at i ∧ c.at i < 256]) (fun _ _ _ => rfl) (fun a b c h => scu_fn a b c h.1 h.2.1 h.2.2.1)
end Go.Proofs.YtbfndladaldajaaDoor
/- Points: what the calls on bytes come to, on both sides. -/
namespace Go.Proofs.YtbfndladaldajaaDoor
open Go Go.Eng
set_option linter.unusedVariables false
structure PtB (b : B32) (p : Pt) : Prop where
  ok : BOk b
  on : OnC p
  val : VB b = encV p
theorem PtB.dec {b : B32} {p : Pt} (h : PtB b p) : decOk b = true ∧ Rep (decP b) p := dec_of h.ok h.on h.val
theorem PtB.enc {P : P20} {p : Pt} (h : Rep P p) (ho : OnC p) : PtB (encP P) p := ⟨(enc_val h).1, ho, (enc_val h).2⟩
theorem PtB.eq {a b : B32} {p : Pt} (ha : PtB a p) (hb : PtB b p) : eqB a b = true := eqB_val ha.ok hb.ok (by rw [ha.val, hb.val])
theorem PtB.inj {a : B32} {p q : Pt} (hp : PtB a p) (hq : PtB a q) : p = q := encV_inj hp.on hq.on (by rw [← hp.val, hq.val])
theorem base_pt {n : B32} (hn : BOk n) : PtB (pbaseB n) (nC bC (NV n)) := PtB.enc (often_rep base_rep bC_on hn) (nC_on bC_on _)
theorem zeroPt_ok : BOk zeroPt := by
  intro i
  unfold B32.at zeroPt
  split <;> exact ⟨by decide, by decide⟩
theorem zero_pt : PtB zeroPt oC := ⟨zeroPt_ok, oC_on, by decide +kernel⟩
theorem gen_eq : encP baseP = genPt := by
  obtain ⟨h1, h2⟩ := enc_val base_rep
  refine VB_inj _ _ h1 genPt_ok ?_
  rw [h2]
  decide +kernel
theorem gen_pt : PtB genPt bC := ⟨genPt_ok, bC_on, by rw [← gen_eq]; exact (enc_val base_rep).2⟩
theorem byteSum_low (b : B32) : ∀ k, byteSum b k = lowV b k
  | 0 => rfl
  | k + 1 => by rw [byteSum, lowV, byteSum_low b k]
theorem bits_NV {b : B32} (hb : BOk b) : bsum (bitB b) 256 = NV b := by
  rw [show 256 = 8 * 32 from rfl, bsum_bytes hb, byteSum_low, lowV_eq hb]
theorem pt_of {b : B32} (hb : BOk b) (h : decOk b = true) : ∃ p, PtB b p := by
  obtain ⟨p, h1, h2, h3⟩ := dec_main hb h
  exact ⟨p, hb, h1, h2⟩
def IsN (n : N4) (x : Fp) : Prop := N4Ok n ∧ toF (N4V n) = x
theorem IsN.eq {n : N4} {x y : Fp} (h : IsN n x) (e : x = y) : IsN n y := e ▸ h
theorem IsN.plus {a b : N4} {x y : Fp} (ha : IsN a x) (hb : IsN b y) : IsN (plusN a b) (x + y) := by
  obtain ⟨h1, rfl⟩ := ha
  obtain ⟨h2, rfl⟩ := hb
  obtain ⟨h3, h4⟩ := plusN_val h1 h2
  exact ⟨h3, by rw [toF_eq.2 h4, toF_add]⟩
theorem IsN.minus {a b : N4} {x y : Fp} (ha : IsN a x) (hb : IsN b y) : IsN (minusN a b) (x - y) := by
  obtain ⟨h1, rfl⟩ := ha
  obtain ⟨h2, rfl⟩ := hb
  obtain ⟨h3, h4⟩ := minusN_val h1 h2
  exact ⟨h3, by rw [toF_eq.2 h4, toF_sub]⟩
theorem IsN.times {a b : N4} {x y : Fp} (ha : IsN a x) (hb : IsN b y) : IsN (timesN a b) (x * y) := by
  obtain ⟨h1, rfl⟩ := ha
  obtain ⟨h2, rfl⟩ := hb
  obtain ⟨h3, h4⟩ := timesN_val h1 h2
  exact ⟨h3, by rw [toF_eq.2 h4, toF_mul]⟩
theorem IsN.inv {a : N4} {x : Fp} (ha : IsN a x) : IsN (invN a) (finv x) := by
  obtain ⟨h1, h2⟩ := ha
  obtain ⟨h3, h4⟩ := invN_val h1
  refine ⟨h3, ?_⟩
  rw [toF_eq.2 h4]
  unfold finv
  generalize pN - 2 = k
  exact toF_pow_val x _ h2 k
theorem IsN.least {a : N4} {x : Fp} (ha : IsN a x) : IsN (leastN a) x ∧ N4V (leastN a) = (x.val : Int) := by
  obtain ⟨h1, rfl⟩ := ha
  obtain ⟨h3, h4, h5⟩ := leastN_val h1
  refine ⟨⟨h3, ?_⟩, ?_⟩
  · rw [toF_eq, h5, Int.emod_emod]
  · rw [h5, toF_val]
theorem zero4_n : IsN zero4 0 := ⟨zero4_ok, by rw [zero4_val]; exact toF_zero⟩
theorem one4_n : IsN one4 1 := ⟨one4_ok, by rw [one4_val]; exact toF_one⟩
theorem d4_n : IsN d4 dF := ⟨d4_ok, by decide +kernel⟩
def QRep (Q : P16) (p : Pt) : Prop := ∃ z : Fp, z ≠ 0 ∧ IsN Q.x (p.1 * z) ∧ IsN Q.y (p.2 * z) ∧ IsN Q.z z ∧ IsN Q.t (p.1 * p.2 * z)
theorem QRep.ok {Q : P16} {p : Pt} (h : QRep Q p) : QOk Q := by
  obtain ⟨z, hz, hx, hy, hzz, ht⟩ := h
  exact ⟨hx.1, hy.1, hzz.1, ht.1⟩
theorem QRep.neutral : QRep neutralQ oC := by
  refine ⟨1, one_ne, ?_, ?_, one4_n, ?_⟩
  · exact zero4_n.eq (by decide +kernel)
  · exact one4_n.eq (by decide +kernel)
  · exact zero4_n.eq (by decide +kernel)
section
variable {R : Type} [Lean.Grind.CommRing R]
theorem qc (a b c d z w e : R) : a * b * z * (c * d * w) * (e + e) = a * b * z * (e + e) * (c * d * w) := by grind
theorem qd (z w : R) : (z + z) * w = z * w + z * w := by grind
theorem qm1 (x z : R) : 0 - x * z = -x * z := by grind
theorem qm2 (x y z : R) : 0 - x * y * z = -x * y * z := by grind
theorem q1 (x : R) : x * 1 = x := by grind
theorem q2 (x y : R) : x * y * 1 = x * y := by grind
end
theorem QRep.sum {P Q : P16} {p q : Pt} (hp : QRep P p) (hq : QRep Q q) (op : OnC p) (oq : OnC q) : QRep (sumQ P Q) (addC p q) := by
  obtain ⟨z, hz, hx, hy, hzz, ht⟩ := hp
  obtain ⟨w, hw, kx, ky, kz, kt⟩ := hq
  have dp := den_pos op oq
  have dn := den_neg op oq
  have ip := finv_mul dp
  have jp := finv_mul dn
  have hA : IsN (sumA P Q) ((p.2 * z - p.1 * z) * (q.2 * w - q.1 * w)) := (hy.minus hx).times (ky.minus kx)
  have hB : IsN (sumB P Q) ((p.2 * z + p.1 * z) * (q.2 * w + q.1 * w)) := (hy.plus hx).times (ky.plus kx)
  have hC : IsN (sumC P Q) (p.1 * p.2 * z * (dF + dF) * (q.1 * q.2 * w)) := ((ht.times kt).times (d4_n.plus d4_n)).eq (qc _ _ _ _ _ _ _)
  have hD : IsN (sumD P Q) (z * w + z * w) := ((hzz.plus hzz).times kz).eq (qd _ _)
  obtain ⟨e1, e2, e3⟩ := pa1 dF p.1 p.2 q.1 q.2 z w (finv (1 + dF * p.1 * q.1 * p.2 * q.2)) (finv (1 - dF * p.1 * q.1 * p.2 * q.2)) ip jp _ _ _ _ rfl rfl rfl rfl
  have hn := pa2 dF p.1 p.2 q.1 q.2 z w _ _ rfl rfl
  refine ⟨_, ?_, ((hB.minus hA).times (hD.minus hC)).eq e1, ((hD.plus hC).times (hB.plus hA)).eq e2, (hD.minus hC).times (hD.plus hC), ((hB.minus hA).times (hB.plus hA)).eq e3⟩
  rw [hn]
  exact F_mul_ne (F_mul_ne (F_mul_ne (F_mul_ne two_ne hz) hw) dn) (F_mul_ne (F_mul_ne (F_mul_ne two_ne hz) hw) dp)
theorem QRep.neg {P : P16} {p : Pt} (hp : QRep P p) : QRep (negQ P) (negC p) := by
  obtain ⟨z, hz, hx, hy, hzz, ht⟩ := hp
  exact ⟨z, hz, (zero4_n.minus hx).eq (qm1 _ _), hy, hzz, (zero4_n.minus ht).eq (qm2 _ _ _)⟩
theorem oftQ_rep {n : B32} {P : P16} {p : Pt} (h : QRep P p) (hp : OnC p) : ∀ (k m : Nat) (O : P16), QRep O (nC p m) → QRep (oftQ n P k O) (nC p (m * 2 ^ k + bsum (bitB n) k))
  | 0, m, O, ho => by rw [oftQ, bsum, Nat.pow_zero, Nat.mul_one, Nat.add_zero]; exact ho
  | k + 1, m, O, ho => by
    rw [oftQ, bsum]
    have h2 := ho.sum ho (nC_on hp m) (nC_on hp m)
    rw [← nC_add hp] at h2
    cases hb : bitB n k with
    | true =>
      have h3 := h2.sum h (nC_on hp _) hp
      have h4 := oftQ_rep (n := n) h hp k (m + m + 1) _ h3
      have e : (m + m + 1) * 2 ^ k + bsum (bitB n) k = m * 2 ^ (k + 1) + (bsum (bitB n) k + 2 ^ k * true.toNat) := by
        rw [Nat.pow_succ, Bool.toNat_true]
        generalize 2 ^ k = t
        grind
      rw [← e]
      exact h4
    | false =>
      have h4 := oftQ_rep (n := n) h hp k (m + m) _ h2
      have e : (m + m) * 2 ^ k + bsum (bitB n) k = m * 2 ^ (k + 1) + (bsum (bitB n) k + 2 ^ k * false.toNat) := by
        rw [Nat.pow_succ, Bool.toNat_false]
        generalize 2 ^ k = t
        grind
      rw [← e]
      exact h4
theorem oftenQ_rep {n : B32} (hn : BOk n) {P : P16} {p : Pt} (h : QRep P p) (hp : OnC p) : QRep (oftenQ n P) (nC p (NV n)) := by
  have h1 := oftQ_rep (n := n) h hp 256 0 neutralQ (by rw [nC]; exact QRep.neutral)
  rw [Nat.zero_mul, Nat.zero_add, bits_NV hn] at h1
  exact h1
theorem or0 (x : Int) (h0 : 0 ≤ x) (h1 : x < 256) : bits .or .u8 x 0 = x := by
  have h : bits .or .u8 0 x = 0 + x := bits_join .u8 8 (by decide) wraps_u8 8 0 x (by decide) (by decide) (by decide) h0 h1 (by omega)
  have c : bits .or .u8 x 0 = bits .or .u8 0 x := by
    unfold bits
    simp only
    rw [BitVec.or_comm]
  rw [c, h, Int.zero_add]
theorem qpar_val {n : N4} {x : Fp} (h : IsN n x) (hv : N4V n = (x.val : Int)) : IntKind.u8.wrap (n.l0.tmod 2) = ((x.val % 2 : Nat) : Int) := by
  have h0 := h.1.1.1
  have hp := l0_par h.1
  rw [Int.tmod_eq_emod_of_nonneg h0, IntKind.wrap_u8, hp, hv]
  omega
theorem encQ_val {P : P16} {p : Pt} (h : QRep P p) : BOk (encQ P) ∧ VB (encQ P) = encV p := by
  obtain ⟨z, hz, hx, hy, hzz, ht⟩ := h
  have hi := finv_mul hz
  have ex : p.1 * z * finv z = p.1 := by generalize finv z = i at *; grind
  have ey : p.2 * z * finv z = p.2 := by generalize finv z = i at *; grind
  obtain ⟨kx, vx⟩ := ((hx.times hzz.inv).eq ex).least
  have ky := (hy.times hzz.inv).eq ey
  have vy := ky.least.2
  have hpx : IntKind.u8.wrap ((qX P).l0.tmod 2) = ((p.1.val % 2 : Nat) : Int) := qpar_val kx vx
  have b0 : BOk (qY P) := bytes4_ok _
  have b1 : VB (qY P) = (p.2.val : Int) := by
    unfold qY
    rw [bytes4_val _ ky.least.1.1, vy]
  obtain ⟨r, r1, r2, r3⟩ := VB_hi b0
  have hl := Fp_lt p.2
  have hpl := pP_lit
  have htb := top_byte b0
  have hlt : (qY P).b31 < 128 := by omega
  unfold encQ encV
  rw [hpx]
  have h3 : p.1.val % 2 < 2 := Nat.mod_lt _ (by decide)
  rcases (by omega : p.1.val % 2 = 0 ∨ p.1.val % 2 = 1) with h | h
  · rw [h]
    have e : IntKind.u8.wrap (((0 : Nat) : Int) * 2 ^ 7) = 0 := by decide
    rw [e, or0 _ htb.1 htb.2]
    refine ⟨set31_ok b0 htb, ?_⟩
    rw [set31_val, b1]
    omega
  · rw [h]
    have e : IntKind.u8.wrap (((1 : Nat) : Int) * 2 ^ 7) = 128 := by decide
    rw [e, or7 _ htb.1 hlt]
    refine ⟨set31_ok b0 ⟨by omega, by omega⟩, ?_⟩
    rw [set31_val, b1]
    omega
theorem eqZ {n : N4} {x : Fp} (h : IsN n x) (hv : N4V n = (x.val : Int)) : eqI n.to zero4.to = true ↔ x = 0 := by
  rw [eqI_iff _ _ (by rw [N4to_len, N4to_len])]
  constructor
  · intro e
    have e2 := N4to_inj e
    rw [e2, zero4_val] at hv
    exact Fin.ext (by show x.val = 0; omega)
  · intro e
    have e2 : n = zero4 := N4V_inj h.1 zero4_ok (by rw [hv, e, zero4_val]; rfl)
    rw [e2]
theorem rootF {a : N4} {x : Fp} (ha : IsN a x) : ∃ r : Fp, IsN (leastN (rt1 a)) r ∧ N4V (leastN (rt1 a)) = (r.val : Int) ∧ (rtOk a = true ↔ r * r = x) ∧ ((∃ s, s * s = x) → r * r = x) := by
  obtain ⟨h1, rfl⟩ := ha
  obtain ⟨h2, h3⟩ := rt1_val h1
  have h4 := rtOk_iff h1
  have hr : IsN (rt1 a) (toF (N4V (rt1 a))) := ⟨h2, rfl⟩
  obtain ⟨k1, k2⟩ := hr.least
  refine ⟨_, k1, k2, ?_, ?_⟩
  · rw [h4, ← toF_mul, toF_eq]
  · rintro ⟨s, hs⟩
    have := h3 ⟨(s.val : Int), by rw [← toF_eq, toF_mul, toF_self, hs]⟩
    rw [← toF_mul, toF_eq]
    exact this
theorem qOk_iff (b : B32) : qOk b = true ↔ belowW (fromN (low31 b)) p4 = true ∧ rtOk (qq b) = true ∧ (eqI (qr b).to zero4.to = true → sign31 b = false) := by
  unfold qOk sign31
  cases belowW (fromN (low31 b)) p4 <;> cases rtOk (qq b) <;> cases eqI (qr b).to zero4.to <;> cases (b.b31.fdiv (2 ^ 7) == 1) <;> simp
theorem qdecN {b : B32} (hb : BOk b) : IsN (qy b) (toF (VB (low31 b))) ∧ IsN (qq b) ((toF (VB (low31 b)) * toF (VB (low31 b)) - 1) * finv (dF * (toF (VB (low31 b)) * toF (VB (low31 b))) + 1)) := by
  obtain ⟨h1, h2⟩ := fromN_val (low31_val hb).1
  have hy : IsN (qy b) (toF (VB (low31 b))) := ⟨h1, by unfold qy; rw [h2]⟩
  have hyy := hy.times hy
  exact ⟨hy, (hyy.minus one4_n).times ((d4_n.times hyy).plus one4_n).inv⟩
theorem qcan_iff {b : B32} (hb : BOk b) : belowW (fromN (low31 b)) p4 = true ↔ VB (low31 b) < pP := by
  obtain ⟨h1, h2⟩ := fromN_val (low31_val hb).1
  rw [belowW_iff h1 p4_ok, h2, p4_val]
theorem qv_ne (y : Fp) : dF * (y * y) + 1 ≠ 0 := fun k => dd_ne y (by rw [← k]; generalize dF = d; grind)
section
variable {R : Type} [Lean.Grind.CommRing R]
theorem on3 (d x y i : R) (hi : (d * (y * y) + 1) * i = 1) (h : x * x = (y * y - 1) * i) : y * y - x * x = 1 + d * (x * x) * (y * y) := by
  have e : (d * (y * y) + 1) * (x * x) = y * y - 1 := by rw [h]; grind
  grind
theorem on4 (d x y i : R) (hi : (d * (y * y) + 1) * i = 1) (h : y * y - x * x = 1 + d * (x * x) * (y * y)) : x * x = (y * y - 1) * i := by
  have e : (d * (y * y) + 1) * (x * x) = y * y - 1 := by grind
  rw [← e]; grind
theorem on5 (d x y : R) (h : y * y - x * x = 1 + d * (x * x) * (y * y)) : y * y - (0 - x) * (0 - x) = 1 + d * ((0 - x) * (0 - x)) * (y * y) := by grind
theorem addneg (x : R) : x + (0 - x) = 0 := by grind
end
theorem sign_val {b : B32} (hb : BOk b) : b.b31.fdiv (2 ^ 7) = (if sign31 b then 1 else 0) := by
  have h := top_byte hb
  have hs := sign_iff hb
  rw [Int.fdiv_eq_ediv_of_nonneg _ (by decide), show (2 : Int) ^ 7 = 128 from by decide]
  cases hc : sign31 b with
  | true =>
    have := hs.1 hc
    simp only [if_true]
    omega
  | false =>
    have : ¬ 128 ≤ b.b31 := fun k => by rw [hs.2 k] at hc; cases hc
    simp only [Bool.false_eq_true, if_false]
    omega
theorem qdec_main {b : B32} (hb : BOk b) (h : qOk b = true) : ∃ p, OnC p ∧ VB b = encV p ∧ QRep (qP b) p := by
  obtain ⟨hY, hQ⟩ := qdecN hb
  obtain ⟨z, hz, hzv, hok, -⟩ := rootF hQ
  obtain ⟨h1, h2, h3⟩ := (qOk_iff b).1 h
  have hc := (qcan_iff hb).1 h1
  have hl := (low31_val hb)
  have hyv : ((toF (VB (low31 b))).val : Int) = VB (low31 b) := by rw [toF_val, Int.emod_eq_of_lt (VB_nonneg hl.1) hc]
  have hon := on3 dF z (toF (VB (low31 b))) _ (finv_mul (qv_ne _)) (hok.1 h2)
  have hpv : IntKind.u8.wrap ((qr b).l0.tmod 2) = ((z.val % 2 : Nat) : Int) := qpar_val hz hzv
  have hsv := sign_val hb
  have hz0 : eqI (qr b).to zero4.to = true ↔ z = 0 := eqZ hz hzv
  have h2' : z.val % 2 < 2 := Nat.mod_lt _ (by decide)
  have hzz : IsN (qr b) z := hz
  unfold qP
  rw [h]
  clear hQ hok
  generalize toF (VB (low31 b)) = y at *
  have hval : VB b = (y.val : Int) + 57896044618658097711785492504343953926634992332820282019728792003956564819968 * (if sign31 b then 1 else 0) := by
    have := hl.2
    cases hs : sign31 b with
    | true => rw [hs] at this; simp only [if_true] at this ⊢; omega
    | false => rw [hs] at this; simp only [Bool.false_eq_true, if_false] at this ⊢; omega
  unfold qx
  cases hp : qpar b with
  | true =>
    unfold qpar at hp
    rw [hpv, hsv, bne_iff_ne] at hp
    have hne : z ≠ 0 := fun k => by
      have hs := h3 (hz0.2 k)
      rw [hs, k] at hp
      exact hp (by simp)
    have := add_zero_val (addneg z) hne
    have hodd := pN_odd
    obtain ⟨hm, hmv⟩ := (zero4_n.minus hzz).least
    refine ⟨(0 - z, y), ?_, ?_, 1, one_ne, hm.eq (q1 _).symm, hY.eq (q1 _).symm, one4_n, (hm.times hY).eq (q2 _ _).symm⟩
    · exact on5 dF z y hon
    · unfold encV
      simp only
      rw [hval]
      cases hs : sign31 b with
      | true =>
        rw [hs] at hp
        simp only [if_true] at hp ⊢
        omega
      | false =>
        rw [hs] at hp
        simp only [Bool.false_eq_true, if_false] at hp ⊢
        omega
  | false =>
    unfold qpar at hp
    rw [hpv, hsv, bne_eq_false_iff_eq] at hp
    refine ⟨(z, y), hon, ?_, 1, one_ne, hzz.eq (q1 _).symm, hY.eq (q1 _).symm, one4_n, (hzz.times hY).eq (q2 _ _).symm⟩
    unfold encV
    simp only
    rw [hval, ← hp]
theorem qdec_of {b : B32} {p : Pt} (hb : BOk b) (hp : OnC p) (hv : VB b = encV p) : qOk b = true ∧ QRep (qP b) p := by
  have hok : qOk b = true := by
    obtain ⟨hY, hQ⟩ := qdecN hb
    obtain ⟨z, hz, hzv, hok, hex⟩ := rootF hQ
    have hl := (low31_val hb)
    have hsg := sign_iff hb
    have hlt := Fp_lt p.2
    have hpl := pP_lit
    obtain ⟨r, r1, r2, r3⟩ := VB_hi hb
    have htb := top_byte hb
    have h3 : p.1.val % 2 < 2 := Nat.mod_lt _ (by decide)
    have hy : VB (low31 b) = (p.2.val : Int) ∧ (sign31 b = true → p.1.val % 2 = 1) := by
      unfold encV at hv
      cases hs : sign31 b with
      | true =>
        have := hsg.1 hs
        rw [hs] at hl
        simp only [if_true] at hl
        exact ⟨by omega, fun _ => by omega⟩
      | false =>
        have : ¬ 128 ≤ b.b31 := fun k => by rw [hsg.2 k] at hs; cases hs
        rw [hs] at hl
        simp only [Bool.false_eq_true, if_false] at hl
        exact ⟨by omega, fun k => by cases k⟩
    have hyF : toF (VB (low31 b)) = p.2 := by rw [hy.1, toF_self]
    rw [hyF] at hok hex
    have hsq := on4 dF p.1 p.2 _ (finv_mul (qv_ne p.2)) hp
    have hrr := hex ⟨p.1, hsq⟩
    have hz0 : eqI (qr b).to zero4.to = true ↔ z = 0 := eqZ hz hzv
    refine (qOk_iff b).2 ⟨(qcan_iff hb).2 (by omega), hok.2 hrr, fun hi => ?_⟩
    cases hs : sign31 b with
    | false => rfl
    | true =>
      exfalso
      have hone := hy.2 hs
      rw [hz0.1 hi, ← hsq] at hrr
      have e2 : p.1 * p.1 = 0 := by rw [← hrr]; decide +kernel
      have : p.1 = 0 := by
        rcases F_mul_zero e2 with k | k <;> exact k
      rw [this] at hone
      revert hone
      decide
  refine ⟨hok, ?_⟩
  obtain ⟨q, q1, q2, q3⟩ := qdec_main hb hok
  have : q = p := encV_inj q1 hp (by rw [← q2, hv])
  rw [← this]
  exact q3
theorem QPt {P : P16} {p : Pt} (h : QRep P p) (ho : OnC p) : PtB (encQ P) p := ⟨(encQ_val h).1, ho, (encQ_val h).2⟩
theorem PtB.qdec {b : B32} {p : Pt} (h : PtB b p) : qOk b = true ∧ QRep (qP b) p := qdec_of h.ok h.on h.val
theorem all_base {n : B32} (hn : BOk n) : eqB (pbaseB n) (qbaseB n) = true :=
  (base_pt hn).eq (QPt (oftenQ_rep hn gen_pt.qdec.2 bC_on) (nC_on bC_on _))
theorem base_same {n : B32} (hn : BOk n) : pbaseB n = qbaseB n := (eqB_iff _ _).1 (all_base hn)
end Go.Proofs.YtbfndladaldajaaDoor
/- Package eddsa: Expand, beaconref05.Halves. -/
namespace Go.Proofs.YtbfndladaldajaaDoor
open Go Go.Eng
set_option linter.unusedVariables false
set_option maxRecDepth 100000
def scalB (d : B64) : B32 := ⟨bits .and .u8 d.b0 248, d.b1, d.b2, d.b3, d.b4, d.b5, d.b6, d.b7, d.b8, d.b9, d.b10, d.b11, d.b12, d.b13, d.b14, d.b15, d.b16, d.b17, d.b18, d.b19, d.b20, d.b21, d.b22, d.b23, d.b24, d.b25, d.b26, d.b27, d.b28, d.b29, d.b30, bits .or .u8 (bits .and .u8 d.b31 127) 64⟩
def preB (d : B64) : B32 := ⟨d.b32, d.b33, d.b34, d.b35, d.b36, d.b37, d.b38, d.b39, d.b40, d.b41, d.b42, d.b43, d.b44, d.b45, d.b46, d.b47, d.b48, d.b49, d.b50, d.b51, d.b52, d.b53, d.b54, d.b55, d.b56, d.b57, d.b58, d.b59, d.b60, d.b61, d.b62, d.b63⟩
end Go.Proofs.YtbfndladaldajaaDoor

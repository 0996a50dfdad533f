/- PointAll: its content: the document's points are the program's. -/
import Derived.Test.YtmfobbdgmedhdaaConO
namespace Go.Proofs.Ytmfobbdgmedhdaa
open Go Go.Eng
set_option linter.unusedVariables false

/-! ### Rows of words as numbers of the field -/
def IsN (n : N4) (x : Fp) : Prop := N4Ok n ∧ toF (N4V n) = x
theorem IsN.eq {n : N4} {x y : Fp} (h : IsN n x) (e : x = y) : IsN n y := e ▸ h
theorem IsN.plus {a b : N4} {x y : Fp} (ha : IsN a x) (hb : IsN b y) : IsN (plusN a b) (x + y) := by
  obtain ⟨h1, rfl⟩ := ha
  obtain ⟨h2, rfl⟩ := hb
  obtain ⟨h3, h4⟩ := plusN_val h1 h2
  exact ⟨h3, by rw [toF_eq.2 h4, toF_add]⟩
theorem IsN.minus {a b : N4} {x y : Fp} (ha : IsN a x) (hb : IsN b y) : IsN (minusN a b) (x - y) := by
  obtain ⟨h1, rfl⟩ := ha
  obtain ⟨h2, rfl⟩ := hb
  obtain ⟨h3, h4⟩ := minusN_val h1 h2
  exact ⟨h3, by rw [toF_eq.2 h4, toF_sub]⟩
theorem IsN.times {a b : N4} {x y : Fp} (ha : IsN a x) (hb : IsN b y) : IsN (timesN a b) (x * y) := by
  obtain ⟨h1, rfl⟩ := ha
  obtain ⟨h2, rfl⟩ := hb
  obtain ⟨h3, h4⟩ := timesN_val h1 h2
  exact ⟨h3, by rw [toF_eq.2 h4, toF_mul]⟩
theorem IsN.inv {a : N4} {x : Fp} (ha : IsN a x) : IsN (invN a) (finv x) := by
  obtain ⟨h1, h2⟩ := ha
  obtain ⟨h3, h4⟩ := invN_val h1
  refine ⟨h3, ?_⟩
  rw [toF_eq.2 h4]
  unfold finv
  generalize pN - 2 = k
  exact toF_pow_val x _ h2 k
theorem IsN.least {a : N4} {x : Fp} (ha : IsN a x) : IsN (leastN a) x ∧ N4V (leastN a) = (x.val : Int) := by
  obtain ⟨h1, rfl⟩ := ha
  obtain ⟨h3, h4, h5⟩ := leastN_val h1
  refine ⟨⟨h3, ?_⟩, ?_⟩
  · rw [toF_eq, h5, Int.emod_emod]
  · rw [h5, toF_val]
theorem zero4_n : IsN zero4 0 := ⟨zero4_ok, by rw [zero4_val]; exact toF_zero⟩
theorem one4_n : IsN one4 1 := ⟨one4_ok, by rw [one4_val]; exact toF_one⟩
theorem d4_n : IsN d4 dF := ⟨d4_ok, by decide +kernel⟩

/-! ### Points -/
def QRep (Q : P16) (p : Pt) : Prop := ∃ z : Fp, z ≠ 0 ∧ IsN Q.x (p.1 * z) ∧ IsN Q.y (p.2 * z) ∧ IsN Q.z z ∧ IsN Q.t (p.1 * p.2 * z)
theorem QRep.ok {Q : P16} {p : Pt} (h : QRep Q p) : QOk Q := by
  obtain ⟨z, hz, hx, hy, hzz, ht⟩ := h
  exact ⟨hx.1, hy.1, hzz.1, ht.1⟩
theorem QRep.neutral : QRep neutralQ oC := by
  refine ⟨1, one_ne, ?_, ?_, one4_n, ?_⟩
  · exact zero4_n.eq (by decide +kernel)
  · exact one4_n.eq (by decide +kernel)
  · exact zero4_n.eq (by decide +kernel)
section
variable {R : Type} [Lean.Grind.CommRing R]
theorem qc (a b c d z w e : R) : a * b * z * (c * d * w) * (e + e) = a * b * z * (e + e) * (c * d * w) := by grind
theorem qd (z w : R) : (z + z) * w = z * w + z * w := by grind
theorem qm1 (x z : R) : 0 - x * z = -x * z := by grind
theorem qm2 (x y z : R) : 0 - x * y * z = -x * y * z := by grind
theorem q1 (x : R) : x * 1 = x := by grind
theorem q2 (x y : R) : x * y * 1 = x * y := by grind
end
theorem QRep.sum {P Q : P16} {p q : Pt} (hp : QRep P p) (hq : QRep Q q) (op : OnC p) (oq : OnC q) : QRep (sumQ P Q) (addC p q) := by
  obtain ⟨z, hz, hx, hy, hzz, ht⟩ := hp
  obtain ⟨w, hw, kx, ky, kz, kt⟩ := hq
  have dp := den_pos op oq
  have dn := den_neg op oq
  have ip := finv_mul dp
  have jp := finv_mul dn
  have hA : IsN (sumA P Q) ((p.2 * z - p.1 * z) * (q.2 * w - q.1 * w)) := (hy.minus hx).times (ky.minus kx)
  have hB : IsN (sumB P Q) ((p.2 * z + p.1 * z) * (q.2 * w + q.1 * w)) := (hy.plus hx).times (ky.plus kx)
  have hC : IsN (sumC P Q) (p.1 * p.2 * z * (dF + dF) * (q.1 * q.2 * w)) := ((ht.times kt).times (d4_n.plus d4_n)).eq (qc _ _ _ _ _ _ _)
  have hD : IsN (sumD P Q) (z * w + z * w) := ((hzz.plus hzz).times kz).eq (qd _ _)
  obtain ⟨e1, e2, e3⟩ := pa1 dF p.1 p.2 q.1 q.2 z w (finv (1 + dF * p.1 * q.1 * p.2 * q.2)) (finv (1 - dF * p.1 * q.1 * p.2 * q.2)) ip jp _ _ _ _ rfl rfl rfl rfl
  have hn := pa2 dF p.1 p.2 q.1 q.2 z w _ _ rfl rfl
  refine ⟨_, ?_, ((hB.minus hA).times (hD.minus hC)).eq e1, ((hD.plus hC).times (hB.plus hA)).eq e2, (hD.minus hC).times (hD.plus hC), ((hB.minus hA).times (hB.plus hA)).eq e3⟩
  rw [hn]
  exact F_mul_ne (F_mul_ne (F_mul_ne (F_mul_ne two_ne hz) hw) dn) (F_mul_ne (F_mul_ne (F_mul_ne two_ne hz) hw) dp)
theorem QRep.neg {P : P16} {p : Pt} (hp : QRep P p) : QRep (negQ P) (negC p) := by
  obtain ⟨z, hz, hx, hy, hzz, ht⟩ := hp
  exact ⟨z, hz, (zero4_n.minus hx).eq (qm1 _ _), hy, hzz, (zero4_n.minus ht).eq (qm2 _ _ _)⟩
theorem oftQ_rep {n : B32} {P : P16} {p : Pt} (h : QRep P p) (hp : OnC p) : ∀ (k m : Nat) (O : P16), QRep O (nC p m) → QRep (oftQ n P k O) (nC p (m * 2 ^ k + bsum (bitB n) k))
  | 0, m, O, ho => by rw [oftQ, bsum, Nat.pow_zero, Nat.mul_one, Nat.add_zero]; exact ho
  | k + 1, m, O, ho => by
    rw [oftQ, bsum]
    have h2 := ho.sum ho (nC_on hp m) (nC_on hp m)
    rw [← nC_add hp] at h2
    cases hb : bitB n k with
    | true =>
      have h3 := h2.sum h (nC_on hp _) hp
      have h4 := oftQ_rep (n := n) h hp k (m + m + 1) _ h3
      have e : (m + m + 1) * 2 ^ k + bsum (bitB n) k = m * 2 ^ (k + 1) + (bsum (bitB n) k + 2 ^ k * true.toNat) := by
        rw [Nat.pow_succ, Bool.toNat_true]
        generalize 2 ^ k = t
        grind
      rw [← e]
      exact h4
    | false =>
      have h4 := oftQ_rep (n := n) h hp k (m + m) _ h2
      have e : (m + m) * 2 ^ k + bsum (bitB n) k = m * 2 ^ (k + 1) + (bsum (bitB n) k + 2 ^ k * false.toNat) := by
        rw [Nat.pow_succ, Bool.toNat_false]
        generalize 2 ^ k = t
        grind
      rw [← e]
      exact h4
theorem oftenQ_rep {n : B32} (hn : BOk n) {P : P16} {p : Pt} (h : QRep P p) (hp : OnC p) : QRep (oftenQ n P) (nC p (NV n)) := by
  have h1 := oftQ_rep (n := n) h hp 256 0 neutralQ (by rw [nC]; exact QRep.neutral)
  rw [Nat.zero_mul, Nat.zero_add, bits_NV hn] at h1
  exact h1

/-! ### Bytes -/
theorem or0 (x : Int) (h0 : 0 ≤ x) (h1 : x < 256) : bits .or .u8 x 0 = x := by
  have h : bits .or .u8 0 x = 0 + x := bits_join .u8 8 (by decide) wraps_u8 8 0 x (by decide) (by decide) (by decide) h0 h1 (by omega)
  have c : bits .or .u8 x 0 = bits .or .u8 0 x := by
    unfold bits
    simp only
    rw [BitVec.or_comm]
  rw [c, h, Int.zero_add]
theorem qpar_val {n : N4} {x : Fp} (h : IsN n x) (hv : N4V n = (x.val : Int)) : IntKind.u8.wrap (n.l0.tmod 2) = ((x.val % 2 : Nat) : Int) := by
  have h0 := h.1.1.1
  have hp := l0_par h.1
  rw [Int.tmod_eq_emod_of_nonneg h0, IntKind.wrap_u8, hp, hv]
  omega
theorem encQ_val {P : P16} {p : Pt} (h : QRep P p) : BOk (encQ P) ∧ VB (encQ P) = encV p := by
  obtain ⟨z, hz, hx, hy, hzz, ht⟩ := h
  have hi := finv_mul hz
  have ex : p.1 * z * finv z = p.1 := by generalize finv z = i at *; grind
  have ey : p.2 * z * finv z = p.2 := by generalize finv z = i at *; grind
  obtain ⟨kx, vx⟩ := ((hx.times hzz.inv).eq ex).least
  have ky := (hy.times hzz.inv).eq ey
  have vy := ky.least.2
  have hpx : IntKind.u8.wrap ((qX P).l0.tmod 2) = ((p.1.val % 2 : Nat) : Int) := qpar_val kx vx
  have b0 : BOk (qY P) := bytes4_ok _
  have b1 : VB (qY P) = (p.2.val : Int) := by
    unfold qY
    rw [bytes4_val _ ky.least.1.1, vy]
  obtain ⟨r, r1, r2, r3⟩ := VB_hi b0
  have hl := Fp_lt p.2
  have hpl := pP_lit
  have htb := top_byte b0
  have hlt : (qY P).b31 < 128 := by omega
  unfold encQ encV
  rw [hpx]
  have h3 : p.1.val % 2 < 2 := Nat.mod_lt _ (by decide)
  rcases (by omega : p.1.val % 2 = 0 ∨ p.1.val % 2 = 1) with h | h
  · rw [h]
    have e : IntKind.u8.wrap (((0 : Nat) : Int) * 2 ^ 7) = 0 := by decide
    rw [e, or0 _ htb.1 htb.2]
    refine ⟨set31_ok b0 htb, ?_⟩
    rw [set31_val, b1]
    omega
  · rw [h]
    have e : IntKind.u8.wrap (((1 : Nat) : Int) * 2 ^ 7) = 128 := by decide
    rw [e, or7 _ htb.1 hlt]
    refine ⟨set31_ok b0 ⟨by omega, by omega⟩, ?_⟩
    rw [set31_val, b1]
    omega

/-! ### Out of bytes -/
theorem eqZ {n : N4} {x : Fp} (h : IsN n x) (hv : N4V n = (x.val : Int)) : eqI n.to zero4.to = true ↔ x = 0 := by
  rw [eqI_iff _ _ (by rw [N4to_len, N4to_len])]
  constructor
  · intro e
    have e2 := N4to_inj e
    rw [e2, zero4_val] at hv
    exact Fin.ext (by show x.val = 0; omega)
  · intro e
    have e2 : n = zero4 := N4V_inj h.1 zero4_ok (by rw [hv, e, zero4_val]; rfl)
    rw [e2]
theorem rootF {a : N4} {x : Fp} (ha : IsN a x) : ∃ r : Fp, IsN (leastN (rt1 a)) r ∧ N4V (leastN (rt1 a)) = (r.val : Int) ∧ (rtOk a = true ↔ r * r = x) ∧ ((∃ s, s * s = x) → r * r = x) := by
  obtain ⟨h1, rfl⟩ := ha
  obtain ⟨h2, h3⟩ := rt1_val h1
  have h4 := rtOk_iff h1
  have hr : IsN (rt1 a) (toF (N4V (rt1 a))) := ⟨h2, rfl⟩
  obtain ⟨k1, k2⟩ := hr.least
  refine ⟨_, k1, k2, ?_, ?_⟩
  · rw [h4, ← toF_mul, toF_eq]
  · rintro ⟨s, hs⟩
    have := h3 ⟨(s.val : Int), by rw [← toF_eq, toF_mul, toF_self, hs]⟩
    rw [← toF_mul, toF_eq]
    exact this
theorem qOk_iff (b : B32) : qOk b = true ↔ belowW (fromN (low31 b)) p4 = true ∧ rtOk (qq b) = true ∧ (eqI (qr b).to zero4.to = true → sign31 b = false) := by
  unfold qOk sign31
  cases belowW (fromN (low31 b)) p4 <;> cases rtOk (qq b) <;> cases eqI (qr b).to zero4.to <;> cases (b.b31.fdiv (2 ^ 7) == 1) <;> simp
theorem qdecN {b : B32} (hb : BOk b) : IsN (qy b) (toF (VB (low31 b))) ∧ IsN (qq b) ((toF (VB (low31 b)) * toF (VB (low31 b)) - 1) * finv (dF * (toF (VB (low31 b)) * toF (VB (low31 b))) + 1)) := by
  obtain ⟨h1, h2⟩ := fromN_val (low31_val hb).1
  have hy : IsN (qy b) (toF (VB (low31 b))) := ⟨h1, by unfold qy; rw [h2]⟩
  have hyy := hy.times hy
  exact ⟨hy, (hyy.minus one4_n).times ((d4_n.times hyy).plus one4_n).inv⟩
theorem qcan_iff {b : B32} (hb : BOk b) : belowW (fromN (low31 b)) p4 = true ↔ VB (low31 b) < pP := by
  obtain ⟨h1, h2⟩ := fromN_val (low31_val hb).1
  rw [belowW_iff h1 p4_ok, h2, p4_val]
theorem qv_ne (y : Fp) : dF * (y * y) + 1 ≠ 0 := fun k => dd_ne y (by rw [← k]; generalize dF = d; grind)
section
variable {R : Type} [Lean.Grind.CommRing R]
theorem on3 (d x y i : R) (hi : (d * (y * y) + 1) * i = 1) (h : x * x = (y * y - 1) * i) : y * y - x * x = 1 + d * (x * x) * (y * y) := by
  have e : (d * (y * y) + 1) * (x * x) = y * y - 1 := by rw [h]; grind
  grind
theorem on4 (d x y i : R) (hi : (d * (y * y) + 1) * i = 1) (h : y * y - x * x = 1 + d * (x * x) * (y * y)) : x * x = (y * y - 1) * i := by
  have e : (d * (y * y) + 1) * (x * x) = y * y - 1 := by grind
  rw [← e]; grind
theorem on5 (d x y : R) (h : y * y - x * x = 1 + d * (x * x) * (y * y)) : y * y - (0 - x) * (0 - x) = 1 + d * ((0 - x) * (0 - x)) * (y * y) := by grind
theorem addneg (x : R) : x + (0 - x) = 0 := by grind
end
theorem sign_val {b : B32} (hb : BOk b) : b.b31.fdiv (2 ^ 7) = (if sign31 b then 1 else 0) := by
  have h := top_byte hb
  have hs := sign_iff hb
  rw [Int.fdiv_eq_ediv_of_nonneg _ (by decide), show (2 : Int) ^ 7 = 128 from by decide]
  cases hc : sign31 b with
  | true =>
    have := hs.1 hc
    simp only [if_true]
    omega
  | false =>
    have : ¬ 128 ≤ b.b31 := fun k => by rw [hs.2 k] at hc; cases hc
    simp only [Bool.false_eq_true, if_false]
    omega
theorem qdec_main {b : B32} (hb : BOk b) (h : qOk b = true) : ∃ p, OnC p ∧ VB b = encV p ∧ QRep (qP b) p := by
  obtain ⟨hY, hQ⟩ := qdecN hb
  obtain ⟨z, hz, hzv, hok, -⟩ := rootF hQ
  obtain ⟨h1, h2, h3⟩ := (qOk_iff b).1 h
  have hc := (qcan_iff hb).1 h1
  have hl := (low31_val hb)
  have hyv : ((toF (VB (low31 b))).val : Int) = VB (low31 b) := by rw [toF_val, Int.emod_eq_of_lt (VB_nonneg hl.1) hc]
  have hon := on3 dF z (toF (VB (low31 b))) _ (finv_mul (qv_ne _)) (hok.1 h2)
  have hpv : IntKind.u8.wrap ((qr b).l0.tmod 2) = ((z.val % 2 : Nat) : Int) := qpar_val hz hzv
  have hsv := sign_val hb
  have hz0 : eqI (qr b).to zero4.to = true ↔ z = 0 := eqZ hz hzv
  have h2' : z.val % 2 < 2 := Nat.mod_lt _ (by decide)
  have hzz : IsN (qr b) z := hz
  unfold qP
  rw [h]
  clear hQ hok
  generalize toF (VB (low31 b)) = y at *
  have hval : VB b = (y.val : Int) + 57896044618658097711785492504343953926634992332820282019728792003956564819968 * (if sign31 b then 1 else 0) := by
    have := hl.2
    cases hs : sign31 b with
    | true => rw [hs] at this; simp only [if_true] at this ⊢; omega
    | false => rw [hs] at this; simp only [Bool.false_eq_true, if_false] at this ⊢; omega
  unfold qx
  cases hp : qpar b with
  | true =>
    unfold qpar at hp
    rw [hpv, hsv, bne_iff_ne] at hp
    have hne : z ≠ 0 := fun k => by
      have hs := h3 (hz0.2 k)
      rw [hs, k] at hp
      exact hp (by simp)
    have := add_zero_val (addneg z) hne
    have hodd := pN_odd
    obtain ⟨hm, hmv⟩ := (zero4_n.minus hzz).least
    refine ⟨(0 - z, y), ?_, ?_, 1, one_ne, hm.eq (q1 _).symm, hY.eq (q1 _).symm, one4_n, (hm.times hY).eq (q2 _ _).symm⟩
    · exact on5 dF z y hon
    · unfold encV
      simp only
      rw [hval]
      cases hs : sign31 b with
      | true =>
        rw [hs] at hp
        simp only [if_true] at hp ⊢
        omega
      | false =>
        rw [hs] at hp
        simp only [Bool.false_eq_true, if_false] at hp ⊢
        omega
  | false =>
    unfold qpar at hp
    rw [hpv, hsv, bne_eq_false_iff_eq] at hp
    refine ⟨(z, y), hon, ?_, 1, one_ne, hzz.eq (q1 _).symm, hY.eq (q1 _).symm, one4_n, (hzz.times hY).eq (q2 _ _).symm⟩
    unfold encV
    simp only
    rw [hval, ← hp]
theorem qdec_of {b : B32} {p : Pt} (hb : BOk b) (hp : OnC p) (hv : VB b = encV p) : qOk b = true ∧ QRep (qP b) p := by
  have hok : qOk b = true := by
    obtain ⟨hY, hQ⟩ := qdecN hb
    obtain ⟨z, hz, hzv, hok, hex⟩ := rootF hQ
    have hl := (low31_val hb)
    have hsg := sign_iff hb
    have hlt := Fp_lt p.2
    have hpl := pP_lit
    obtain ⟨r, r1, r2, r3⟩ := VB_hi hb
    have htb := top_byte hb
    have h3 : p.1.val % 2 < 2 := Nat.mod_lt _ (by decide)
    have hy : VB (low31 b) = (p.2.val : Int) ∧ (sign31 b = true → p.1.val % 2 = 1) := by
      unfold encV at hv
      cases hs : sign31 b with
      | true =>
        have := hsg.1 hs
        rw [hs] at hl
        simp only [if_true] at hl
        exact ⟨by omega, fun _ => by omega⟩
      | false =>
        have : ¬ 128 ≤ b.b31 := fun k => by rw [hsg.2 k] at hs; cases hs
        rw [hs] at hl
        simp only [Bool.false_eq_true, if_false] at hl
        exact ⟨by omega, fun k => by cases k⟩
    have hyF : toF (VB (low31 b)) = p.2 := by rw [hy.1, toF_self]
    rw [hyF] at hok hex
    have hsq := on4 dF p.1 p.2 _ (finv_mul (qv_ne p.2)) hp
    have hrr := hex ⟨p.1, hsq⟩
    have hz0 : eqI (qr b).to zero4.to = true ↔ z = 0 := eqZ hz hzv
    refine (qOk_iff b).2 ⟨(qcan_iff hb).2 (by omega), hok.2 hrr, fun hi => ?_⟩
    cases hs : sign31 b with
    | false => rfl
    | true =>
      exfalso
      have hone := hy.2 hs
      rw [hz0.1 hi, ← hsq] at hrr
      have e2 : p.1 * p.1 = 0 := by rw [← hrr]; decide +kernel
      have : p.1 = 0 := by
        rcases F_mul_zero e2 with k | k <;> exact k
      rw [this] at hone
      revert hone
      decide
  refine ⟨hok, ?_⟩
  obtain ⟨q, q1, q2, q3⟩ := qdec_main hb hok
  have : q = p := encV_inj q1 hp (by rw [← q2, hv])
  rw [← this]
  exact q3
theorem qOk_eq {b : B32} (hb : BOk b) : qOk b = decOk b := by
  cases h : decOk b with
  | true =>
    obtain ⟨p, hP⟩ := pt_of hb h
    exact (qdec_of hb hP.on hP.val).1
  | false =>
    cases h' : qOk b with
    | false => rfl
    | true =>
      obtain ⟨p, h1, h2, h3⟩ := qdec_main hb h'
      rw [(dec_of hb h1 h2).1] at h
      cases h

/-! ### Each call -/
theorem QPt {P : P16} {p : Pt} (h : QRep P p) (ho : OnC p) : PtB (encQ P) p := ⟨(encQ_val h).1, ho, (encQ_val h).2⟩
theorem PtB.qdec {b : B32} {p : Pt} (h : PtB b p) : qOk b = true ∧ QRep (qP b) p := qdec_of h.ok h.on h.val
theorem qadd_pt {a b : B32} {p q : Pt} (ha : PtB a p) (hb : PtB b q) : PtB (qaddB a b) (addC p q) := by
  obtain ⟨h1, r1⟩ := ha.qdec
  obtain ⟨h2, r2⟩ := hb.qdec
  unfold qaddB
  rw [h1, h2]
  exact QPt (r1.sum r2 ha.on hb.on) (addC_on ha.on hb.on)
theorem qneg_pt {a : B32} {p : Pt} (ha : PtB a p) : PtB (qnegB a) (negC p) := by
  obtain ⟨h1, r1⟩ := ha.qdec
  unfold qnegB
  rw [h1]
  exact QPt r1.neg (negC_on ha.on)
theorem qmul_pt {n a : B32} {p : Pt} (hn : BOk n) (ha : PtB a p) : PtB (qmulB n a) (nC p (NV n)) := by
  obtain ⟨h1, r1⟩ := ha.qdec
  unfold qmulB
  rw [h1]
  exact QPt (oftenQ_rep hn r1 ha.on) (nC_on ha.on _)
theorem all_add {a b : B32} (ha : BOk a) (hb : BOk b) : eqB (paddB a b) (qaddB a b) = true := by
  cases h1 : decOk a with
  | false =>
    unfold paddB qaddB
    rw [qOk_eq ha, h1]
    exact (eqB_iff _ _).2 rfl
  | true => cases h2 : decOk b with
    | false =>
      unfold paddB qaddB
      rw [qOk_eq hb, h2, Bool.and_false, Bool.and_false]
      exact (eqB_iff _ _).2 rfl
    | true =>
      obtain ⟨p, hp⟩ := pt_of ha h1
      obtain ⟨q, hq⟩ := pt_of hb h2
      exact (add_pt hp hq).eq (qadd_pt hp hq)
theorem all_neg {a : B32} (ha : BOk a) : eqB (pnegB a) (qnegB a) = true := by
  cases h1 : decOk a with
  | false =>
    unfold pnegB qnegB
    rw [qOk_eq ha, h1]
    exact (eqB_iff _ _).2 rfl
  | true =>
    obtain ⟨p, hp⟩ := pt_of ha h1
    exact (neg_pt hp).eq (qneg_pt hp)
theorem all_mul {n a : B32} (hn : BOk n) (ha : BOk a) : eqB (pmulB n a) (qmulB n a) = true := by
  cases h1 : decOk a with
  | false =>
    unfold pmulB qmulB
    rw [qOk_eq ha, h1]
    exact (eqB_iff _ _).2 rfl
  | true =>
    obtain ⟨p, hp⟩ := pt_of ha h1
    exact (mul_pt hn hp).eq (qmul_pt hn hp)
theorem all_clear {a : B32} (ha : BOk a) : eqB (pclearB a) (qclearB a) = true := by
  cases h1 : decOk a with
  | false =>
    unfold pclearB qclearB qmulB
    rw [qOk_eq ha, h1]
    exact (eqB_iff _ _).2 rfl
  | true =>
    obtain ⟨p, hp⟩ := pt_of ha h1
    have h2 := qmul_pt b8_ok hp
    rw [b8_val] at h2
    exact (clear_pt hp).eq h2
theorem all_small {a : B32} (ha : BOk a) : psmallF a = qsmallF a := by
  cases h1 : decOk a with
  | false =>
    unfold psmallF qsmallF
    rw [qOk_eq ha, h1]
  | true =>
    obtain ⟨p, hp⟩ := pt_of ha h1
    have h2 := (eqB_iff _ _).1 (all_clear ha)
    rw [small_val hp]
    unfold qsmallF
    rw [qOk_eq ha, h1, h2]
theorem all_base {n : B32} (hn : BOk n) : eqB (pbaseB n) (qbaseB n) = true :=
  (base_pt hn).eq (QPt (oftenQ_rep hn gen_pt.qdec.2 bC_on) (nC_on bC_on _))
theorem bne_same (x : Int) : (x != x) = false := by simp
theorem pall_ok (p q n : B32) (hp : BOk p) (hq : BOk q) (hn : BOk n) : FnOk Try.prog 13 [cB32.enc p, cB32.enc q, cB32.enc n] (cBool.enc true) := by
  refine pall_walk p q n (paddB p q) (pnegB p) (pmulB n p) (pclearB p) (qaddB p q) (qnegB p) (qmulB n p) (qclearB p) (pbaseB n) (qbaseB n) genPt (psmallF p) (qsmallF p)
    (errOf (decOk p && decOk q)) (errOf (decOk p)) (errOf (decOk p)) (errOf (decOk p)) (errOf (decOk p)) (errOf (qOk p && qOk q)) (errOf (qOk p)) (errOf (qOk p)) (errOf (qOk p)) (errOf (qOk p)) (errOf (decOk p)) (errOf (qOk p))
    rfl rfl (nib_of hn) rfl rfl rfl hp hq rfl hp rfl hp rfl hp rfl hp rfl ?_ ?_ ?_ ?_ ?_ rfl hp rfl ?_ (all_add hp hq) (all_neg hp) (all_mul hn hp) (all_clear hp) ?_ (nib_of hn) rfl rfl (all_base hn) ?_ (by rw [gen_eq]) ?_
  · rw [qOk_eq hp, qOk_eq hq]; exact bne_same _
  · rw [qOk_eq hp]; exact bne_same _
  · rw [qOk_eq hp]; exact bne_same _
  · rw [qOk_eq hp]; exact bne_same _
  · rw [qOk_eq hp]; exact bne_same _
  · rw [qOk_eq hp]; exact bne_same _
  · rw [all_small hp]; simp
  · exact (eqB_iff _ _).2 rfl
  · exact (eqB_iff _ _).2 rfl
end Go.Proofs.Ytmfobbdgmedhdaa

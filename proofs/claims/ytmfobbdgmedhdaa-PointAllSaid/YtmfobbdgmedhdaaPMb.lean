/- A point's 32 bytes: one row for each point, and back. Plain arithmetic, no program. -/
import Derived.Test.YtmfobbdgmedhdaaPMa
namespace Go.Proofs.Ytmfobbdgmedhdaa
open Go Go.Eng
set_option linter.unusedVariables false

theorem VB_hi {b : B32} (h : BOk b) : ∃ r : Int, VB b = r + 452312848583266388373324160190187140051835877600158453279131187530910662656 * b.b31 ∧ 0 ≤ r ∧ r < 452312848583266388373324160190187140051835877600158453279131187530910662656 := by
  have hb : ∀ i, Byte (b.at i) := h
  have k0 : 0 ≤ b.b0 ∧ b.b0 < 256 := hb 0
  have k1 : 0 ≤ b.b1 ∧ b.b1 < 256 := hb 1
  have k2 : 0 ≤ b.b2 ∧ b.b2 < 256 := hb 2
  have k3 : 0 ≤ b.b3 ∧ b.b3 < 256 := hb 3
  have k4 : 0 ≤ b.b4 ∧ b.b4 < 256 := hb 4
  have k5 : 0 ≤ b.b5 ∧ b.b5 < 256 := hb 5
  have k6 : 0 ≤ b.b6 ∧ b.b6 < 256 := hb 6
  have k7 : 0 ≤ b.b7 ∧ b.b7 < 256 := hb 7
  have k8 : 0 ≤ b.b8 ∧ b.b8 < 256 := hb 8
  have k9 : 0 ≤ b.b9 ∧ b.b9 < 256 := hb 9
  have k10 : 0 ≤ b.b10 ∧ b.b10 < 256 := hb 10
  have k11 : 0 ≤ b.b11 ∧ b.b11 < 256 := hb 11
  have k12 : 0 ≤ b.b12 ∧ b.b12 < 256 := hb 12
  have k13 : 0 ≤ b.b13 ∧ b.b13 < 256 := hb 13
  have k14 : 0 ≤ b.b14 ∧ b.b14 < 256 := hb 14
  have k15 : 0 ≤ b.b15 ∧ b.b15 < 256 := hb 15
  have k16 : 0 ≤ b.b16 ∧ b.b16 < 256 := hb 16
  have k17 : 0 ≤ b.b17 ∧ b.b17 < 256 := hb 17
  have k18 : 0 ≤ b.b18 ∧ b.b18 < 256 := hb 18
  have k19 : 0 ≤ b.b19 ∧ b.b19 < 256 := hb 19
  have k20 : 0 ≤ b.b20 ∧ b.b20 < 256 := hb 20
  have k21 : 0 ≤ b.b21 ∧ b.b21 < 256 := hb 21
  have k22 : 0 ≤ b.b22 ∧ b.b22 < 256 := hb 22
  have k23 : 0 ≤ b.b23 ∧ b.b23 < 256 := hb 23
  have k24 : 0 ≤ b.b24 ∧ b.b24 < 256 := hb 24
  have k25 : 0 ≤ b.b25 ∧ b.b25 < 256 := hb 25
  have k26 : 0 ≤ b.b26 ∧ b.b26 < 256 := hb 26
  have k27 : 0 ≤ b.b27 ∧ b.b27 < 256 := hb 27
  have k28 : 0 ≤ b.b28 ∧ b.b28 < 256 := hb 28
  have k29 : 0 ≤ b.b29 ∧ b.b29 < 256 := hb 29
  have k30 : 0 ≤ b.b30 ∧ b.b30 < 256 := hb 30
  refine ⟨VB b - 452312848583266388373324160190187140051835877600158453279131187530910662656 * b.b31, by omega, ?_, ?_⟩ <;> unfold VB <;> omega
theorem set31_val (b : B32) (x : Int) : VB (set31 b x) = VB b + 452312848583266388373324160190187140051835877600158453279131187530910662656 * (x - b.b31) := by
  unfold VB set31
  simp only
  omega
theorem set31_ok {b : B32} {x : Int} (h : BOk b) (hx : Byte x) : BOk (set31 b x) := by
  intro i
  have h' := h i
  unfold B32.at set31 at *
  split <;> first | exact hx | exact h'
theorem top_byte {b : B32} (h : BOk b) : 0 ≤ b.b31 ∧ b.b31 < 256 := h 31
theorem wraps_u8 (n : Int) (h₀ : 0 ≤ n) (h₁ : n < 2 ^ 8) : IntKind.u8.wrap n = n := by rw [IntKind.wrap_u8]; omega
theorem and7 (x : Int) (h0 : 0 ≤ x) (h1 : x < 256) : bits .and .u8 x 127 = x % 128 :=
  bits_mask .u8 8 (by decide) wraps_u8 7 (by decide) x h0 h1
theorem or7 (x : Int) (h0 : 0 ≤ x) (h1 : x < 128) : bits .or .u8 x 128 = x + 128 := by
  have h : bits .or .u8 128 x = 128 + x := bits_join .u8 8 (by decide) wraps_u8 7 128 x (by decide) (by decide) (by decide) h0 h1 (by omega)
  have c : bits .or .u8 x 128 = bits .or .u8 128 x := by
    unfold bits
    simp only
    rw [BitVec.or_comm]
  rw [c, h, Int.add_comm]
theorem sign_iff {b : B32} (h : BOk b) : sign31 b = true ↔ 128 ≤ b.b31 := by
  have := top_byte h
  unfold sign31
  rw [Int.fdiv_eq_ediv_of_nonneg _ (by decide), beq_iff_eq]
  have e : (2 : Int) ^ 7 = 128 := by decide
  rw [e]
  omega
theorem low31_val {b : B32} (h : BOk b) : BOk (low31 b) ∧ VB (low31 b) = VB b - (if sign31 b then 57896044618658097711785492504343953926634992332820282019728792003956564819968 else 0) := by
  have ht := top_byte h
  have e := and7 _ ht.1 ht.2
  have hs := sign_iff h
  unfold low31
  rw [e]
  refine ⟨set31_ok h ⟨by omega, by omega⟩, ?_⟩
  rw [set31_val]
  cases hb : sign31 b with
  | true =>
    have := hs.1 hb
    simp only [if_true]
    omega
  | false =>
    have : ¬ 128 ≤ b.b31 := fun k => by rw [hs.2 k] at hb; cases hb
    simp only [Bool.false_eq_true, if_false]
    omega

def encV (p : Pt) : Int := (p.2.val : Int) + 57896044618658097711785492504343953926634992332820282019728792003956564819968 * ((p.1.val % 2 : Nat) : Int)
theorem Fp_lt (x : Fp) : (x.val : Int) < pP := by
  have := x.isLt
  rw [pP_eq]
  omega
theorem pP_lit : pP = 57896044618658097711785492504343953926634992332820282019728792003956564819949 := rfl
theorem enc_val {P : P20} {p : Pt} (h : Rep P p) : BOk (encP P) ∧ VB (encP P) = encV p := by
  obtain ⟨z, hz, hx, hy, hzz, ht⟩ := h
  have hi := finv_mul hz
  have ex : p.1 * z * finv z = p.1 := by generalize finv z = i at *; grind
  have ey : p.2 * z * finv z = p.2 := by generalize finv z = i at *; grind
  have kx := ((hx.times hzz.inv).eq ex).odd
  obtain ⟨b0, b1⟩ := ((hy.times hzz.inv).eq ey).bytes
  obtain ⟨r, r1, r2, r3⟩ := VB_hi b0
  have hl := Fp_lt p.2
  have hpl := pP_lit
  have ht := top_byte b0
  have hlt : (pyB P).b31 < 128 := by unfold pyB; omega
  have hge : 0 ≤ (pyB P).b31 := ht.1
  unfold encP encV
  cases hb : pxO P with
  | true =>
    have hp := kx.1 hb
    simp only
    rw [or7 _ hge hlt]
    refine ⟨set31_ok b0 ⟨by omega, by omega⟩, ?_⟩
    rw [set31_val, hp]
    unfold pyB
    rw [b1]
    omega
  | false =>
    have hp : p.1.val % 2 = 0 := by
      have : ¬ p.1.val % 2 = 1 := fun k => by
        have e := kx.2 k
        unfold pxO at hb
        rw [hb] at e
        cases e
      omega
    simp only
    refine ⟨b0, ?_⟩
    rw [hp]
    unfold pyB
    rw [b1]
    omega
theorem add_zero_val {x y : Fp} (h : x + y = 0) (hx : x ≠ 0) : x.val + y.val = pN := by
  have e : (x + y).val = 0 := by rw [h]; rfl
  rw [Fin.val_add] at e
  have h1 := x.isLt
  have h2 := y.isLt
  have h3 : x.val ≠ 0 := fun k => hx (Fin.ext k)
  rcases Nat.lt_or_ge (x.val + y.val) pN with h4 | h4
  · rw [Nat.mod_eq_of_lt h4] at e
    omega
  · rw [Nat.mod_eq_sub_mod h4, Nat.mod_eq_of_lt (by omega)] at e
    omega
theorem pN_odd : pN % 2 = 1 := by decide
theorem dd0 {R : Type} [Lean.Grind.CommRing R] (d : R) (h : 1 + d * (0 * 0) = 0) : (1 : R) = 0 := by grind
theorem dd_ne (y : Fp) : 1 + dF * (y * y) ≠ 0 := fun h => by
  have hj := jF_sq
  have e : dF * (y * y) = jF * jF := by
    rw [hj]
    generalize dF = d at *
    generalize jF = j at *
    grind
  have h0 := d_nonsq e
  rw [h0] at h
  exact one_ne (dd0 dF h)
theorem sq_eq {x y : Fp} (h : x * x = y * y) : x = y ∨ x + y = 0 := by
  have e : (x - y) * (x + y) = 0 := by grind
  rcases F_mul_zero e with h | h
  · left; grind
  · right; exact h
theorem encV_inj {p q : Pt} (hp : OnC p) (hq : OnC q) (h : encV p = encV q) : p = q := by
  obtain ⟨x, y⟩ := p
  obtain ⟨x', y'⟩ := q
  unfold encV at h
  simp only at h
  have h1 := Fp_lt y
  have h2 := Fp_lt y'
  have hl := pP_lit
  have h3 : x.val % 2 < 2 := Nat.mod_lt _ (by decide)
  have h4 : x'.val % 2 < 2 := Nat.mod_lt _ (by decide)
  have hpar : x.val % 2 = x'.val % 2 := by omega
  have hy : y = y' := Fin.ext (by omega)
  subst hy
  unfold OnC at hp hq
  simp only at hp hq
  have hz : (x * x - x' * x') * (1 + dF * (y * y)) = 0 := by generalize dF = d at *; grind
  have hs : x * x = x' * x' := by
    rcases F_mul_zero hz with k | k
    · grind
    · exact absurd k (dd_ne y)
  rcases sq_eq hs with k | k
  · rw [k]
  · by_cases h0 : x = 0
    · have : x' = 0 := by rw [h0] at k; grind
      rw [h0, this]
    · exfalso
      have := add_zero_val k h0
      have := pN_odd
      omega

theorem ratioF {u v : E5} {x y : Fp} (hu : IsF u x) (hv : IsF v y) : ∃ z : Fp, IsF (ratio2 u v) z ∧ z.val % 2 = 0 ∧ (ratioOk u v = true ↔ y * (z * z) = x) ∧ (y ≠ 0 → (∃ r, y * (r * r) = x) → ratioOk u v = true) := by
  obtain ⟨n, h1, rfl⟩ := hu
  obtain ⟨m, h2, rfl⟩ := hv
  obtain ⟨z, h3, h4, h5, h6⟩ := ratio_is h1 h2
  refine ⟨toF z, h3.f, ?_, ?_, ?_⟩
  · have := toF_val z; omega
  · rw [h5, ← toF_mul, ← toF_mul, toF_eq]
  · rintro hy ⟨r, hr⟩
    refine h6 (fun k => hy (by rw [← toF_zero, toF_eq]; exact k)) ⟨(r.val : Int), ?_⟩
    rw [← toF_eq, toF_mul, toF_mul, toF_self, hr]
theorem canL_iff {b : B32} (h : BOk b) : eqB (bytesF (ofF (low31 b))) (low31 b) = true ↔ VB (low31 b) < pP := canB_iff (low31_val h).1
theorem decOk_iff (b : B32) : decOk b = true ↔ eqB (bytesF (ofF (low31 b))) (low31 b) = true ∧ ratioOk (decU b) (decV b) = true ∧ (sign31 b = true → isF (decX b) zeroE = false) := by
  unfold decOk
  cases eqB (bytesF (ofF (low31 b))) (low31 b) <;> cases ratioOk (decU b) (decV b) <;> cases sign31 b <;> cases isF (decX b) zeroE <;> simp
theorem VB_nonneg {b : B32} (h : BOk b) : 0 ≤ VB b := by
  obtain ⟨r, r1, r2, r3⟩ := VB_hi h
  have := top_byte h
  omega
section
variable {R : Type} [Lean.Grind.CommRing R]
theorem on1 (d x y : R) (h : (y * y * d + 1) * (x * x) = y * y - 1) : y * y - x * x = 1 + d * (x * x) * (y * y) := by grind
theorem on2 (d x y : R) (h : y * y - x * x = 1 + d * (x * x) * (y * y)) : (y * y * d + 1) * (x * x) = y * y - 1 := by grind
end
theorem decYUV {b : B32} (hb : BOk b) : IsF (decY b) (toF (VB (low31 b))) ∧ IsF (decU b) (toF (VB (low31 b)) * toF (VB (low31 b)) - 1) ∧ IsF (decV b) (toF (VB (low31 b)) * toF (VB (low31 b)) * dF + 1) := by
  have hY : IsF (decY b) (toF (VB (low31 b))) := (Is.of (low31_val hb).1).f
  exact ⟨hY, (hY.times hY).minus oneE_f, ((hY.times hY).times curveE_f).plus oneE_f⟩
theorem dec_main {b : B32} (hb : BOk b) (h : decOk b = true) : ∃ p, OnC p ∧ VB b = encV p ∧ Rep (decP b) p := by
  obtain ⟨hY, hU, hV⟩ := decYUV hb
  obtain ⟨z, hz, hpar, hok, -⟩ := ratioF hU hV
  obtain ⟨h1, h2, h3⟩ := (decOk_iff b).1 h
  have hc := (canL_iff hb).1 h1
  have hl := (low31_val hb)
  have hyv : ((toF (VB (low31 b))).val : Int) = VB (low31 b) := by rw [toF_val, Int.emod_eq_of_lt (VB_nonneg hl.1) hc]
  have hsq := hok.1 h2
  have hon := on1 dF z (toF (VB (low31 b))) hsq
  unfold decP
  rw [h]
  generalize toF (VB (low31 b)) = y at *
  unfold decX'
  cases hs : sign31 b with
  | true =>
    rw [hs] at hl
    simp only [if_true] at hl
    have hne : z ≠ 0 := fun k => by
      have := (hz.is zeroE_f).2 k
      have h4 := h3 hs
      unfold decX at h4
      rw [this] at h4
      cases h4
    refine ⟨(0 - z, y), ?_, ?_, 1, one_ne, ?_, ?_, oneE_f, ?_⟩
    · unfold OnC
      simp only
      generalize dF = d at *
      grind
    · have hs0 : z + (0 - z) = 0 := by grind
      have := add_zero_val hs0 hne
      have := pN_odd
      unfold encV
      simp only
      rw [show (0 - z).val % 2 = 1 from by omega]
      omega
    · exact (zeroE_f.minus hz).eq (by grind)
    · exact hY.eq (by grind)
    · exact ((zeroE_f.minus hz).times hY).eq (by grind)
  | false =>
    rw [hs] at hl
    simp only [Bool.false_eq_true, if_false] at hl
    refine ⟨(z, y), hon, ?_, 1, one_ne, ?_, ?_, oneE_f, ?_⟩
    · unfold encV
      simp only
      rw [hpar]
      omega
    · exact hz.eq (by grind)
    · exact hY.eq (by grind)
    · exact (hz.times hY).eq (by grind)
theorem dec_of {b : B32} {p : Pt} (hb : BOk b) (hp : OnC p) (hv : VB b = encV p) : decOk b = true ∧ Rep (decP b) p := by
  have hok : decOk b = true := by
    obtain ⟨hY, hU, hV⟩ := decYUV hb
    obtain ⟨z, hz, hpar, hok, hex⟩ := ratioF hU hV
    have hl := (low31_val hb)
    have hsg := sign_iff hb
    have hlt := Fp_lt p.2
    have hpl := pP_lit
    obtain ⟨r, r1, r2, r3⟩ := VB_hi hb
    have htb := top_byte hb
    have h3 : p.1.val % 2 < 2 := Nat.mod_lt _ (by decide)
    have hy : VB (low31 b) = (p.2.val : Int) ∧ (sign31 b = true → p.1.val % 2 = 1) := by
      unfold encV at hv
      cases hs : sign31 b with
      | true =>
        have := hsg.1 hs
        rw [hs] at hl
        simp only [if_true] at hl
        exact ⟨by omega, fun _ => by omega⟩
      | false =>
        have : ¬ 128 ≤ b.b31 := fun k => by rw [hsg.2 k] at hs; cases hs
        rw [hs] at hl
        simp only [Bool.false_eq_true, if_false] at hl
        exact ⟨by omega, fun k => by cases k⟩
    have hyF : toF (VB (low31 b)) = p.2 := by rw [hy.1, toF_self]
    rw [hyF] at hok hex
    have hne : p.2 * p.2 * dF + 1 ≠ 0 := fun k => dd_ne p.2 (by rw [← k]; generalize dF = d; grind)
    have hsq := on2 dF p.1 p.2 hp
    have h2 := hex hne ⟨p.1, hsq⟩
    refine (decOk_iff b).2 ⟨(canL_iff hb).2 (by omega), h2, fun hs => ?_⟩
    have hone := hy.2 hs
    cases hi : isF (decX b) zeroE with
    | false => rfl
    | true =>
      exfalso
      have hz0 : z = 0 := (hz.is zeroE_f).1 hi
      have e1 := hok.1 h2
      rw [hz0, ← hsq] at e1
      have e2 : (p.2 * p.2 * dF + 1) * (p.1 * p.1) = 0 := by rw [← e1]; generalize dF = d; grind
      rcases F_mul_zero e2 with k | k
      · exact hne k
      · have : p.1 = 0 := by
          rcases F_mul_zero k with k | k <;> exact k
        rw [this] at hone
        revert hone
        decide
  refine ⟨hok, ?_⟩
  obtain ⟨q, q1, q2, q3⟩ := dec_main hb hok
  have : q = p := encV_inj q1 hp (by rw [← q2, hv])
  rw [← this]
  exact q3
end Go.Proofs.Ytmfobbdgmedhdaa

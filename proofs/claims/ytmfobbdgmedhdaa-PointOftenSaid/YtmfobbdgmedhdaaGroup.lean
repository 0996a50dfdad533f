/- The group of the curve's points: sums are complete, closed, associative. Plain arithmetic, no program. -/
import Derived.Test.YtmfobbdgmedhdaaCurve
namespace Go.Proofs.Ytmfobbdgmedhdaa
set_option linter.unusedVariables false

theorem F_ne {x y : Fp} (h : x * y ≠ 0) : x ≠ 0 ∧ y ≠ 0 := by
  constructor
  · rintro rfl; apply h; grind
  · rintro rfl; apply h; grind
theorem F_mul_ne {x y : Fp} (hx : x ≠ 0) (hy : y ≠ 0) : x * y ≠ 0 := fun h => by
  rcases F_mul_zero h with h | h
  · exact hx h
  · exact hy h
theorem one_ne : (1 : Fp) ≠ 0 := by decide
theorem two_ne : (2 : Fp) ≠ 0 := by decide
theorem neg_one_ne : (1 : Fp) ≠ -1 := by decide

/-- d is no square. -/
theorem d_nonsq {u v : Fp} (h : dF * (u * u) = v * v) : u = 0 := by
  apply Classical.byContradiction
  intro hu
  have hi := finv_mul hu
  have hw : (v * finv u) * (v * finv u) = dF := by
    have : v * v * (finv u * finv u) = dF * ((u * finv u) * (u * finv u)) := by rw [← h]; grind
    rw [hi] at this
    grind
  have hw' : toF (((v * finv u).val : Int) * ((v * finv u).val : Int)) = toF dI := by rw [toF_mul, toF_self]; exact hw
  rw [toF_eq] at hw'
  have hne : (v * finv u) ≠ 0 := fun e => by
    rw [e] at hw
    have : dF = 0 := by rw [← hw]; grind
    revert this
    decide
  have h1 := F_pow (x := ((v * finv u).val : Int)) (by rw [toF_self]; exact hne)
  have h2 := d_pow
  rw [emod_pow, ← hw', ← emod_pow, Int.mul_pow, ← Int.pow_add] at h2
  rw [show (pN - 1) / 2 + (pN - 1) / 2 = pN - 1 from by decide, h1] at h2
  revert h2
  decide

def jF : Fp := toF Jn
theorem jF_sq : jF * jF = -1 := by
  unfold jF
  rw [← toF_mul]
  have : toF (Jn * Jn) = toF (-1) := by rw [toF_eq]; exact Jn_sq
  rw [this]
  decide

/-- No denominator of a sum is 0. -/
theorem complete {x1 y1 x2 y2 e : Fp} (h1 : OnC (x1, y1)) (h2 : OnC (x2, y2)) (he : e = dF * x1 * x2 * y1 * y2) (hs : e * e = 1) : False := by
  unfold OnC at h1 h2
  simp only at h1 h2
  have hj := jF_sq
  have k1 : dF * ((x1 * y1 * (jF * x2 + y2)) * (x1 * y1 * (jF * x2 + y2))) = (jF * x1 + e * y1) * (jF * x1 + e * y1) := by
    generalize dF = d at *
    generalize jF = j at *
    grind
  have k2 : dF * ((x1 * y1 * (jF * x2 - y2)) * (x1 * y1 * (jF * x2 - y2))) = (jF * x1 - e * y1) * (jF * x1 - e * y1) := by
    generalize dF = d at *
    generalize jF = j at *
    grind
  have z1 := d_nonsq k1
  have z2 := d_nonsq k2
  have hne : e ≠ 0 := fun h => by rw [h] at hs; exact one_ne (by rw [← hs]; grind)
  have hxy : x1 * y1 ≠ 0 := fun h => hne (by rw [he]; generalize dF = d at *; grind)
  have hy : y2 = 0 := by
    rcases F_mul_zero z1 with h | h
    · exact absurd h hxy
    · rcases F_mul_zero z2 with h' | h'
      · exact absurd h' hxy
      · have : (2 : Fp) * y2 = 0 := by generalize jF = j at *; grind
        rcases F_mul_zero this with h'' | h''
        · exact absurd h'' two_ne
        · exact h''
  exact hne (by rw [he, hy]; generalize dF = d at *; grind)
theorem den_pos {p q : Fp × Fp} (hp : OnC p) (hq : OnC q) : 1 + dF * p.1 * q.1 * p.2 * q.2 ≠ 0 := fun h =>
  complete (e := dF * p.1 * q.1 * p.2 * q.2) hp hq rfl (by generalize dF * p.1 * q.1 * p.2 * q.2 = e at *; grind)
theorem den_neg {p q : Fp × Fp} (hp : OnC p) (hq : OnC q) : 1 - dF * p.1 * q.1 * p.2 * q.2 ≠ 0 := fun h =>
  complete (e := dF * p.1 * q.1 * p.2 * q.2) hp hq rfl (by generalize dF * p.1 * q.1 * p.2 * q.2 = e at *; grind)

def addC (p q : Fp × Fp) : Fp × Fp := ((p.1 * q.2 + p.2 * q.1) * finv (1 + dF * p.1 * q.1 * p.2 * q.2), (p.2 * q.2 + p.1 * q.1) * finv (1 - dF * p.1 * q.1 * p.2 * q.2))
def oC : Fp × Fp := (0, 1)
def negC (p : Fp × Fp) : Fp × Fp := (-p.1, p.2)

theorem addC_on {p q : Fp × Fp} (hp : OnC p) (hq : OnC q) : OnC (addC p q) := by
  have ha := finv_mul (den_pos hp hq)
  have hb := finv_mul (den_neg hp hq)
  unfold OnC at hp hq
  obtain ⟨x1, y1⟩ := p
  obtain ⟨x2, y2⟩ := q
  have hc := curve_closure dF x1 y1 x2 y2 hp hq
  unfold OnC addC
  simp only at *
  generalize finv (1 + dF * x1 * x2 * y1 * y2) = a at *
  generalize finv (1 - dF * x1 * x2 * y1 * y2) = b at *
  generalize (1 + dF * x1 * x2 * y1 * y2) = A at *
  generalize (1 - dF * x1 * x2 * y1 * y2) = B at *
  generalize (y1 * y2 + x1 * x2) = Y at *
  generalize (x1 * y2 + y1 * x2) = X at *
  generalize dF = d at *
  clear hp hq
  have e1 : Y * b * (Y * b) - X * a * (X * a) = (Y * Y * (A * A) - X * X * (B * B)) * (a * a * (b * b)) := by grind
  rw [e1, hc]
  grind
theorem addC_comm (p q : Fp × Fp) : addC p q = addC q p := by
  unfold addC
  have e1 : dF * p.1 * q.1 * p.2 * q.2 = dF * q.1 * p.1 * q.2 * p.2 := by generalize dF = d; grind
  have e2 : p.1 * q.2 + p.2 * q.1 = q.1 * p.2 + q.2 * p.1 := by grind
  have e3 : p.2 * q.2 + p.1 * q.1 = q.2 * p.2 + q.1 * p.1 := by grind
  rw [e1, e2, e3]
theorem frac_eq {n1 d1 n2 d2 : Fp} (h1 : d1 ≠ 0) (h2 : d2 ≠ 0) (h : n1 * d2 = n2 * d1) : n1 * finv d1 = n2 * finv d2 := by
  have a := finv_mul h1
  have b := finv_mul h2
  generalize finv d1 = i at *
  generalize finv d2 = j at *
  have : n1 * d2 * (i * j) = n2 * d1 * (i * j) := by rw [h]
  grind
section
variable {R : Type} [Lean.Grind.CommRing R]
theorem g1 {A B i j : R} (a : A * i = 1) (b : B * j = 1) (X Y x y : R) : (X * i * y + Y * j * x) * (A * B) = X * B * y + Y * A * x := by grind
theorem g2 {A B i j : R} (a : A * i = 1) (b : B * j = 1) (d X Y x y : R) : (1 + d * (X * i) * x * (Y * j) * y) * (A * B) = A * B + d * x * y * X * Y := by grind
theorem g3 {A B i j : R} (a : A * i = 1) (b : B * j = 1) (X Y x y : R) : (x * (Y * j) + y * (X * i)) * (A * B) = X * B * y + Y * A * x := by grind
theorem g4 {A B i j : R} (a : A * i = 1) (b : B * j = 1) (d X Y x y : R) : (1 + d * x * (X * i) * y * (Y * j)) * (A * B) = A * B + d * x * y * X * Y := by grind
theorem g5 {A B i j : R} (a : A * i = 1) (b : B * j = 1) (X Y x y : R) : (Y * j * y + X * i * x) * (A * B) = Y * A * y + X * B * x := by grind
theorem g6 {A B i j : R} (a : A * i = 1) (b : B * j = 1) (d X Y x y : R) : (1 - d * (X * i) * x * (Y * j) * y) * (A * B) = A * B - d * x * y * X * Y := by grind
theorem g7 {A B i j : R} (a : A * i = 1) (b : B * j = 1) (X Y x y : R) : (y * (Y * j) + x * (X * i)) * (A * B) = Y * A * y + X * B * x := by grind
theorem g8 {A B i j : R} (a : A * i = 1) (b : B * j = 1) (d X Y x y : R) : (1 - d * x * (X * i) * y * (Y * j)) * (A * B) = A * B - d * x * y * X * Y := by grind
theorem g9 {N1 D1 N2 D2 A B : R} (h : (N1 * A) * (D2 * B) = (N2 * B) * (D1 * A)) : N1 * D2 * (A * B) = N2 * D1 * (A * B) := by grind
end
theorem addC_assoc {p q r : Fp × Fp} (hp : OnC p) (hq : OnC q) (hr : OnC r) : addC (addC p q) r = addC p (addC q r) := by
  have hpq := addC_on hp hq
  have hqr := addC_on hq hr
  have n1 := den_pos hpq hr
  have n2 := den_neg hpq hr
  have n3 := den_pos hp hqr
  have n4 := den_neg hp hqr
  have a1 := finv_mul (den_pos hp hq)
  have a2 := finv_mul (den_neg hp hq)
  have a3 := finv_mul (den_pos hq hr)
  have a4 := finv_mul (den_neg hq hr)
  have z1 := den_pos hp hq
  have z2 := den_neg hp hq
  have z3 := den_pos hq hr
  have z4 := den_neg hq hr
  have hx := curve_assocX dF p.1 p.2 q.1 q.2 r.1 r.2 hp hq hr
  have hy := curve_assocY dF p.1 p.2 q.1 q.2 r.1 r.2 hp hq hr
  clear hpq hqr hp hq hr
  obtain ⟨x1, y1⟩ := p
  obtain ⟨x2, y2⟩ := q
  obtain ⟨x3, y3⟩ := r
  unfold addC at *
  simp only at *
  generalize finv (1 + dF * x1 * x2 * y1 * y2) = i1 at *
  generalize finv (1 - dF * x1 * x2 * y1 * y2) = i2 at *
  generalize finv (1 + dF * x2 * x3 * y2 * y3) = i3 at *
  generalize finv (1 - dF * x2 * x3 * y2 * y3) = i4 at *
  generalize (1 + dF * x1 * x2 * y1 * y2) = A1 at *
  generalize (1 - dF * x1 * x2 * y1 * y2) = A2 at *
  generalize (1 + dF * x2 * x3 * y2 * y3) = A3 at *
  generalize (1 - dF * x2 * x3 * y2 * y3) = A4 at *
  generalize (x1 * y2 + y1 * x2) = X12 at *
  generalize (y1 * y2 + x1 * x2) = Y12 at *
  generalize (x2 * y3 + y2 * x3) = X23 at *
  generalize (y2 * y3 + x2 * x3) = Y23 at *
  have hz : A1 * A2 * (A3 * A4) ≠ 0 := F_mul_ne (F_mul_ne z1 z2) (F_mul_ne z3 z4)
  generalize dF = d at *
  have e1 : (X12 * i1 * y3 + Y12 * i2 * x3) * (A1 * A2) = X12 * A2 * y3 + Y12 * A1 * x3 := g1 a1 a2 X12 Y12 x3 y3
  have e2 : (1 + d * (X12 * i1) * x3 * (Y12 * i2) * y3) * (A1 * A2) = A1 * A2 + d * x3 * y3 * X12 * Y12 := g2 a1 a2 d X12 Y12 x3 y3
  have e3 : (x1 * (Y23 * i4) + y1 * (X23 * i3)) * (A3 * A4) = X23 * A4 * y1 + Y23 * A3 * x1 := g3 a3 a4 X23 Y23 x1 y1
  have e4 : (1 + d * x1 * (X23 * i3) * y1 * (Y23 * i4)) * (A3 * A4) = A3 * A4 + d * x1 * y1 * X23 * Y23 := g4 a3 a4 d X23 Y23 x1 y1
  have e5 : (Y12 * i2 * y3 + X12 * i1 * x3) * (A1 * A2) = Y12 * A1 * y3 + X12 * A2 * x3 := g5 a1 a2 X12 Y12 x3 y3
  have e6 : (1 - d * (X12 * i1) * x3 * (Y12 * i2) * y3) * (A1 * A2) = A1 * A2 - d * x3 * y3 * X12 * Y12 := g6 a1 a2 d X12 Y12 x3 y3
  have e7 : (y1 * (Y23 * i4) + x1 * (X23 * i3)) * (A3 * A4) = Y23 * A3 * y1 + X23 * A4 * x1 := g7 a3 a4 X23 Y23 x1 y1
  have e8 : (1 - d * x1 * (X23 * i3) * y1 * (Y23 * i4)) * (A3 * A4) = A3 * A4 - d * x1 * y1 * X23 * Y23 := g8 a3 a4 d X23 Y23 x1 y1
  clear a1 a2 a3 a4 z1 z2 z3 z4
  congr 1
  · refine frac_eq n1 n3 (F_cancel hz (g9 ?_))
    rw [e1, e2, e3, e4]; exact hx
  · refine frac_eq n2 n4 (F_cancel hz (g9 ?_))
    rw [e5, e6, e7, e8]; exact hy
end Go.Proofs.Ytmfobbdgmedhdaa

/- The numbers modulo p as a field, and the group of the curve's points. Plain arithmetic, no program. -/
import Derived.Test.YtmfobbdgmedhdaaFRoots
namespace Go.Proofs.Ytmfobbdgmedhdaa
set_option linter.unusedVariables false

/-! ### The field -/
abbrev Fp := Fin pN
instance : NeZero pN := ⟨by decide⟩
def toF (n : Int) : Fp := ⟨(n % pP).toNat, by
  have h0 : 0 ≤ n % pP := Int.emod_nonneg _ (by decide)
  have h1 : n % pP < pP := Int.emod_lt_of_pos _ (by decide)
  have := pP_eq
  omega⟩
theorem toF_val (n : Int) : ((toF n).val : Int) = n % pP := Int.toNat_of_nonneg (Int.emod_nonneg _ (by decide))
theorem toF_eq {a b : Int} : toF a = toF b ↔ a % pP = b % pP := by
  constructor
  · intro h
    rw [← toF_val, ← toF_val, h]
  · intro h
    apply Fin.ext
    have : ((toF a).val : Int) = ((toF b).val : Int) := by rw [toF_val, toF_val, h]
    exact_mod_cast this
theorem toF_of {x : Fp} {n : Int} (h : (x.val : Int) = n % pP) : toF n = x := by
  apply Fin.ext
  have : ((toF n).val : Int) = (x.val : Int) := by rw [toF_val, h]
  exact_mod_cast this
theorem toF_add (a b : Int) : toF (a + b) = toF a + toF b := toF_of (by
  rw [Fin.val_add, Int.natCast_emod, Int.natCast_add, toF_val, toF_val, ← pP_eq, ← Int.add_emod])
theorem toF_mul (a b : Int) : toF (a * b) = toF a * toF b := toF_of (by
  rw [Fin.val_mul, Int.natCast_emod, Int.natCast_mul, toF_val, toF_val, ← pP_eq, ← Int.mul_emod])
theorem toF_sub (a b : Int) : toF (a - b) = toF a - toF b := by
  have h : toF (a - b) + toF b = toF a := by rw [← toF_add, Int.sub_add_cancel]
  rw [← h]
  generalize toF (a - b) = x
  generalize toF b = y
  grind
theorem toF_zero : toF 0 = 0 := by decide
theorem toF_one : toF 1 = 1 := by decide
theorem toF_self (x : Fp) : toF (x.val : Int) = x := toF_of (by
  have := x.isLt
  have e := pP_eq
  exact (Int.emod_eq_of_lt (by omega) (by omega)).symm)
theorem F_mul_zero {x y : Fp} (h : x * y = 0) : x = 0 ∨ y = 0 := by
  rw [← toF_self x, ← toF_self y, ← toF_mul, ← toF_zero, toF_eq] at h
  rcases mul_zero_p h with h | h
  · left; rw [← toF_self x, ← toF_zero, toF_eq]; exact h
  · right; rw [← toF_self y, ← toF_zero, toF_eq]; exact h
def finv (x : Fp) : Fp := toF ((x.val : Int) ^ (pN - 2))
theorem finv_mul {x : Fp} (h : x ≠ 0) : x * finv x = 1 := by
  have h1 : (x.val : Int) % pP ≠ 0 := fun e => h (by rw [← toF_self x, ← toF_zero, toF_eq]; exact e)
  have h2 := inv_mul h1
  unfold finv
  have e : toF (x.val : Int) * toF ((x.val : Int) ^ (pN - 2)) = 1 := by
    rw [← toF_mul, ← toF_one, toF_eq, h2]
    rfl
  rw [toF_self] at e
  exact e
theorem F_cancel {x y z : Fp} (hz : z ≠ 0) (h : x * z = y * z) : x = y := by
  have h1 := finv_mul hz
  have : x * z * finv z = y * z * finv z := by rw [h]
  grind

/-! ### The curve -/
section
variable {R : Type} [Lean.Grind.CommRing R]
theorem curve_closure (d x1 y1 x2 y2 : R) (h1 : y1 * y1 - x1 * x1 = 1 + d * (x1 * x1) * (y1 * y1)) (h2 : y2 * y2 - x2 * x2 = 1 + d * (x2 * x2) * (y2 * y2)) :
    (y1 * y2 + x1 * x2) * (y1 * y2 + x1 * x2) * ((1 + d * x1 * x2 * y1 * y2) * (1 + d * x1 * x2 * y1 * y2)) - (x1 * y2 + y1 * x2) * (x1 * y2 + y1 * x2) * ((1 - d * x1 * x2 * y1 * y2) * (1 - d * x1 * x2 * y1 * y2)) =
    (1 + d * x1 * x2 * y1 * y2) * (1 + d * x1 * x2 * y1 * y2) * ((1 - d * x1 * x2 * y1 * y2) * (1 - d * x1 * x2 * y1 * y2)) + d * ((x1 * y2 + y1 * x2) * (x1 * y2 + y1 * x2)) * ((y1 * y2 + x1 * x2) * (y1 * y2 + x1 * x2)) := by
  grind
set_option maxHeartbeats 4000000 in
theorem curve_assocX (d x1 y1 x2 y2 x3 y3 : R) (h1 : y1 * y1 - x1 * x1 = 1 + d * (x1 * x1) * (y1 * y1)) (h2 : y2 * y2 - x2 * x2 = 1 + d * (x2 * x2) * (y2 * y2)) (h3 : y3 * y3 - x3 * x3 = 1 + d * (x3 * x3) * (y3 * y3)) :
    ((x1 * y2 + y1 * x2) * (1 - d * x1 * x2 * y1 * y2) * y3 + (y1 * y2 + x1 * x2) * (1 + d * x1 * x2 * y1 * y2) * x3) * ((1 + d * x2 * x3 * y2 * y3) * (1 - d * x2 * x3 * y2 * y3) + d * x1 * y1 * (x2 * y3 + y2 * x3) * (y2 * y3 + x2 * x3)) =
    ((x2 * y3 + y2 * x3) * (1 - d * x2 * x3 * y2 * y3) * y1 + (y2 * y3 + x2 * x3) * (1 + d * x2 * x3 * y2 * y3) * x1) * ((1 + d * x1 * x2 * y1 * y2) * (1 - d * x1 * x2 * y1 * y2) + d * x3 * y3 * (x1 * y2 + y1 * x2) * (y1 * y2 + x1 * x2)) := by
  grind
set_option maxHeartbeats 4000000 in
theorem curve_assocY (d x1 y1 x2 y2 x3 y3 : R) (h1 : y1 * y1 - x1 * x1 = 1 + d * (x1 * x1) * (y1 * y1)) (h2 : y2 * y2 - x2 * x2 = 1 + d * (x2 * x2) * (y2 * y2)) (h3 : y3 * y3 - x3 * x3 = 1 + d * (x3 * x3) * (y3 * y3)) :
    ((y1 * y2 + x1 * x2) * (1 + d * x1 * x2 * y1 * y2) * y3 + (x1 * y2 + y1 * x2) * (1 - d * x1 * x2 * y1 * y2) * x3) * ((1 + d * x2 * x3 * y2 * y3) * (1 - d * x2 * x3 * y2 * y3) - d * x1 * y1 * (x2 * y3 + y2 * x3) * (y2 * y3 + x2 * x3)) =
    ((y2 * y3 + x2 * x3) * (1 + d * x2 * x3 * y2 * y3) * y1 + (x2 * y3 + y2 * x3) * (1 - d * x2 * x3 * y2 * y3) * x1) * ((1 + d * x1 * x2 * y1 * y2) * (1 - d * x1 * x2 * y1 * y2) - d * x3 * y3 * (x1 * y2 + y1 * x2) * (y1 * y2 + x1 * x2)) := by
  grind
end

/-! ### The group -/
def dF : Fp := toF 37095705934669439343138083508754565189542113879843219016388785533085940283555
/-- A point of the curve, by its two numbers. -/
def OnC (p : Fp × Fp) : Prop := p.2 * p.2 - p.1 * p.1 = 1 + dF * (p.1 * p.1) * (p.2 * p.2)
theorem F_pow {x : Int} (hx : toF x ≠ 0) : x ^ (pN - 1) % pP = 1 := fermatP fun e => hx (by rw [← toF_zero, toF_eq]; exact e)
def dI : Int := 37095705934669439343138083508754565189542113879843219016388785533085940283555
/-- d is no square: its power (p - 1) / 2 is -1. -/
theorem d_pow : dI ^ ((pN - 1) / 2) % pP = (-1) % pP := by
  rw [pow_nat]
  have h : (dI % pP).toNat = 37095705934669439343138083508754565189542113879843219016388785533085940283555 := by decide
  rw [h, ← powm_eq pN 255 _ _ (by decide)]
  have : powm pN 255 37095705934669439343138083508754565189542113879843219016388785533085940283555 ((pN - 1) / 2) = pN - 1 := by kernel_rfl
  rw [this]
  decide
end Go.Proofs.Ytmfobbdgmedhdaa

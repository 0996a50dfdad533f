/- Multiples of the curve's points, and what the program's points stand for. Plain arithmetic, no program. -/
import Derived.Test.YtmfobbdgmedhdaaGroup
import Derived.Test.YtmfobbdgmedhdaaPointT
import Derived.Test.YtmfobbdgmedhdaaFAll
namespace Go.Proofs.Ytmfobbdgmedhdaa
open Go Go.Eng
set_option linter.unusedVariables false

/-! ### The group -/
abbrev Pt := Fp × Fp
theorem oC_on : OnC oC := by
  unfold OnC oC
  generalize dF = d
  grind
theorem negC_on {p : Pt} (h : OnC p) : OnC (negC p) := by
  unfold OnC negC at *
  simp only
  generalize dF = d at *
  grind
theorem finv_one : finv 1 = 1 := by
  have h := finv_mul one_ne
  generalize finv 1 = x at *
  grind
section
variable {R : Type} [Lean.Grind.CommRing R]
theorem oz1 (d x y : R) : 1 + d * x * 0 * y * 1 = 1 := by grind
theorem oz2 (d x y : R) : 1 - d * x * 0 * y * 1 = 1 := by grind
theorem oz3 (x y : R) : (x * 1 + y * 0) * 1 = x := by grind
end
theorem addC_oC (p : Pt) : addC p oC = p := by
  obtain ⟨x, y⟩ := p
  unfold addC oC
  simp only
  rw [oz1 dF x y, oz2 dF x y, finv_one, oz3, oz3]
theorem oC_addC (p : Pt) : addC oC p = p := by rw [addC_comm, addC_oC]
theorem addC_neg {p : Pt} (h : OnC p) : addC p (negC p) = oC := by
  have hd := finv_mul (den_pos h h)
  obtain ⟨x, y⟩ := p
  unfold addC negC oC
  unfold OnC at h
  simp only at *
  have e : (1 : Fp) - dF * x * -x * y * y = 1 + dF * x * x * y * y := by generalize dF = d; grind
  rw [e]
  generalize finv (1 + dF * x * x * y * y) = i at *
  have e2 : y * y + x * -x = 1 + dF * x * x * y * y := by generalize dF = d at *; grind
  rw [e2, hd]
  congr 1
  generalize finv (1 + dF * x * -x * y * y) = k
  grind
theorem add_left {p q r : Pt} (hp : OnC p) (hq : OnC q) (hr : OnC r) (h : addC p q = addC p r) : q = r := by
  have e : addC (negC p) (addC p q) = addC (negC p) (addC p r) := by rw [h]
  rw [← addC_assoc (negC_on hp) hp hq, ← addC_assoc (negC_on hp) hp hr, addC_comm (negC p) p, addC_neg hp, oC_addC, oC_addC] at e
  exact e
/-- A point taken so many times. -/
noncomputable def nC (p : Pt) : Nat → Pt
  | 0 => oC
  | n + 1 => addC (nC p n) p
theorem nC_on {p : Pt} (hp : OnC p) : ∀ n, OnC (nC p n)
  | 0 => oC_on
  | n + 1 => addC_on (nC_on hp n) hp
theorem nC_add {p : Pt} (hp : OnC p) (a : Nat) : ∀ b, nC p (a + b) = addC (nC p a) (nC p b)
  | 0 => by rw [Nat.add_zero, nC, addC_oC]
  | b + 1 => by
    rw [← Nat.add_assoc]
    show addC (nC p (a + b)) p = addC (nC p a) (addC (nC p b) p)
    rw [nC_add hp a b, addC_assoc (nC_on hp a) (nC_on hp b) hp]
theorem nC_mul {p : Pt} (hp : OnC p) (a : Nat) : ∀ b, nC p (a * b) = nC (nC p a) b
  | 0 => by rw [Nat.mul_zero, nC, nC]
  | b + 1 => by
    rw [Nat.mul_succ, nC_add hp, nC_mul hp a b]
    rfl
theorem nC_oC : ∀ n, nC oC n = oC
  | 0 => rfl
  | n + 1 => by rw [nC, nC_oC n, addC_oC]
theorem nC_one (p : Pt) : nC p 1 = p := by rw [nC, nC, oC_addC]
theorem nC_two {p : Pt} (hp : OnC p) : nC p 2 = addC p p := by rw [nC, nC_one]
theorem nC_mod {p : Pt} (hp : OnC p) {l : Nat} (hl : nC p l = oC) (n : Nat) : nC p (n % l) = nC p n := by
  have h : n = l * (n / l) + n % l := (Nat.div_add_mod n l).symm
  have e : nC p n = nC p (l * (n / l) + n % l) := congrArg (nC p) h
  rw [e, nC_add hp, nC_mul hp, hl, nC_oC, oC_addC]

/-! ### Rows of limbs as numbers of the field -/
def IsF (e : E5) (x : Fp) : Prop := ∃ n, Is e n ∧ toF n = x
theorem Is.f {e : E5} {n : Int} (h : Is e n) : IsF e (toF n) := ⟨n, h, rfl⟩
theorem IsF.eq {e : E5} {x y : Fp} (h : IsF e x) (hy : x = y) : IsF e y := hy ▸ h
theorem IsF.plus {e f : E5} {x y : Fp} (he : IsF e x) (hf : IsF f y) : IsF (plusF e f) (x + y) := by
  obtain ⟨n, h, rfl⟩ := he
  obtain ⟨m, k, rfl⟩ := hf
  exact ⟨n + m, h.plus k, toF_add n m⟩
theorem IsF.minus {e f : E5} {x y : Fp} (he : IsF e x) (hf : IsF f y) : IsF (minusF e f) (x - y) := by
  obtain ⟨n, h, rfl⟩ := he
  obtain ⟨m, k, rfl⟩ := hf
  exact ⟨n - m, h.minus k, toF_sub n m⟩
theorem IsF.times {e f : E5} {x y : Fp} (he : IsF e x) (hf : IsF f y) : IsF (timesF e f) (x * y) := by
  obtain ⟨n, h, rfl⟩ := he
  obtain ⟨m, k, rfl⟩ := hf
  exact ⟨n * m, h.times k, toF_mul n m⟩
theorem zeroE_f : IsF zeroE 0 := ⟨0, zeroE_is, toF_zero⟩
theorem oneE_f : IsF oneE 1 := ⟨1, oneE_is, toF_one⟩
theorem toF_pow_val (x : Fp) (n : Int) (h : toF n = x) (k : Nat) : toF (n ^ k) = toF ((x.val : Int) ^ k) := by
  rw [toF_eq, emod_pow n, emod_pow (x.val : Int)]
  have e : n % pP = (x.val : Int) % pP := by rw [← toF_eq, toF_self, h]
  rw [e]
theorem IsF.inv {e : E5} {x : Fp} (he : IsF e x) : IsF (invF e) (finv x) := by
  obtain ⟨n, h, hx⟩ := he
  refine ⟨n ^ (pN - 2), inv_is h, ?_⟩
  unfold finv
  generalize pN - 2 = k
  exact toF_pow_val x n hx k
theorem IsF.bytes {e : E5} {x : Fp} (he : IsF e x) : BOk (bytesF e) ∧ VB (bytesF e) = (x.val : Int) := by
  obtain ⟨n, h, rfl⟩ := he
  refine ⟨h.bytes.1, ?_⟩
  rw [h.bytes.2, toF_val]
theorem IsF.odd {e : E5} {x : Fp} (he : IsF e x) : oddF e = true ↔ x.val % 2 = 1 := by
  obtain ⟨n, h, rfl⟩ := he
  rw [oddF_iff h, ← toF_val]
  omega
theorem IsF.is {e f : E5} {x y : Fp} (he : IsF e x) (hf : IsF f y) : isF e f = true ↔ x = y := by
  obtain ⟨n, h, rfl⟩ := he
  obtain ⟨m, k, rfl⟩ := hf
  rw [isF_iff h k, toF_eq]
theorem IsF.lit {e : E5} (h : Lim e) {x : Fp} (hx : toF (V e) = x) : IsF e x := ⟨V e, Is.lit e h, hx⟩

/-! ### What four rows of limbs stand for -/
def Rep (P : P20) (p : Pt) : Prop := ∃ z : Fp, z ≠ 0 ∧ IsF P.x (p.1 * z) ∧ IsF P.y (p.2 * z) ∧ IsF P.z z ∧ IsF P.t (p.1 * p.2 * z)
theorem twiceE_f : IsF twiceE (dF + dF) := IsF.lit (by unfold Lim; decide) (by decide +kernel)
theorem curveE_f : IsF curveE dF := IsF.lit (by unfold Lim; decide) (by decide +kernel)
theorem Rep.origin : Rep originP oC := by
  refine ⟨1, one_ne, ?_, ?_, oneE_f, ?_⟩
  · exact zeroE_f.eq (by decide +kernel)
  · exact oneE_f.eq (by decide +kernel)
  · exact zeroE_f.eq (by decide +kernel)
section
variable {R : Type} [Lean.Grind.CommRing R]
theorem pa1 (d x1 y1 x2 y2 z w i j : R) (hi : (1 + d * x1 * x2 * y1 * y2) * i = 1) (hj : (1 - d * x1 * x2 * y1 * y2) * j = 1) (e f g h : R)
    (he : e = (y1 * z + x1 * z) * (y2 * w + x2 * w) - (y1 * z - x1 * z) * (y2 * w - x2 * w)) (hf : f = (z * w + z * w) - x1 * y1 * z * (d + d) * (x2 * y2 * w)) (hg : g = (z * w + z * w) + x1 * y1 * z * (d + d) * (x2 * y2 * w))
    (hh : h = (y1 * z + x1 * z) * (y2 * w + x2 * w) + (y1 * z - x1 * z) * (y2 * w - x2 * w)) :
    e * f = (x1 * y2 + y1 * x2) * i * (f * g) ∧ g * h = (y1 * y2 + x1 * x2) * j * (f * g) ∧ e * h = (x1 * y2 + y1 * x2) * i * ((y1 * y2 + x1 * x2) * j) * (f * g) := by
  have e1 : e = 2 * z * w * (x1 * y2 + y1 * x2) := by grind
  have h1 : h = 2 * z * w * (y1 * y2 + x1 * x2) := by grind
  have f1 : f = 2 * z * w * (1 - d * x1 * x2 * y1 * y2) := by grind
  have g1 : g = 2 * z * w * (1 + d * x1 * x2 * y1 * y2) := by grind
  clear he hf hg hh
  generalize (1 - d * x1 * x2 * y1 * y2) = D at *
  generalize (1 + d * x1 * x2 * y1 * y2) = E at *
  generalize (x1 * y2 + y1 * x2) = X at *
  generalize (y1 * y2 + x1 * x2) = Y at *
  refine ⟨?_, ?_, ?_⟩ <;> grind
theorem pa2 (d x1 y1 x2 y2 z w f g : R) (hf : f = (z * w + z * w) - x1 * y1 * z * (d + d) * (x2 * y2 * w)) (hg : g = (z * w + z * w) + x1 * y1 * z * (d + d) * (x2 * y2 * w)) :
    f * g = 2 * z * w * (1 - d * x1 * x2 * y1 * y2) * (2 * z * w * (1 + d * x1 * x2 * y1 * y2)) := by grind
theorem pd1 (d x y z i j : R) (hc : y * y - x * x = 1 + d * (x * x) * (y * y)) (hi : (1 + d * x * x * y * y) * i = 1) (hj : (1 - d * x * x * y * y) * j = 1) (e f g h : R)
    (he : e = (x * z * (x * z) + y * z * (y * z)) - (x * z + y * z) * (x * z + y * z)) (hg : g = x * z * (x * z) - y * z * (y * z)) (hf : f = (z * z + z * z) + (x * z * (x * z) - y * z * (y * z)))
    (hh : h = x * z * (x * z) + y * z * (y * z)) :
    e * f = (x * y + y * x) * i * (f * g) ∧ g * h = (y * y + x * x) * j * (f * g) ∧ e * h = (x * y + y * x) * i * ((y * y + x * x) * j) * (f * g) ∧ f * g = z * z * (1 - d * x * x * y * y) * (-1 * (z * z * (1 + d * x * x * y * y))) := by
  have e1 : e = -1 * (z * z) * (x * y + y * x) := by grind
  have h1 : h = z * z * (y * y + x * x) := by grind
  have f1 : f = z * z * (1 - d * x * x * y * y) := by grind
  have g1 : g = -1 * (z * z * (1 + d * x * x * y * y)) := by grind
  clear he hf hg hh hc
  generalize (1 - d * x * x * y * y) = D at *
  generalize (1 + d * x * x * y * y) = E at *
  generalize (x * y + y * x) = X at *
  generalize (y * y + x * x) = Y at *
  refine ⟨?_, ?_, ?_, ?_⟩ <;> grind
end
theorem Rep.plus {P Q : P20} {p q : Pt} (hp : Rep P p) (hq : Rep Q q) (op : OnC p) (oq : OnC q) : Rep (plusP P Q) (addC p q) := by
  obtain ⟨z, hz, hx, hy, hzz, ht⟩ := hp
  obtain ⟨w, hw, kx, ky, kz, kt⟩ := hq
  have dp := den_pos op oq
  have dn := den_neg op oq
  have ip := finv_mul dp
  have jp := finv_mul dn
  have hA : IsF (plusA P Q) ((p.2 * z - p.1 * z) * (q.2 * w - q.1 * w)) := (hy.minus hx).times (ky.minus kx)
  have hB : IsF (plusB P Q) ((p.2 * z + p.1 * z) * (q.2 * w + q.1 * w)) := (hy.plus hx).times (ky.plus kx)
  have hC : IsF (plusC P Q) (p.1 * p.2 * z * (dF + dF) * (q.1 * q.2 * w)) := (ht.times twiceE_f).times kt
  have hD : IsF (plusD P Q) (z * w + z * w) := (hzz.times kz).plus (hzz.times kz)
  obtain ⟨e1, e2, e3⟩ := pa1 dF p.1 p.2 q.1 q.2 z w (finv (1 + dF * p.1 * q.1 * p.2 * q.2)) (finv (1 - dF * p.1 * q.1 * p.2 * q.2)) ip jp _ _ _ _ rfl rfl rfl rfl
  have hn := pa2 dF p.1 p.2 q.1 q.2 z w _ _ rfl rfl
  refine ⟨_, ?_, ((hB.minus hA).times (hD.minus hC)).eq e1, ((hD.plus hC).times (hB.plus hA)).eq e2, (hD.minus hC).times (hD.plus hC), ((hB.minus hA).times (hB.plus hA)).eq e3⟩
  rw [hn]
  exact F_mul_ne (F_mul_ne (F_mul_ne (F_mul_ne two_ne hz) hw) dn) (F_mul_ne (F_mul_ne (F_mul_ne two_ne hz) hw) dp)
theorem Rep.dbl {P : P20} {p : Pt} (hp : Rep P p) (op : OnC p) : Rep (dblP P) (addC p p) := by
  obtain ⟨z, hz, hx, hy, hzz, ht⟩ := hp
  have dp := den_pos op op
  have dn := den_neg op op
  have ip := finv_mul dp
  have jp := finv_mul dn
  have hA : IsF (dblA P) (p.1 * z * (p.1 * z)) := hx.times hx
  have hB : IsF (dblB P) (p.2 * z * (p.2 * z)) := hy.times hy
  have hC : IsF (dblC P) (z * z + z * z) := (hzz.times hzz).plus (hzz.times hzz)
  have hS : IsF (dblS P) (p.1 * z + p.2 * z) := hx.plus hy
  have hH : IsF (dblH P) (p.1 * z * (p.1 * z) + p.2 * z * (p.2 * z)) := hA.plus hB
  have hE : IsF (dblE P) ((p.1 * z * (p.1 * z) + p.2 * z * (p.2 * z)) - (p.1 * z + p.2 * z) * (p.1 * z + p.2 * z)) := hH.minus (hS.times hS)
  have hG : IsF (dblG P) (p.1 * z * (p.1 * z) - p.2 * z * (p.2 * z)) := hA.minus hB
  have hF : IsF (dblF P) ((z * z + z * z) + (p.1 * z * (p.1 * z) - p.2 * z * (p.2 * z))) := hC.plus hG
  obtain ⟨e1, e2, e3, hn⟩ := pd1 dF p.1 p.2 z (finv (1 + dF * p.1 * p.1 * p.2 * p.2)) (finv (1 - dF * p.1 * p.1 * p.2 * p.2)) op ip jp _ _ _ _ rfl rfl rfl rfl
  refine ⟨_, ?_, (hE.times hF).eq e1, (hG.times hH).eq e2, hF.times hG, (hE.times hH).eq e3⟩
  rw [hn]
  exact F_mul_ne (F_mul_ne (F_mul_ne hz hz) dn) (F_mul_ne (by decide +kernel) (F_mul_ne (F_mul_ne hz hz) dp))
theorem Rep.neg {P : P20} {p : Pt} (hp : Rep P p) : Rep (negP P) (negC p) := by
  obtain ⟨z, hz, hx, hy, hzz, ht⟩ := hp
  refine ⟨z, hz, (zeroE_f.minus hx).eq ?_, hy, hzz, (zeroE_f.minus ht).eq ?_⟩
  · unfold negC; simp only; grind
  · unfold negC; simp only; grind
theorem Rep.clr {P : P20} {p : Pt} (hp : Rep P p) (op : OnC p) : Rep (clrP P) (nC p 8) := by
  have h2 := hp.dbl op
  have o2 := addC_on op op
  have h4 := h2.dbl o2
  have o4 := addC_on o2 o2
  have h8 := h4.dbl o4
  have e : nC p 8 = addC (addC (addC p p) (addC p p)) (addC (addC p p) (addC p p)) := by
    rw [show 8 = (2 + 2) + (2 + 2) from rfl, nC_add op, nC_add op, nC_two op]
  rw [e]
  exact h8
end Go.Proofs.Ytmfobbdgmedhdaa

/- FieldAll: every call answers as the document's numbers do. -/
import Derived.Test.YtmfobbdgmedhdaaRefD
namespace Go.Proofs.Ytmfobbdgmedhdaa
open Go Go.Eng
set_option linter.unusedVariables false
set_option maxRecDepth 100000

theorem all_fn (a b : B32) (ha : BOk a) (hb : BOk b) (h0 : (canB a == belowW (fromN a) p4) = true) (h1 : eqB (addB a b) (raddB a b) = true) (h2 : eqB (subB a b) (rsubB a b) = true) (h3 : eqB (mulB a b) (rmulB a b) = true)
    (h4 : eqB (invB a) (rinvB a) = true) (h5 : eqB (sqrtB a) (rsqrtB a) = true) (h6 : (sqrtE a == rsqrtE a) = true) : FnOk Try.prog 7 [cB32.enc a, cB32.enc b] (cBool.enc true) :=
  FnOk.of_out (Γ := [awake_con, fmul_con, fadd_con, fsub_con, fsqrt_con, finv_con, canonical_con, rsqrt_con, rcanonical_con, radd_con, rsub_con, rmul_con, rinv_con]) tys_ok mixed Try.func7 (n := 100)
    (orc := [(25, [true]), (33, [true]), (42, [true]), (51, [true]), (58, [true]), (63, [true]), (68, [true])])
    (cs := [BOk a, (canB a == belowW (fromN a) p4) = true, BOk a, BOk b, eqB (addB a b) (raddB a b) = true, BOk a, BOk b, eqB (subB a b) (rsubB a b) = true, BOk a, BOk b, eqB (mulB a b) (rmulB a b) = true, BOk a, eqB (invB a) (rinvB a) = true,
      eqB (sqrtB a) (rsqrtB a) = true, (sqrtE a == rsqrtE a) = true]) (by kernel_rfl)
    ⟨ha, h0, ha, hb, h1, ha, hb, h2, ha, hb, h3, ha, h4, h5, h6, trivial⟩ rfl rfl

theorem eq_bool {x y : Bool} (h : x = true ↔ y = true) : (x == y) = true := by
  cases x <;> cases y <;> simp_all
theorem canB_iff {a : B32} (ha : BOk a) : canB a = true ↔ VB a < pP := by
  have h := (Is.of ha).bytes
  have h0 : 0 ≤ VB a := by
    have := (fromN_val ha)
    rw [← this.2]
    exact (N4V_lt this.1).1
  constructor
  · intro hc
    unfold canB at hc
    rw [eqB_iff] at hc
    rw [← hc, h.2]
    exact Int.emod_lt_of_pos _ (by decide)
  · intro hlt
    exact can_of ha (Int.emod_eq_of_lt h0 hlt)

/-- The even root is one alone. -/
theorem even_root {z w : Int} (h : z * z % pP = w * w % pP) (hz : z % pP % 2 = 0) (hw : w % pP % 2 = 0) : z % pP = w % pP := by
  have hd : (z - w) * (z + w) % pP = 0 := by
    have e : (z - w) * (z + w) = z * z - w * w := by grind
    rw [e, Int.sub_emod, h, Int.sub_self]
    rfl
  rcases mul_zero_p hd with h | h
  · rw [show (0 : Int) = 0 % pP from by decide, eqm] at h
    obtain ⟨k, hk⟩ := h
    rw [eqm]
    exact ⟨k, by omega⟩
  · have h' : z % pP = (0 - w) % pP := by
      rw [show (0 : Int) = 0 % pP from by decide, eqm] at h
      obtain ⟨k, hk⟩ := h
      rw [eqm]
      exact ⟨k, by omega⟩
    by_cases hw0 : w % pP = 0
    · have : (0 - w) % pP = 0 := by
        rw [Int.sub_emod, hw0]
        decide
      rw [h', this, hw0]
    · exfalso
      have a0 : 0 ≤ w % pP := Int.emod_nonneg _ (by decide)
      have a1 : w % pP < pP := Int.emod_lt_of_pos _ (by decide)
      have e : (0 - w) % pP = pP - w % pP := by
        have h2 : (0 - w) % pP = (pP - w % pP) % pP := by
          rw [eqm]
          refine ⟨-(w / pP) - 1, ?_⟩
          have := Int.mul_ediv_add_emod w pP
          rw [Int.sub_mul, Int.neg_mul, Int.mul_comm (w / pP), Int.one_mul]
          omega
        rw [h2]
        exact Int.emod_eq_of_lt (by omega) (by omega)
      rw [h', e] at hz
      have hp : pP % 2 = 1 := by decide
      omega
theorem l0_par {n : N4} (h : N4Ok n) : n.l0 % 2 = N4V n % 2 := by
  unfold N4V
  omega
theorem rsqrt_val {a : B32} (ha : BOk a) : (rsqrtE a = 0 ∧ BOk (rsqrtB a) ∧ (∃ z, VB (rsqrtB a) = z % pP ∧ z % pP % 2 = 0 ∧ z * z % pP = VB a % pP)) ∨ (rsqrtE a = 4 ∧ rsqrtB a = numB 0 ∧ ¬ ∃ r : Int, r * r % pP = VB a % pP) := by
  obtain ⟨hf, hv⟩ := fromN_val ha
  obtain ⟨h1, h2⟩ := rt1_val hf
  have hok := rtOk_iff hf
  rw [hv] at h2 hok
  obtain ⟨h3, h4, h5⟩ := leastN_val h1
  unfold rsqrtE rsqrtB
  cases hb : rtOk (fromN a) with
  | false =>
    right
    refine ⟨rfl, rfl, fun hr => ?_⟩
    rw [hok.2 (h2 hr)] at hb
    cases hb
  | true =>
    left
    have hz := hok.1 hb
    have hodd : rodd a = true ↔ N4V (leastN (rt1 (fromN a))) % 2 = 1 := by
      unfold rodd
      rw [Int.tmod_eq_emod_of_nonneg h3.1.1, l0_par h3]
      simp
    unfold rsqrtN
    cases hc : rodd a with
    | true =>
      obtain ⟨h6, h7⟩ := minusN_val zero4_ok h3
      obtain ⟨h8, h9⟩ := rout_val h6
      have e0 : N4V ⟨0, 0, 0, 0⟩ = 0 := by decide
      rw [e0, h5, Int.sub_emod_emod] at h7
      refine ⟨rfl, h8, 0 - N4V (rt1 (fromN a)), by rw [h9, h7], neg_par (by rw [← h5]; exact hodd.1 hc), ?_⟩
      have e : (0 - N4V (rt1 (fromN a))) * (0 - N4V (rt1 (fromN a))) = N4V (rt1 (fromN a)) * N4V (rt1 (fromN a)) := by grind
      rw [e, hz]
    | false =>
      obtain ⟨h8, h9⟩ := rout_val h3
      refine ⟨rfl, h8, N4V (rt1 (fromN a)), by rw [h9, h5, mod_mod_p], ?_, hz⟩
      have h10 : ¬ N4V (leastN (rt1 (fromN a))) % 2 = 1 := fun h => by rw [hodd.2 h] at hc; cases hc
      rw [← h5]
      omega

theorem all_ok (a b : B32) (ha : BOk a) (hb : BOk b) : FnOk Try.prog 7 [cB32.enc a, cB32.enc b] (cBool.enc true) := by
  obtain ⟨fa, va⟩ := fromN_val ha
  obtain ⟨fb, vb⟩ := fromN_val hb
  have p1 := addB_val ha hb
  have p2 := subB_val ha hb
  have p3 := mulB_val ha hb
  have p4' := invB_val ha
  have q1 := plusN_val fa fb
  have q2 := minusN_val fa fb
  have q3 := timesN_val fa fb
  have q4 := invN_val fa
  have r1 := rout_val q1.1
  have r2 := rout_val q2.1
  have r3 := rout_val q3.1
  have r4 := rout_val q4.1
  rw [va, vb] at q1 q2 q3
  rw [va] at q4
  have hs : eqB (sqrtB a) (rsqrtB a) = true ∧ (sqrtE a == rsqrtE a) = true := by
    rcases sqrt_val ha with ⟨e1, b1, z, v1, par1, s1⟩ | ⟨e1, b1, n1⟩
    · rcases rsqrt_val ha with ⟨e2, b2, w, v2, par2, s2⟩ | ⟨e2, b2, n2⟩
      · exact ⟨eqB_val b1 b2 (by rw [v1, v2]; exact even_root (by rw [s1, s2]) par1 par2), by rw [e1, e2]; rfl⟩
      · exact absurd ⟨z, s1⟩ n2
    · rcases rsqrt_val ha with ⟨e2, b2, w, v2, par2, s2⟩ | ⟨e2, b2, n2⟩
      · exact absurd ⟨w, s2⟩ n1
      · exact ⟨by rw [eqB_iff, b1, b2], by rw [e1, e2]; rfl⟩
  refine all_fn a b ha hb (eq_bool ?_) (eqB_val p1.1 r1.1 ?_) (eqB_val p2.1 r2.1 ?_) (eqB_val p3.1 r3.1 ?_) (eqB_val p4'.1 r4.1 ?_) hs.1 hs.2
  · rw [canB_iff ha, belowW_iff fa p4_ok, va, p4_val]
  · unfold raddB; rw [p1.2, r1.2, q1.2]
  · unfold rsubB; rw [p2.2, r2.2, q2.2]
  · unfold rmulB; rw [p3.2, r3.2, q3.2]
  · unfold rinvB; rw [p4'.2, r4.2, q4.2]
end Go.Proofs.Ytmfobbdgmedhdaa

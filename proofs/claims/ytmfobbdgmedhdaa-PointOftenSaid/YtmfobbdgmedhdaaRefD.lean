/- Package beaconref02: inverses, roots, and the calls on bytes, as numbers modulo p. -/
import Derived.Test.YtmfobbdgmedhdaaRefC
namespace Go.Proofs.Ytmfobbdgmedhdaa
open Go Go.Eng
set_option linter.unusedVariables false
set_option maxRecDepth 100000

def bitSum (e : N4) : Nat → Nat
  | 0 => 0
  | k + 1 => bitSum e k + cond (bitW e k) (2 ^ k) 0
theorem sqI (x : Int) : x ^ 2 = x * x := by rw [Int.pow_succ, Int.pow_one]
theorem powS_val {a e : N4} (ha : N4Ok a) : ∀ (k : Nat) (o : N4), N4Ok o → N4Ok (powS a e k o) ∧ N4V (powS a e k o) % pP = (N4V o ^ 2 ^ k * N4V a ^ bitSum e k) % pP
  | 0, o, ho => ⟨ho, by simp only [powS, bitSum, Nat.pow_zero, Int.pow_one, Int.pow_zero, Int.mul_one]⟩
  | k + 1, o, ho => by
    have hoo := timesN_val ho ho
    unfold powS bitSum
    cases hb : bitW e k with
    | true =>
      have h1 := timesN_val hoo.1 ha
      obtain ⟨h2, h3⟩ := powS_val ha k _ h1.1
      refine ⟨h2, ?_⟩
      simp only [cond_true]
      have e1 : N4V (timesN (timesN o o) a) % pP = (N4V o * N4V o * N4V a) % pP := by rw [h1.2, ← mul_emod_l, hoo.2, mul_emod_l]
      rw [h3, ← mul_emod_l, emod_pow, e1, ← emod_pow, mul_emod_l]
      congr 1
      rw [Int.mul_pow, Nat.pow_succ, Nat.mul_comm, Int.pow_mul, sqI, Int.pow_add, Int.mul_assoc, Int.mul_comm (N4V a ^ 2 ^ k)]
    | false =>
      obtain ⟨h2, h3⟩ := powS_val ha k _ hoo.1
      refine ⟨h2, ?_⟩
      simp only [cond_false, Nat.add_zero]
      rw [h3, ← mul_emod_l, emod_pow, hoo.2, ← emod_pow, mul_emod_l]
      congr 1
      rw [Nat.pow_succ, Nat.mul_comm, Int.pow_mul, sqI]
theorem powN_val {a e : N4} (ha : N4Ok a) {E : Nat} (hE : bitSum e 256 = E) : N4Ok (powN a e) ∧ N4V (powN a e) % pP = N4V a ^ E % pP := by
  obtain ⟨h1, h2⟩ := powS_val (e := e) ha 256 one4 (by unfold N4Ok Word; decide)
  refine ⟨h1, ?_⟩
  have e1 : N4V one4 = 1 := by decide
  unfold powN
  rw [h2, hE, e1, Int.one_pow, Int.one_mul]

def eInv : N4 := ⟨subU 18446744073709551597 2, 18446744073709551615, 18446744073709551615, 9223372036854775807⟩
def eRoot : N4 := ⟨18446744073709551614, 18446744073709551615, 18446744073709551615, 1152921504606846975⟩
theorem eInv_sum : bitSum eInv 256 = pN - 2 := by kernel_rfl
theorem eRoot_sum : bitSum eRoot 256 = K58 + 1 := by kernel_rfl
noncomputable def invN (a : N4) : N4 := powN a eInv
theorem invN_val {a : N4} (ha : N4Ok a) : N4Ok (invN a) ∧ N4V (invN a) % pP = N4V a ^ (pN - 2) % pP := powN_val ha eInv_sum
theorem rinverse_fn (a : N4) (hp : Holds [N4Ok a]) : FnOk Try.prog 65 [cN4.enc a] (cN4.enc (invN a)) :=
  FnOk.of_out (Γ := [rp_con, rpower_con]) tys_ok mixed Try.func65 (n := 100) (orc := []) (cs := [N4Ok a]) (by kernel_rfl) hp rfl rfl
noncomputable def rinverse_con : Con Try.prog := con1 65 Try.f65 Try.func65 (by kernel_rfl) (by kernel_rfl) (cN4) (fun a => cN4.enc (invN a)) (fun a => [N4Ok a]) (fun _ => rfl) (fun a h => rinverse_fn a h)

def sameN (a b : N4) : Bool := eqI (leastN a).to (leastN b).to
theorem rsame_fn (a b : N4) (hp : Holds [N4Ok a, N4Ok b]) : FnOk Try.prog 93 [cN4.enc a, cN4.enc b] (cBool.enc (sameN a b)) :=
  FnOk.of_out (Γ := [rleast_con]) tys_ok mixed Try.func93 (n := 100) (orc := []) (cs := [N4Ok a, N4Ok b]) (by kernel_rfl) hp rfl rfl
noncomputable def rsame_con : Con Try.prog := con2 93 Try.f93 Try.func93 (by kernel_rfl) (by kernel_rfl) (cN4) (cN4) (fun a b => cBool.enc (sameN a b)) (fun a b => [N4Ok a, N4Ok b]) (fun _ _ => rfl) (fun a b h => rsame_fn a b h)
theorem N4V_inj {a b : N4} (ha : N4Ok a) (hb : N4Ok b) (h : N4V a = N4V b) : a = b := by
  obtain ⟨⟨a0, a1⟩, ⟨a2, a3⟩, ⟨a4, a5⟩, ⟨a6, a7⟩⟩ := ha
  obtain ⟨⟨b0, b1⟩, ⟨b2, b3⟩, ⟨b4, b5⟩, ⟨b6, b7⟩⟩ := hb
  unfold N4V at h
  obtain ⟨x0, x1, x2, x3⟩ := a
  obtain ⟨y0, y1, y2, y3⟩ := b
  simp only [N4.mk.injEq] at *
  omega
theorem N4to_len (a : N4) : a.to.length = 4 := rfl
theorem N4to_inj {a b : N4} (h : a.to = b.to) : a = b := by
  obtain ⟨a0, a1, a2, a3⟩ := a
  obtain ⟨b0, b1, b2, b3⟩ := b
  simp only [N4.to, List.cons.injEq, and_true] at h
  simp only [N4.mk.injEq]
  exact h
theorem sameN_iff {a b : N4} (ha : N4Ok a) (hb : N4Ok b) : sameN a b = true ↔ N4V a % pP = N4V b % pP := by
  obtain ⟨h1, h2, h3⟩ := leastN_val ha
  obtain ⟨k1, k2, k3⟩ := leastN_val hb
  unfold sameN
  rw [eqI_iff (leastN a).to (leastN b).to (by rw [N4to_len, N4to_len])]
  constructor
  · intro h
    rw [← h3, N4to_inj h, k3]
  · intro h
    rw [N4V_inj h1 k1 (by rw [h3, h, k3])]

noncomputable def rt0 (a : N4) : N4 := powN a eRoot
noncomputable def rt1 (a : N4) : N4 := match sameN (timesN (rt0 a) (rt0 a)) a with
  | true => rt0 a
  | false => timesN (rt0 a) i4
noncomputable def rtOk (a : N4) : Bool := sameN (timesN (rt1 a) (rt1 a)) a
theorem rt0_val {a : N4} (ha : N4Ok a) : N4Ok (rt0 a) ∧ N4V (rt0 a) % pP = root0 (N4V a) 1 % pP := by
  obtain ⟨h1, h2⟩ := powN_val ha eRoot_sum
  refine ⟨h1, ?_⟩
  unfold rt0 root0
  rw [h2, Int.pow_succ, Int.mul_comm]
  congr 1
  simp only [Int.mul_one]
theorem i4_ok : N4Ok i4 := by unfold N4Ok Word; decide
theorem i4_sq : N4V i4 * N4V i4 % pP = (-1) % pP := by decide
theorem rt1_val {a : N4} (ha : N4Ok a) : N4Ok (rt1 a) ∧ ((∃ r : Int, r * r % pP = N4V a % pP) → N4V (rt1 a) * N4V (rt1 a) % pP = N4V a % pP) := by
  obtain ⟨h1, h2⟩ := rt0_val ha
  obtain ⟨h3, h4⟩ := timesN_val h1 h1
  have hs := sameN_iff h3 ha
  unfold rt1
  cases hb : sameN (timesN (rt0 a) (rt0 a)) a with
  | true => exact ⟨h1, fun _ => by rw [← h4]; exact hs.1 hb⟩
  | false =>
    obtain ⟨h5, h6⟩ := timesN_val h1 i4_ok
    refine ⟨h5, ?_⟩
    rintro ⟨r, hr⟩
    have hq := root0_ok (x := N4V a) (y := 1) (r := r) (by decide) (by rw [Int.one_mul]; exact hr)
    rw [Int.one_mul] at hq
    have e : N4V (rt0 a) * N4V (rt0 a) % pP = root0 (N4V a) 1 * root0 (N4V a) 1 % pP := by rw [Int.mul_emod, h2, ← Int.mul_emod]
    rcases hq with hq | hq
    · rw [hs.2 (by rw [h4, e, hq])] at hb; cases hb
    · simp only
      rw [Int.mul_emod, h6, ← Int.mul_emod]
      have e2 : N4V (rt0 a) * N4V i4 * (N4V (rt0 a) * N4V i4) = N4V (rt0 a) * N4V (rt0 a) * (N4V i4 * N4V i4) := by grind
      rw [e2, Int.mul_emod, e, hq, i4_sq, ← Int.mul_emod]
      congr 1
      omega
theorem rtOk_iff {a : N4} (ha : N4Ok a) : rtOk a = true ↔ N4V (rt1 a) * N4V (rt1 a) % pP = N4V a % pP := by
  obtain ⟨h1, _⟩ := rt1_val ha
  obtain ⟨h3, h4⟩ := timesN_val h1 h1
  have := sameN_iff h3 ha
  rw [h4] at this
  exact this
noncomputable def flagN (a : N4) (b : Bool) : SV := .t [.g (cN4.row a), .a (bool1 b)]
theorem rroot_fn (a : N4) (hp : Holds [N4Ok a]) : FnOk Try.prog 56 [cN4.enc a] (flagN (leastN (rt1 a)) (rtOk a)) := by
  have ha : N4Ok a := hp.1
  obtain ⟨h1, h2⟩ := rt0_val ha
  obtain ⟨h3, h4⟩ := timesN_val h1 h1
  have h5 := timesN_val h1 i4_ok
  have h6 := rt1_val ha
  have h7 := timesN_val h6.1 h6.1
  unfold rtOk
  unfold rt1 at h6 h7 ⊢
  cases hb : sameN (timesN (rt0 a) (rt0 a)) a with
  | true =>
    exact FnOk.of_out (Γ := [rpower_con, rtimes_con, rsame_con, rI_con, rleast_con]) tys_ok mixed Try.func56 (n := 100) (orc := [(12, [true])])
     (cs := [N4Ok a, N4Ok (rt0 a), N4Ok (rt0 a), N4Ok (timesN (rt0 a) (rt0 a)), N4Ok a, sameN (timesN (rt0 a) (rt0 a)) a = true, N4Ok (rt0 a), N4Ok (rt0 a), N4Ok (rt0 a), N4Ok (timesN (rt0 a) (rt0 a)), N4Ok a]) (by kernel_rfl)
     ⟨ha, h1, h1, h3, ha, hb, h1, h1, h1, h3, ha, trivial⟩ rfl rfl
  | false =>
    rw [hb] at h7
    exact FnOk.of_out (Γ := [rpower_con, rtimes_con, rsame_con, rI_con, rleast_con]) tys_ok mixed Try.func56 (n := 100) (orc := [(12, [false])])
     (cs := [N4Ok a, N4Ok (rt0 a), N4Ok (rt0 a), N4Ok (timesN (rt0 a) (rt0 a)), N4Ok a, sameN (timesN (rt0 a) (rt0 a)) a = false, N4Ok (rt0 a), N4Ok i4, N4Ok (timesN (rt0 a) i4), N4Ok (timesN (rt0 a) i4), N4Ok (timesN (rt0 a) i4),
       N4Ok (timesN (timesN (rt0 a) i4) (timesN (rt0 a) i4)), N4Ok a]) (by kernel_rfl)
     ⟨ha, h1, h1, h3, ha, hb, h1, i4_ok, h5.1, h5.1, h5.1, h7.1, ha, trivial⟩ rfl rfl
noncomputable def rroot_con : Con Try.prog := con1 56 Try.f56 Try.func56 (by kernel_rfl) (by kernel_rfl) (cN4) (fun a => flagN (leastN (rt1 a)) (rtOk a)) (fun a => [N4Ok a]) (fun _ => rfl) (fun a h => rroot_fn a h)

/-! ### The calls on bytes -/
theorem fromN_val {b : B32} (h : BOk b) : N4Ok (fromN b) ∧ N4V (fromN b) = VB b := by
  have key : ∀ k, word8R b k = sum8 b k := fun k => by
    have h7 := h (k + 7)
    have h6 := h (k + 6)
    have h5 := h (k + 5)
    have h4 := h (k + 4)
    have h3 := h (k + 3)
    have h2 := h (k + 2)
    have h1 := h (k + 1)
    have h0 := h (k + 0)
    unfold word8R sum8
    simp only [shlU_eq, wrap64]
    generalize b.at (k + 7) = z7 at *
    generalize b.at (k + 6) = z6 at *
    generalize b.at (k + 5) = z5 at *
    generalize b.at (k + 4) = z4 at *
    generalize b.at (k + 3) = z3 at *
    generalize b.at (k + 2) = z2 at *
    generalize b.at (k + 1) = z1 at *
    generalize b.at (k + 0) = z0 at *
    unfold Byte at *
    have s0 : orU 0 (z0 % 18446744073709551616 * 2 ^ (8 * 0) % 18446744073709551616) = z0 := by
      rw [orU_comm, orU_add 0 _ _ (by omega) (by omega) (by omega) (by omega) (by omega) (by omega)]; omega
    have s1 : ∀ acc : Int, 0 ≤ acc → acc < 256 → orU acc (z1 % 18446744073709551616 * 2 ^ (8 * 1) % 18446744073709551616) = acc + 256 * z1 := fun acc a0 a1 => by
      rw [orU_comm, orU_add 8 _ _ (by omega) (by omega) (by omega) (by omega) (by omega) (by omega)]; omega
    have s2 : ∀ acc : Int, 0 ≤ acc → acc < 65536 → orU acc (z2 % 18446744073709551616 * 2 ^ (8 * 2) % 18446744073709551616) = acc + 65536 * z2 := fun acc a0 a1 => by
      rw [orU_comm, orU_add 16 _ _ (by omega) (by omega) (by omega) (by omega) (by omega) (by omega)]; omega
    have s3 : ∀ acc : Int, 0 ≤ acc → acc < 16777216 → orU acc (z3 % 18446744073709551616 * 2 ^ (8 * 3) % 18446744073709551616) = acc + 16777216 * z3 := fun acc a0 a1 => by
      rw [orU_comm, orU_add 24 _ _ (by omega) (by omega) (by omega) (by omega) (by omega) (by omega)]; omega
    have s4 : ∀ acc : Int, 0 ≤ acc → acc < 4294967296 → orU acc (z4 % 18446744073709551616 * 2 ^ (8 * 4) % 18446744073709551616) = acc + 4294967296 * z4 := fun acc a0 a1 => by
      rw [orU_comm, orU_add 32 _ _ (by omega) (by omega) (by omega) (by omega) (by omega) (by omega)]; omega
    have s5 : ∀ acc : Int, 0 ≤ acc → acc < 1099511627776 → orU acc (z5 % 18446744073709551616 * 2 ^ (8 * 5) % 18446744073709551616) = acc + 1099511627776 * z5 := fun acc a0 a1 => by
      rw [orU_comm, orU_add 40 _ _ (by omega) (by omega) (by omega) (by omega) (by omega) (by omega)]; omega
    have s6 : ∀ acc : Int, 0 ≤ acc → acc < 281474976710656 → orU acc (z6 % 18446744073709551616 * 2 ^ (8 * 6) % 18446744073709551616) = acc + 281474976710656 * z6 := fun acc a0 a1 => by
      rw [orU_comm, orU_add 48 _ _ (by omega) (by omega) (by omega) (by omega) (by omega) (by omega)]; omega
    have s7 : ∀ acc : Int, 0 ≤ acc → acc < 72057594037927936 → orU acc (z7 % 18446744073709551616 * 2 ^ (8 * 7) % 18446744073709551616) = acc + 72057594037927936 * z7 := fun acc a0 a1 => by
      rw [orU_comm, orU_add 56 _ _ (by omega) (by omega) (by omega) (by omega) (by omega) (by omega)]; omega
    rw [s0, s1 _ (by omega) (by omega), s2 _ (by omega) (by omega), s3 _ (by omega) (by omega), s4 _ (by omega) (by omega), s5 _ (by omega) (by omega), s6 _ (by omega) (by omega), s7 _ (by omega) (by omega)]
    omega
  have q : ∀ k, Word (sum8 b k) := fun k => by
    have h7 := h (k + 7)
    have h6 := h (k + 6)
    have h5 := h (k + 5)
    have h4 := h (k + 4)
    have h3 := h (k + 3)
    have h2 := h (k + 2)
    have h1 := h (k + 1)
    have h0 := h (k + 0)
    unfold sum8 Word
    unfold Byte at *
    omega
  unfold fromN
  rw [key, key, key, key]
  refine ⟨⟨q _, q _, q _, q _⟩, ?_⟩
  unfold N4V VB sum8 B32.at
  simp only
  omega
theorem rout_val {a : N4} (ha : N4Ok a) : BOk (bytes4 (leastN a)) ∧ VB (bytes4 (leastN a)) = N4V a % pP := by
  obtain ⟨h1, h2, h3⟩ := leastN_val ha
  exact ⟨bytes4_ok _, by rw [bytes4_val _ h1, h3]⟩

noncomputable def raddB (a b : B32) : B32 := bytes4 (leastN (plusN (fromN a) (fromN b)))
noncomputable def rsubB (a b : B32) : B32 := bytes4 (leastN (minusN (fromN a) (fromN b)))
noncomputable def rmulB (a b : B32) : B32 := bytes4 (leastN (timesN (fromN a) (fromN b)))
noncomputable def rinvB (a : B32) : B32 := bytes4 (leastN (invN (fromN a)))
theorem radd_fn (a b : B32) (hp : Holds [BOk a, BOk b]) : FnOk Try.prog 23 [cB32.enc a, cB32.enc b] (cB32.enc (raddB a b)) :=
  have ha := (fromN_val hp.1).1
  have hb := (fromN_val hp.2.1).1
  FnOk.of_out (Γ := [rfrom_con, rplus_con, rbytes_con]) tys_ok mixed Try.func23 (n := 100) (orc := []) (cs := [N4Ok (fromN a), N4Ok (fromN b), N4Ok (plusN (fromN a) (fromN b))]) (by kernel_rfl)
    ⟨ha, hb, (plusN_val ha hb).1, trivial⟩ rfl rfl
noncomputable def radd_con : Con Try.prog := con2 23 Try.f23 Try.func23 (by kernel_rfl) (by kernel_rfl) (cB32) (cB32) (fun a b => cB32.enc (raddB a b)) (fun a b => [BOk a, BOk b]) (fun _ _ => rfl) (fun a b h => radd_fn a b h)
theorem rsub_fn (a b : B32) (hp : Holds [BOk a, BOk b]) : FnOk Try.prog 24 [cB32.enc a, cB32.enc b] (cB32.enc (rsubB a b)) :=
  have ha := (fromN_val hp.1).1
  have hb := (fromN_val hp.2.1).1
  FnOk.of_out (Γ := [rfrom_con, rminus_con, rbytes_con]) tys_ok mixed Try.func24 (n := 100) (orc := []) (cs := [N4Ok (fromN a), N4Ok (fromN b), N4Ok (minusN (fromN a) (fromN b))]) (by kernel_rfl)
    ⟨ha, hb, (minusN_val ha hb).1, trivial⟩ rfl rfl
noncomputable def rsub_con : Con Try.prog := con2 24 Try.f24 Try.func24 (by kernel_rfl) (by kernel_rfl) (cB32) (cB32) (fun a b => cB32.enc (rsubB a b)) (fun a b => [BOk a, BOk b]) (fun _ _ => rfl) (fun a b h => rsub_fn a b h)
theorem rmul_fn (a b : B32) (hp : Holds [BOk a, BOk b]) : FnOk Try.prog 25 [cB32.enc a, cB32.enc b] (cB32.enc (rmulB a b)) :=
  have ha := (fromN_val hp.1).1
  have hb := (fromN_val hp.2.1).1
  FnOk.of_out (Γ := [rfrom_con, rtimes_con, rbytes_con]) tys_ok mixed Try.func25 (n := 100) (orc := []) (cs := [N4Ok (fromN a), N4Ok (fromN b), N4Ok (timesN (fromN a) (fromN b))]) (by kernel_rfl)
    ⟨ha, hb, (timesN_val ha hb).1, trivial⟩ rfl rfl
noncomputable def rmul_con : Con Try.prog := con2 25 Try.f25 Try.func25 (by kernel_rfl) (by kernel_rfl) (cB32) (cB32) (fun a b => cB32.enc (rmulB a b)) (fun a b => [BOk a, BOk b]) (fun _ _ => rfl) (fun a b h => rmul_fn a b h)
theorem rinv_fn (a : B32) (hp : Holds [BOk a]) : FnOk Try.prog 26 [cB32.enc a] (cB32.enc (rinvB a)) :=
  have ha := (fromN_val hp.1).1
  FnOk.of_out (Γ := [rfrom_con, rinverse_con, rbytes_con]) tys_ok mixed Try.func26 (n := 100) (orc := []) (cs := [N4Ok (fromN a), N4Ok (invN (fromN a))]) (by kernel_rfl)
    ⟨ha, (invN_val ha).1, trivial⟩ rfl rfl
noncomputable def rinv_con : Con Try.prog := con1 26 Try.f26 Try.func26 (by kernel_rfl) (by kernel_rfl) (cB32) (fun a => cB32.enc (rinvB a)) (fun a => [BOk a]) (fun _ => rfl) (fun a h => rinv_fn a h)

noncomputable def rodd (a : B32) : Bool := ((leastN (rt1 (fromN a))).l0.tmod 2) == 1
noncomputable def rsqrtN (a : B32) : N4 := match rodd a with
  | true => minusN ⟨0, 0, 0, 0⟩ (leastN (rt1 (fromN a)))
  | false => leastN (rt1 (fromN a))
noncomputable def rsqrtB (a : B32) : B32 := match rtOk (fromN a) with
  | true => bytes4 (leastN (rsqrtN a))
  | false => zeroB
noncomputable def rsqrtE (a : B32) : Int := match rtOk (fromN a) with
  | true => 0
  | false => 4
theorem zero4_ok : N4Ok ⟨0, 0, 0, 0⟩ := by unfold N4Ok Word; decide
theorem rsqrt_fn (a : B32) (hp : Holds [BOk a]) : FnOk Try.prog 21 [cB32.enc a] (flagB (rsqrtB a) (rsqrtE a)) := by
  have ha := (fromN_val hp.1).1
  have h1 := (leastN_val (rt1_val ha).1).1
  have h2 := (minusN_val zero4_ok h1).1
  unfold rsqrtB rsqrtE rsqrtN
  cases hb : rtOk (fromN a) with
  | false => exact FnOk.of_out (Γ := [rfrom_con, rroot_con, rsmall_con, rminus_con, rbytes_con]) tys_ok mixed Try.func21 (n := 100) (orc := [(11, [false])]) (cs := [N4Ok (fromN a), rtOk (fromN a) = false]) (by kernel_rfl) ⟨ha, hb, trivial⟩ rfl rfl
  | true =>
    cases hc : rodd a with
    | true =>
      exact FnOk.of_out (Γ := [rfrom_con, rroot_con, rsmall_con, rminus_con, rbytes_con]) tys_ok mixed Try.func21 (n := 100) (orc := [(11, [true]), (18, [true])])
       (cs := [N4Ok (fromN a), rtOk (fromN a) = true, rodd a = true, N4Ok ⟨0, 0, 0, 0⟩, N4Ok (leastN (rt1 (fromN a))), N4Ok (minusN ⟨0, 0, 0, 0⟩ (leastN (rt1 (fromN a))))]) (by kernel_rfl) ⟨ha, hb, hc, zero4_ok, h1, h2, trivial⟩ rfl rfl
    | false =>
      exact FnOk.of_out (Γ := [rfrom_con, rroot_con, rsmall_con, rminus_con, rbytes_con]) tys_ok mixed Try.func21 (n := 100) (orc := [(11, [true]), (18, [false])])
       (cs := [N4Ok (fromN a), rtOk (fromN a) = true, rodd a = false, N4Ok (leastN (rt1 (fromN a)))]) (by kernel_rfl) ⟨ha, hb, hc, h1, trivial⟩ rfl rfl
noncomputable def rsqrt_con : Con Try.prog := con1 21 Try.f21 Try.func21 (by kernel_rfl) (by kernel_rfl) (cB32) (fun a => flagB (rsqrtB a) (rsqrtE a)) (fun a => [BOk a]) (fun _ => rfl) (fun a h => rsqrt_fn a h)
end Go.Proofs.Ytmfobbdgmedhdaa

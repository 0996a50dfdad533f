/- Package beaconref03: numbers modulo the order, bit by bit. -/
import Derived.Test.YtmfobbdgmedhdaaFAll
import Derived.Test.YtmfobbdgmedhdaaCodS
namespace Go.Proofs.Ytmfobbdgmedhdaa
open Go Go.Eng
set_option linter.unusedVariables false
set_option maxRecDepth 100000

def o4 : N4 := ⟨6346243789798364141, 1503914060200516822, 0, 1152921504606846976⟩
def zero4 : N4 := ⟨0, 0, 0, 0⟩
theorem sorder_fn : FnOk Try.prog 105 [] (cN4.enc o4) :=
  FnOk.of_out (Γ := []) tys_ok mixed Try.func105 (n := 100) (orc := []) (cs := []) (by kernel_rfl) trivial rfl rfl
def sorder_con : Con Try.prog := con0 105 Try.f105 Try.func105 (by kernel_rfl) (by kernel_rfl) (cN4.enc o4) [] rfl (fun _ => sorder_fn)
theorem sbelow_fn (a b : N4) : FnOk Try.prog 104 [cN4.enc a, cN4.enc b] (cBool.enc (belowW a b)) := by
  unfold belowW
  cases h3 : (a.l3 != b.l3) with
  | true => exact FnOk.of_out (Γ := []) tys_ok mixed Try.func104 (n := 100) (orc := [(16, [true])]) (cs := [(a.l3 != b.l3) = true]) (by kernel_rfl) ⟨h3, trivial⟩ rfl rfl
  | false =>
    simp only
    unfold below2
    cases h2 : (a.l2 != b.l2) with
    | true => exact FnOk.of_out (Γ := []) tys_ok mixed Try.func104 (n := 100) (orc := [(16, [false, true])]) (cs := [(a.l3 != b.l3) = false, (a.l2 != b.l2) = true]) (by kernel_rfl) ⟨h3, h2, trivial⟩ rfl rfl
    | false =>
      simp only
      unfold below1
      cases h1 : (a.l1 != b.l1) with
      | true => exact FnOk.of_out (Γ := []) tys_ok mixed Try.func104 (n := 100) (orc := [(16, [false, false, true])]) (cs := [(a.l3 != b.l3) = false, (a.l2 != b.l2) = false, (a.l1 != b.l1) = true]) (by kernel_rfl) ⟨h3, h2, h1, trivial⟩ rfl rfl
      | false =>
        simp only
        unfold below0
        cases h0 : (a.l0 != b.l0) with
        | true => exact FnOk.of_out (Γ := []) tys_ok mixed Try.func104 (n := 100) (orc := [(16, [false, false, false, true])]) (cs := [(a.l3 != b.l3) = false, (a.l2 != b.l2) = false, (a.l1 != b.l1) = false, (a.l0 != b.l0) = true]) (by kernel_rfl) ⟨h3, h2, h1, h0, trivial⟩ rfl rfl
        | false => exact FnOk.of_out (Γ := []) tys_ok mixed Try.func104 (n := 100) (orc := [(16, [false, false, false, false])]) (cs := [(a.l3 != b.l3) = false, (a.l2 != b.l2) = false, (a.l1 != b.l1) = false, (a.l0 != b.l0) = false]) (by kernel_rfl) ⟨h3, h2, h1, h0, trivial⟩ rfl rfl
def sbelow_con : Con Try.prog := con2 104 Try.f104 Try.func104 (by kernel_rfl) (by kernel_rfl) (cN4) (cN4) (fun a b => cBool.enc (belowW a b)) (fun _ _ => []) (fun _ _ => rfl) (fun a b _ => sbelow_fn a b)
theorem sless_fn (a b : N4) : FnOk Try.prog 106 [cN4.enc a, cN4.enc b] (cN4.enc (lessN a b)) :=
  FnOk.of_out (Γ := [sub64_con]) tys_ok mixed Try.func106 (n := 100) (orc := []) (cs := [(0 : Int).toNat ≤ 1, (lessB0 a b).toNat ≤ 1, (lessB1 a b).toNat ≤ 1, (lessB2 a b).toNat ≤ 1]) (by kernel_rfl)
    ⟨by decide, sub64B_le _ _ _, sub64B_le _ _ _, sub64B_le _ _ _, trivial⟩ rfl rfl
def sless_con : Con Try.prog := con2 106 Try.f106 Try.func106 (by kernel_rfl) (by kernel_rfl) (cN4) (cN4) (fun a b => cN4.enc (lessN a b)) (fun _ _ => []) (fun _ _ => rfl) (fun a b _ => sless_fn a b)
theorem sbytes_fn (a : N4) : FnOk Try.prog 72 [(cN4).enc a] (cB32.enc (bytes4 a)) :=
  FnOk.of_out (Γ := []) tys_ok mixed Try.func72 (n := 100) (orc := []) (cs := []) (by kernel_rfl) trivial rfl rfl
def sbytes_con : Con Try.prog := con1 72 Try.f72 Try.func72 (by kernel_rfl) (by kernel_rfl) (cN4) (fun a => cB32.enc (bytes4 a)) (fun _ => []) (fun _ => rfl) (fun a _ => sbytes_fn a)

/-! ### Sums below the order -/
def plusL (a b : N4) : N4 := match belowW (sumS a b) o4 with
  | true => sumS a b
  | false => lessN (sumS a b) o4
theorem splus_fn (a b : N4) (hp : Holds [N4Ok a, N4Ok b]) : FnOk Try.prog 73 [cN4.enc a, cN4.enc b] (cN4.enc (plusL a b)) := by
  obtain ⟨b0, b1, b2, b3, ok, e⟩ := sumS_val hp.1 hp.2.1
  unfold plusL
  cases h : belowW (sumS a b) o4 with
  | true =>
    exact FnOk.of_out (Γ := [add64_con, sbelow_con, sless_con, sorder_con]) tys_ok mixed Try.func73 (n := 100) (orc := [(27, [true])])
      (cs := [(0 : Int).toNat ≤ 1, (sum0 a b).toNat ≤ 1, (sum1 a b).toNat ≤ 1, (sum2 a b).toNat ≤ 1, belowW (sumS a b) o4 = true]) (by kernel_rfl)
      ⟨by decide, (word_bit b0).2, (word_bit b1).2, (word_bit b2).2, h, trivial⟩ rfl rfl
  | false =>
    exact FnOk.of_out (Γ := [add64_con, sbelow_con, sless_con, sorder_con]) tys_ok mixed Try.func73 (n := 100) (orc := [(27, [false])])
      (cs := [(0 : Int).toNat ≤ 1, (sum0 a b).toNat ≤ 1, (sum1 a b).toNat ≤ 1, (sum2 a b).toNat ≤ 1, belowW (sumS a b) o4 = false]) (by kernel_rfl)
      ⟨by decide, (word_bit b0).2, (word_bit b1).2, (word_bit b2).2, h, trivial⟩ rfl rfl
def splus_con : Con Try.prog := con2 73 Try.f73 Try.func73 (by kernel_rfl) (by kernel_rfl) (cN4) (cN4) (fun a b => cN4.enc (plusL a b)) (fun a b => [N4Ok a, N4Ok b]) (fun _ _ => rfl) (fun a b h => splus_fn a b h)
def ordI : Int := 7237005577332262213973186563042994240857116359379907606001950938285454250989
theorem o4_ok : N4Ok o4 := by unfold N4Ok Word; decide
theorem o4_val : N4V o4 = ordI := by decide
theorem plusL_ok {a b : N4} (ha : N4Ok a) (hb : N4Ok b) : N4Ok (plusL a b) := by
  obtain ⟨b0, b1, b2, b3, ok, e⟩ := sumS_val ha hb
  have hi := belowW_iff ok o4_ok
  unfold plusL
  cases h : belowW (sumS a b) o4 with
  | true => exact ok
  | false =>
    have : ¬ N4V (sumS a b) < N4V o4 := fun k => by rw [hi.2 k] at h; cases h
    exact (lessN_val ok o4_ok (by omega)).1
theorem plusL_val {a b : N4} (ha : N4Ok a) (hb : N4Ok b) (la : N4V a < ordI) (lb : N4V b < ordI) : N4V (plusL a b) = (N4V a + N4V b) % ordI := by
  obtain ⟨b0, b1, b2, b3, ok, e⟩ := sumS_val ha hb
  have hi := belowW_iff ok o4_ok
  rw [o4_val] at hi
  have va := N4V_lt ha
  have vb := N4V_lt hb
  have vs := N4V_lt ok
  have hl : ordI = 7237005577332262213973186563042994240857116359379907606001950938285454250989 := rfl
  have es : N4V (sumS a b) = N4V a + N4V b := by omega
  unfold plusL
  cases h : belowW (sumS a b) o4 with
  | true =>
    have := hi.1 h
    simp only
    rw [es]
    exact (Int.emod_eq_of_lt (by omega) (by omega)).symm
  | false =>
    have hn : ¬ N4V (sumS a b) < ordI := fun k => by rw [hi.2 k] at h; cases h
    simp only
    rw [(lessN_val ok o4_ok (by rw [o4_val]; omega)).2, o4_val, es]
    refine (Int.emod_eq_of_lt (a := N4V a + N4V b - ordI) (b := ordI) (by omega) (by omega)).symm.trans ?_
    exact Int.sub_emod_right _ _

/-! ### Bits -/
def bitB (b : B32) (j : Nat) : Bool := (bits .and .u8 (shrU (b.at (j / 8)) (j % 8)) 1) == 1
def bsum (f : Nat → Bool) : Nat → Nat
  | 0 => 0
  | k + 1 => bsum f k + 2 ^ k * (f k).toNat
theorem bsum_word (f : Nat → Bool) (s w : Nat) : ∀ n, (∀ t, t < n → f (s + t) = decide (w / 2 ^ t % 2 = 1)) → bsum f (s + n) = bsum f s + 2 ^ s * (w % 2 ^ n)
  | 0, _ => by simp [Nat.mod_one]
  | n + 1, h => by
    have ih := bsum_word f s w n fun t ht => h t (by omega)
    rw [← Nat.add_assoc, bsum, ih, h n (by omega), Nat.mod_pow_succ, Nat.pow_add]
    have hb : (decide (w / 2 ^ n % 2 = 1)).toNat = w / 2 ^ n % 2 := by
      have := Nat.mod_lt (w / 2 ^ n) (by decide : 0 < 2)
      by_cases hc : w / 2 ^ n % 2 = 1
      · rw [decide_eq_true hc, hc]; rfl
      · rw [decide_eq_false hc]
        show 0 = _
        omega
    rw [hb]
    grind
theorem and1 (x : Int) (h0 : 0 ≤ x) (h1 : x < 256) : bits .and .u8 x 1 = x % 2 :=
  bits_mask .u8 8 (by decide) (fun n h₀ h₁ => by rw [IntKind.wrap_u8]; omega) 1 (by decide) x h0 h1
theorem bitB_eq {b : B32} (hb : BOk b) (i t : Nat) (ht : t < 8) : bitB b (8 * i + t) = decide ((b.at i).toNat / 2 ^ t % 2 = 1) := by
  obtain ⟨h0, h1⟩ := hb i
  unfold bitB
  rw [show (8 * i + t) / 8 = i by omega, show (8 * i + t) % 8 = t by omega, shrU_eq]
  generalize b.at i = x at *
  obtain ⟨n, rfl⟩ := Int.eq_ofNat_of_zero_le h0
  have e : (n : Int) / 2 ^ t = ((n / 2 ^ t : Nat) : Int) := by simp
  have hle : n / 2 ^ t ≤ n := Nat.div_le_self _ _
  rw [e, Int.toNat_natCast]
  generalize n / 2 ^ t = q at *
  rw [and1 _ (by omega) (by omega)]
  have e2 : (q : Int) % 2 = ((q % 2 : Nat) : Int) := by simp
  rw [e2]
  by_cases hc : q % 2 = 1
  · rw [hc]; rfl
  · rw [decide_eq_false hc, beq_eq_false_iff_ne]
    omega
def byteSum (b : B32) : Nat → Nat
  | 0 => 0
  | k + 1 => byteSum b k + 256 ^ k * (b.at k).toNat
theorem bsum_bytes {b : B32} (hb : BOk b) : ∀ i, bsum (bitB b) (8 * i) = byteSum b i
  | 0 => by rw [Nat.mul_zero, bsum, byteSum]
  | i + 1 => by
    rw [Nat.mul_succ, bsum_word (bitB b) (8 * i) (b.at i).toNat 8 (fun t ht => bitB_eq hb i t ht), bsum_bytes hb i, byteSum]
    have h1 := (hb i).2
    have h0 := (hb i).1
    rw [Nat.mod_eq_of_lt (by omega), Nat.pow_mul]
end Go.Proofs.Ytmfobbdgmedhdaa

/- Package beaconref02: numbers of four words: what is below, less, least, bytes. -/
import Derived.Test.YtmfobbdgmedhdaaFRoots
namespace Go.Proofs.Ytmfobbdgmedhdaa
open Go Go.Eng
set_option linter.unusedVariables false
set_option maxRecDepth 100000

def p4 : N4 := ⟨18446744073709551597, 18446744073709551615, 18446744073709551615, 9223372036854775807⟩
def i4 : N4 := ⟨14190309331451158704, 3405592160176694392, 3120150775007532967, 3135389899092516619⟩
theorem rp_fn : FnOk Try.prog 62 [] (cN4.enc p4) :=
  FnOk.of_out (Γ := []) tys_ok mixed Try.func62 (n := 100) (orc := []) (cs := []) (by kernel_rfl) trivial rfl rfl
def rp_con : Con Try.prog := con0 62 Try.f62 Try.func62 (by kernel_rfl) (by kernel_rfl) (cN4.enc p4) [] rfl (fun _ => rp_fn)
theorem rI_fn : FnOk Try.prog 94 [] (cN4.enc i4) :=
  FnOk.of_out (Γ := []) tys_ok mixed Try.func94 (n := 100) (orc := []) (cs := []) (by kernel_rfl) trivial rfl rfl
def rI_con : Con Try.prog := con0 94 Try.f94 Try.func94 (by kernel_rfl) (by kernel_rfl) (cN4.enc i4) [] rfl (fun _ => rI_fn)
theorem rsmall_fn (n : Int) : FnOk Try.prog 59 [(cInt .u64).enc n] (cN4.enc ⟨n, 0, 0, 0⟩) :=
  FnOk.of_out (Γ := []) tys_ok mixed Try.func59 (n := 100) (orc := []) (cs := []) (by kernel_rfl) trivial rfl rfl
def rsmall_con : Con Try.prog := con1 59 Try.f59 Try.func59 (by kernel_rfl) (by kernel_rfl) (cInt .u64) (fun n => cN4.enc ⟨n, 0, 0, 0⟩) (fun _ => []) (fun _ => rfl) (fun n _ => rsmall_fn n)

def below0 (a b : N4) : Bool := match (a.l0 != b.l0) with
  | true => decide (a.l0 < b.l0)
  | false => false
def below1 (a b : N4) : Bool := match (a.l1 != b.l1) with
  | true => decide (a.l1 < b.l1)
  | false => below0 a b
def below2 (a b : N4) : Bool := match (a.l2 != b.l2) with
  | true => decide (a.l2 < b.l2)
  | false => below1 a b
def belowW (a b : N4) : Bool := match (a.l3 != b.l3) with
  | true => decide (a.l3 < b.l3)
  | false => below2 a b
theorem rbelow_fn (a b : N4) : FnOk Try.prog 61 [cN4.enc a, cN4.enc b] (cBool.enc (belowW a b)) := by
  unfold belowW
  cases h3 : (a.l3 != b.l3) with
  | true => exact FnOk.of_out (Γ := []) tys_ok mixed Try.func61 (n := 100) (orc := [(16, [true])]) (cs := [(a.l3 != b.l3) = true]) (by kernel_rfl) ⟨h3, trivial⟩ rfl rfl
  | false =>
    simp only
    unfold below2
    cases h2 : (a.l2 != b.l2) with
    | true => exact FnOk.of_out (Γ := []) tys_ok mixed Try.func61 (n := 100) (orc := [(16, [false, true])]) (cs := [(a.l3 != b.l3) = false, (a.l2 != b.l2) = true]) (by kernel_rfl) ⟨h3, h2, trivial⟩ rfl rfl
    | false =>
      simp only
      unfold below1
      cases h1 : (a.l1 != b.l1) with
      | true => exact FnOk.of_out (Γ := []) tys_ok mixed Try.func61 (n := 100) (orc := [(16, [false, false, true])]) (cs := [(a.l3 != b.l3) = false, (a.l2 != b.l2) = false, (a.l1 != b.l1) = true]) (by kernel_rfl) ⟨h3, h2, h1, trivial⟩ rfl rfl
      | false =>
        simp only
        unfold below0
        cases h0 : (a.l0 != b.l0) with
        | true => exact FnOk.of_out (Γ := []) tys_ok mixed Try.func61 (n := 100) (orc := [(16, [false, false, false, true])]) (cs := [(a.l3 != b.l3) = false, (a.l2 != b.l2) = false, (a.l1 != b.l1) = false, (a.l0 != b.l0) = true]) (by kernel_rfl) ⟨h3, h2, h1, h0, trivial⟩ rfl rfl
        | false => exact FnOk.of_out (Γ := []) tys_ok mixed Try.func61 (n := 100) (orc := [(16, [false, false, false, false])]) (cs := [(a.l3 != b.l3) = false, (a.l2 != b.l2) = false, (a.l1 != b.l1) = false, (a.l0 != b.l0) = false]) (by kernel_rfl) ⟨h3, h2, h1, h0, trivial⟩ rfl rfl
def rbelow_con : Con Try.prog := con2 61 Try.f61 Try.func61 (by kernel_rfl) (by kernel_rfl) (cN4) (cN4) (fun a b => cBool.enc (belowW a b)) (fun _ _ => []) (fun _ _ => rfl) (fun a b _ => rbelow_fn a b)

def lessB0 (a b : N4) : Int := sub64B a.l0 b.l0 0
def lessB1 (a b : N4) : Int := sub64B a.l1 b.l1 (lessB0 a b)
def lessB2 (a b : N4) : Int := sub64B a.l2 b.l2 (lessB1 a b)
def lessN (a b : N4) : N4 := ⟨sub64D a.l0 b.l0 0, sub64D a.l1 b.l1 (lessB0 a b), sub64D a.l2 b.l2 (lessB1 a b), sub64D a.l3 b.l3 (lessB2 a b)⟩
theorem sub64B_le (x y c : Int) : (sub64B x y c).toNat ≤ 1 := by unfold sub64B; split <;> decide
theorem rless_fn (a b : N4) : FnOk Try.prog 96 [cN4.enc a, cN4.enc b] (cN4.enc (lessN a b)) :=
  FnOk.of_out (Γ := [sub64_con]) tys_ok mixed Try.func96 (n := 100) (orc := []) (cs := [(0 : Int).toNat ≤ 1, (lessB0 a b).toNat ≤ 1, (lessB1 a b).toNat ≤ 1, (lessB2 a b).toNat ≤ 1]) (by kernel_rfl)
    ⟨by decide, sub64B_le _ _ _, sub64B_le _ _ _, sub64B_le _ _ _, trivial⟩ rfl rfl
def rless_con : Con Try.prog := con2 96 Try.f96 Try.func96 (by kernel_rfl) (by kernel_rfl) (cN4) (cN4) (fun a b => cN4.enc (lessN a b)) (fun _ _ => []) (fun _ _ => rfl) (fun a b _ => rless_fn a b)

/-! ### Their numbers -/
theorem belowW_iff {a b : N4} (ha : N4Ok a) (hb : N4Ok b) : belowW a b = true ↔ N4V a < N4V b := by
  obtain ⟨⟨a0, a1⟩, ⟨a2, a3⟩, ⟨a4, a5⟩, ⟨a6, a7⟩⟩ := ha
  obtain ⟨⟨b0, b1⟩, ⟨b2, b3⟩, ⟨b4, b5⟩, ⟨b6, b7⟩⟩ := hb
  unfold belowW N4V
  cases h3 : (a.l3 != b.l3) with
  | true =>
    simp only [bne_iff_ne, ne_eq, decide_eq_true_eq] at *
    omega
  | false =>
    simp only at *
    unfold below2
    cases h2 : (a.l2 != b.l2) with
    | true =>
      simp only [bne_iff_ne, bne_eq_false_iff_eq, ne_eq, decide_eq_true_eq] at *
      omega
    | false =>
      simp only at *
      unfold below1
      cases h1 : (a.l1 != b.l1) with
      | true =>
        simp only [bne_iff_ne, bne_eq_false_iff_eq, ne_eq, decide_eq_true_eq] at *
        omega
      | false =>
        simp only at *
        unfold below0
        cases h0 : (a.l0 != b.l0) with
        | true =>
          simp only [bne_iff_ne, bne_eq_false_iff_eq, ne_eq, decide_eq_true_eq] at *
          omega
        | false =>
          simp only [bne_eq_false_iff_eq, Bool.false_eq_true, false_iff] at *
          omega
theorem sub64_val {x y c : Int} (hx : Word x) (hy : Word y) (hc : c = 0 ∨ c = 1) : (sub64B x y c = 0 ∨ sub64B x y c = 1) ∧ Word (sub64D x y c) ∧ sub64D x y c = x - y - c + 18446744073709551616 * sub64B x y c := by
  obtain ⟨x0, x1⟩ := hx
  obtain ⟨y0, y1⟩ := hy
  rw [← sub64D_eq]
  unfold sub64D' sub64B Word
  simp only [Int.ofNat_eq_natCast]
  split <;> omega
theorem lessN_val {a b : N4} (ha : N4Ok a) (hb : N4Ok b) (h : N4V b ≤ N4V a) : N4Ok (lessN a b) ∧ N4V (lessN a b) = N4V a - N4V b := by
  obtain ⟨a0, a1, a2, a3⟩ := ha
  obtain ⟨b0, b1, b2, b3⟩ := hb
  obtain ⟨c0, w0, e0⟩ := sub64_val a0 b0 (.inl rfl)
  obtain ⟨c1, w1, e1⟩ := sub64_val a1 b1 c0
  obtain ⟨c2, w2, e2⟩ := sub64_val a2 b2 c1
  obtain ⟨c3, w3, e3⟩ := sub64_val a3 b3 c2
  refine ⟨⟨w0, w1, w2, w3⟩, ?_⟩
  unfold N4V at *
  unfold lessN lessB2 lessB1 lessB0
  simp only
  unfold Word at *
  omega
theorem p4_ok : N4Ok p4 := by unfold N4Ok Word; decide
theorem p4_val : N4V p4 = pP := by decide
theorem N4V_lt {a : N4} (ha : N4Ok a) : 0 ≤ N4V a ∧ N4V a < 115792089237316195423570985008687907853269984665640564039457584007913129639936 := by
  obtain ⟨⟨a0, a1⟩, ⟨a2, a3⟩, ⟨a4, a5⟩, ⟨a6, a7⟩⟩ := ha
  unfold N4V
  omega

def leastN2 (a : N4) : N4 := match belowW a p4 with
  | true => a
  | false => lessN a p4
def leastN (a : N4) : N4 := match belowW a p4 with
  | true => a
  | false => leastN2 (lessN a p4)
theorem leastN2_val {a : N4} (ha : N4Ok a) (h : N4V a < 2 * pP) : N4Ok (leastN2 a) ∧ N4V (leastN2 a) < pP ∧ N4V (leastN2 a) = N4V a % pP := by
  have hb := belowW_iff ha p4_ok
  rw [p4_val] at hb
  have h0 := N4V_lt ha
  unfold leastN2
  cases hc : belowW a p4 with
  | true =>
    have := hb.1 hc
    exact ⟨ha, this, (Int.emod_eq_of_lt h0.1 this).symm⟩
  | false =>
    have hle : pP ≤ N4V a := by
      have : ¬ N4V a < pP := fun h => by rw [hb.2 h] at hc; cases hc
      omega
    obtain ⟨h1, h2⟩ := lessN_val ha p4_ok (by rw [p4_val]; exact hle)
    rw [p4_val] at h2
    refine ⟨h1, by rw [h2]; omega, mod_unique (q := 1) (by rw [h2]; omega) (by rw [h2]; omega) (by rw [h2]; omega)⟩
theorem leastN_val {a : N4} (ha : N4Ok a) : N4Ok (leastN a) ∧ N4V (leastN a) < pP ∧ N4V (leastN a) = N4V a % pP := by
  have hb := belowW_iff ha p4_ok
  rw [p4_val] at hb
  have h0 := N4V_lt ha
  unfold leastN
  cases hc : belowW a p4 with
  | true =>
    have := hb.1 hc
    exact ⟨ha, this, (Int.emod_eq_of_lt h0.1 this).symm⟩
  | false =>
    have hle : pP ≤ N4V a := by
      have : ¬ N4V a < pP := fun h => by rw [hb.2 h] at hc; cases hc
      omega
    obtain ⟨h1, h2⟩ := lessN_val ha p4_ok (by rw [p4_val]; exact hle)
    rw [p4_val] at h2
    by_cases hlt : N4V (lessN a p4) < 2 * pP
    · obtain ⟨k1, k2, k3⟩ := leastN2_val h1 hlt
      refine ⟨k1, k2, ?_⟩
      rw [k3, h2, Int.sub_emod_right]
    · exfalso
      unfold pP at *
      omega
end Go.Proofs.Ytmfobbdgmedhdaa

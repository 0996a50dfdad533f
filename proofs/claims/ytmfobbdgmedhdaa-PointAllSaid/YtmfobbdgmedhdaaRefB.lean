/- Package beaconref02: sums, differences, products. -/
import Derived.Test.YtmfobbdgmedhdaaRefA
namespace Go.Proofs.Ytmfobbdgmedhdaa
open Go Go.Eng
set_option linter.unusedVariables false
set_option maxRecDepth 100000

theorem rleast_fn (a : N4) (hp : Holds [N4Ok a]) : FnOk Try.prog 95 [cN4.enc a] (cN4.enc (leastN a)) := by
  have ha : N4Ok a := hp.1
  have hb := belowW_iff ha p4_ok
  rw [p4_val] at hb
  have h0 := N4V_lt ha
  unfold leastN
  cases hc : belowW a p4 with
  | true => exact FnOk.of_out (Γ := [rp_con, rbelow_con, rless_con]) tys_ok mixed Try.func95 (n := 100) (orc := [(5, [true])]) (cs := [belowW a p4 = true]) (by kernel_rfl) ⟨hc, trivial⟩ rfl rfl
  | false =>
    have hle : pP ≤ N4V a := by
      have : ¬ N4V a < pP := fun h => by rw [hb.2 h] at hc; cases hc
      omega
    obtain ⟨h1, h2⟩ := lessN_val ha p4_ok (by rw [p4_val]; exact hle)
    rw [p4_val] at h2
    simp only
    unfold leastN2
    cases hd : belowW (lessN a p4) p4 with
    | true => exact FnOk.of_out (Γ := [rp_con, rbelow_con, rless_con]) tys_ok mixed Try.func95 (n := 100) (orc := [(5, [false, true])]) (cs := [belowW a p4 = false, belowW (lessN a p4) p4 = true]) (by kernel_rfl) ⟨hc, hd, trivial⟩ rfl rfl
    | false =>
      have hb1 := belowW_iff h1 p4_ok
      rw [p4_val] at hb1
      have hle1 : pP ≤ N4V (lessN a p4) := by
        have : ¬ N4V (lessN a p4) < pP := fun h => by rw [hb1.2 h] at hd; cases hd
        omega
      obtain ⟨h3, h4⟩ := lessN_val h1 p4_ok (by rw [p4_val]; exact hle1)
      rw [p4_val] at h4
      have hb2 := belowW_iff h3 p4_ok
      rw [p4_val] at hb2
      have he : belowW (lessN (lessN a p4) p4) p4 = true := hb2.2 (by unfold pP at *; omega)
      exact FnOk.of_out (Γ := [rp_con, rbelow_con, rless_con]) tys_ok mixed Try.func95 (n := 100) (orc := [(5, [false, false, true])])
        (cs := [belowW a p4 = false, belowW (lessN a p4) p4 = false, belowW (lessN (lessN a p4) p4) p4 = true]) (by kernel_rfl) ⟨hc, hd, he, trivial⟩ rfl rfl
def rleast_con : Con Try.prog := con1 95 Try.f95 Try.func95 (by kernel_rfl) (by kernel_rfl) (cN4) (fun a => cN4.enc (leastN a)) (fun a => [N4Ok a]) (fun _ => rfl) (fun a h => rleast_fn a h)

theorem rbytes_fn (a : N4) (hp : Holds [N4Ok a]) : FnOk Try.prog 60 [cN4.enc a] (cB32.enc (bytes4 (leastN a))) :=
  FnOk.of_out (Γ := [rleast_con]) tys_ok mixed Try.func60 (n := 100) (orc := []) (cs := [N4Ok a]) (by kernel_rfl) hp rfl rfl
def rbytes_con : Con Try.prog := con1 60 Try.f60 Try.func60 (by kernel_rfl) (by kernel_rfl) (cN4) (fun a => cB32.enc (bytes4 (leastN a))) (fun a => [N4Ok a]) (fun _ => rfl) (fun a h => rbytes_fn a h)

def word8R (b : B32) (k : Nat) : Int :=
  let s (acc : Int) (i : Nat) : Int := orU acc (shlU (IntKind.u64.wrap (b.at (k + i))) (8 * i))
  s (s (s (s (s (s (s (s 0 0) 1) 2) 3) 4) 5) 6) 7
def fromN (b : B32) : N4 := ⟨word8R b 0, word8R b 8, word8R b 16, word8R b 24⟩
theorem rfrom_fn (b : B32) : FnOk Try.prog 57 [(cB32).enc b] (cN4.enc (fromN b)) :=
  FnOk.of_out (Γ := []) tys_ok mixed Try.func57 (n := 100) (orc := []) (cs := []) (by kernel_rfl) trivial rfl rfl
def rfrom_con : Con Try.prog := con1 57 Try.f57 Try.func57 (by kernel_rfl) (by kernel_rfl) (cB32) (fun b => cN4.enc (fromN b)) (fun _ => []) (fun _ => rfl) (fun b _ => rfrom_fn b)

/-! ### fold -/
def fold0 (n : N4) (h : Int) : Int := add64C n.l0 (mulU h 38) 0
def fold1 (n : N4) (h : Int) : Int := add64C n.l1 (mulHi h 38) (fold0 n h)
def fold2 (n : N4) (h : Int) : Int := add64C n.l2 0 (fold1 n h)
def foldH (n : N4) (h : Int) : Int := add64C n.l3 0 (fold2 n h)
def foldS (n : N4) (h : Int) : N4 := ⟨add64S n.l0 (mulU h 38) 0, add64S n.l1 (mulHi h 38) (fold0 n h), add64S n.l2 0 (fold1 n h), add64S n.l3 0 (fold2 n h)⟩
theorem add64_val {x y c : Int} (hx : Word x) (hy : Word y) (hc : c = 0 ∨ c = 1) : (add64C x y c = 0 ∨ add64C x y c = 1) ∧ Word (add64S x y c) ∧ add64S x y c + 18446744073709551616 * add64C x y c = x + y + c := by
  obtain ⟨x0, x1⟩ := hx
  obtain ⟨y0, y1⟩ := hy
  unfold add64S add64C Word
  simp only [Int.ofNat_eq_natCast]
  omega
theorem word0 : Word 0 := ⟨by decide, by decide⟩
theorem foldS_val {n : N4} {h : Int} (hn : N4Ok n) (hh : Word h) : (fold0 n h = 0 ∨ fold0 n h = 1) ∧ (fold1 n h = 0 ∨ fold1 n h = 1) ∧ (fold2 n h = 0 ∨ fold2 n h = 1) ∧ (foldH n h = 0 ∨ foldH n h = 1) ∧
    N4Ok (foldS n h) ∧ N4V (foldS n h) + 115792089237316195423570985008687907853269984665640564039457584007913129639936 * foldH n h = N4V n + 38 * h := by
  obtain ⟨n0, n1, n2, n3⟩ := hn
  have hm := mul64_lo_hi h 38 hh ⟨by decide, by decide⟩
  have hl := mulU_eq h 38
  have wl : Word (mulU h 38) := by rw [hl]; exact ⟨Int.emod_nonneg _ (by decide), Int.emod_lt_of_pos _ (by decide)⟩
  have wh : Word (mulHi h 38) := by rw [hm]; unfold Word at *; omega
  obtain ⟨c0, w0, e0⟩ := add64_val n0 wl (.inl rfl)
  obtain ⟨c1, w1, e1⟩ := add64_val n1 wh c0
  obtain ⟨c2, w2, e2⟩ := add64_val n2 word0 c1
  obtain ⟨c3, w3, e3⟩ := add64_val n3 word0 c2
  refine ⟨c0, c1, c2, c3, ⟨w0, w1, w2, w3⟩, ?_⟩
  unfold N4V
  unfold foldS foldH fold2 fold1 fold0 at *
  simp only
  unfold Word at *
  omega
theorem word_bit {c : Int} (h : c = 0 ∨ c = 1) : Word c ∧ c.toNat ≤ 1 := by unfold Word; omega
def foldN (n : N4) (h : Int) : N4 := match (h != 0) with
  | false => n
  | true => match (foldH n h != 0) with
    | false => foldS n h
    | true => foldS (foldS n h) (foldH n h)
theorem foldH2 {n : N4} {h : Int} (hn : N4Ok n) (hh : Word h) (h1 : foldH n h ≠ 0) : foldH (foldS n h) (foldH n h) = 0 := by
  obtain ⟨_, _, _, c3, ok, e⟩ := foldS_val hn hh
  obtain ⟨_, _, _, d3, ok2, e2⟩ := foldS_val ok (word_bit c3).1
  have k1 := N4V_lt hn
  have k2 := N4V_lt ok
  have k3 := N4V_lt ok2
  unfold Word at hh
  omega
theorem foldN_val {n : N4} {h : Int} (hn : N4Ok n) (hh : Word h) : N4Ok (foldN n h) ∧ N4V (foldN n h) % pP = (N4V n + 38 * h) % pP := by
  unfold foldN
  cases h0 : (h != 0) with
  | false =>
    have : h = 0 := by simpa using h0
    subst this
    exact ⟨hn, by rw [Int.mul_zero, Int.add_zero]⟩
  | true =>
    obtain ⟨_, _, _, c3, ok, e⟩ := foldS_val hn hh
    simp only
    cases h1 : (foldH n h != 0) with
    | false =>
      have hz : foldH n h = 0 := by simpa using h1
      rw [hz, Int.mul_zero, Int.add_zero] at e
      exact ⟨ok, by rw [e]⟩
    | true =>
      have hne : foldH n h ≠ 0 := by simpa using h1
      obtain ⟨_, _, _, d3, ok2, e2⟩ := foldS_val ok (word_bit c3).1
      rw [foldH2 hn hh hne, Int.mul_zero, Int.add_zero] at e2
      refine ⟨ok2, ?_⟩
      simp only
      rw [e2, eqm]
      exact ⟨-2 * foldH n h, by unfold pP; omega⟩
theorem rfold_fn (n : N4) (x : Int) (hp : Holds [N4Ok n, Word x]) : FnOk Try.prog 98 [cN4.enc n, (cInt .u64).enc x] (cN4.enc (foldN n x)) := by
  have hn : N4Ok n := hp.1
  have hh : Word x := hp.2.1
  obtain ⟨b0, b1, b2, b3, ok, e⟩ := foldS_val hn hh
  have z : (0 : Int).toNat ≤ 1 := by decide
  unfold foldN
  cases h0 : (x != 0) with
  | false => exact FnOk.of_out (Γ := [mul64_con, add64_con]) tys_ok mixed Try.func98 (n := 100) (orc := [(9, [false])]) (cs := [(x != 0) = false]) (by kernel_rfl) ⟨h0, trivial⟩ rfl rfl
  | true =>
    simp only
    cases h1 : (foldH n x != 0) with
    | false =>
      exact FnOk.of_out (Γ := [mul64_con, add64_con]) tys_ok mixed Try.func98 (n := 100) (orc := [(9, [true, false])])
        (cs := [(x != 0) = true, (0 : Int).toNat ≤ 1, (fold0 n x).toNat ≤ 1, (fold1 n x).toNat ≤ 1, (fold2 n x).toNat ≤ 1, (foldH n x != 0) = false]) (by kernel_rfl)
        ⟨h0, z, (word_bit b0).2, (word_bit b1).2, (word_bit b2).2, h1, trivial⟩ rfl rfl
    | true =>
      have hne : foldH n x ≠ 0 := by simpa using h1
      obtain ⟨d0, d1, d2, d3, ok2, e2⟩ := foldS_val ok (word_bit b3).1
      have h2 : (foldH (foldS n x) (foldH n x) != 0) = false := by rw [foldH2 hn hh hne]; rfl
      exact FnOk.of_out (Γ := [mul64_con, add64_con]) tys_ok mixed Try.func98 (n := 100) (orc := [(9, [true, true, false])])
        (cs := [(x != 0) = true, (0 : Int).toNat ≤ 1, (fold0 n x).toNat ≤ 1, (fold1 n x).toNat ≤ 1, (fold2 n x).toNat ≤ 1, (foldH n x != 0) = true,
          (0 : Int).toNat ≤ 1, (fold0 (foldS n x) (foldH n x)).toNat ≤ 1, (fold1 (foldS n x) (foldH n x)).toNat ≤ 1, (fold2 (foldS n x) (foldH n x)).toNat ≤ 1, (foldH (foldS n x) (foldH n x) != 0) = false]) (by kernel_rfl)
        ⟨h0, z, (word_bit b0).2, (word_bit b1).2, (word_bit b2).2, h1, z, (word_bit d0).2, (word_bit d1).2, (word_bit d2).2, h2, trivial⟩ rfl rfl
def rfold_con : Con Try.prog := con2 98 Try.f98 Try.func98 (by kernel_rfl) (by kernel_rfl) (cN4) (cInt .u64) (fun n x => cN4.enc (foldN n x)) (fun n x => [N4Ok n, Word x]) (fun _ _ => rfl) (fun n x h => rfold_fn n x h)

/-! ### Plus, Minus -/
def sum0 (a b : N4) : Int := add64C a.l0 b.l0 0
def sum1 (a b : N4) : Int := add64C a.l1 b.l1 (sum0 a b)
def sum2 (a b : N4) : Int := add64C a.l2 b.l2 (sum1 a b)
def sumH (a b : N4) : Int := add64C a.l3 b.l3 (sum2 a b)
def sumS (a b : N4) : N4 := ⟨add64S a.l0 b.l0 0, add64S a.l1 b.l1 (sum0 a b), add64S a.l2 b.l2 (sum1 a b), add64S a.l3 b.l3 (sum2 a b)⟩
theorem sumS_val {a b : N4} (ha : N4Ok a) (hb : N4Ok b) : (sum0 a b = 0 ∨ sum0 a b = 1) ∧ (sum1 a b = 0 ∨ sum1 a b = 1) ∧ (sum2 a b = 0 ∨ sum2 a b = 1) ∧ (sumH a b = 0 ∨ sumH a b = 1) ∧
    N4Ok (sumS a b) ∧ N4V (sumS a b) + 115792089237316195423570985008687907853269984665640564039457584007913129639936 * sumH a b = N4V a + N4V b := by
  obtain ⟨n0, n1, n2, n3⟩ := ha
  obtain ⟨m0, m1, m2, m3⟩ := hb
  obtain ⟨c0, w0, e0⟩ := add64_val n0 m0 (.inl rfl)
  obtain ⟨c1, w1, e1⟩ := add64_val n1 m1 c0
  obtain ⟨c2, w2, e2⟩ := add64_val n2 m2 c1
  obtain ⟨c3, w3, e3⟩ := add64_val n3 m3 c2
  refine ⟨c0, c1, c2, c3, ⟨w0, w1, w2, w3⟩, ?_⟩
  unfold N4V
  unfold sumS sumH sum2 sum1 sum0 at *
  simp only
  unfold Word at *
  omega
def plusN (a b : N4) : N4 := foldN (sumS a b) (sumH a b)
theorem plusN_val {a b : N4} (ha : N4Ok a) (hb : N4Ok b) : N4Ok (plusN a b) ∧ N4V (plusN a b) % pP = (N4V a + N4V b) % pP := by
  obtain ⟨_, _, _, c, ok, e⟩ := sumS_val ha hb
  obtain ⟨h1, h2⟩ := foldN_val ok (word_bit c).1
  refine ⟨h1, ?_⟩
  unfold plusN
  rw [h2, eqm]
  exact ⟨-2 * sumH a b, by unfold pP; omega⟩
theorem rplus_fn (a b : N4) (hp : Holds [N4Ok a, N4Ok b]) : FnOk Try.prog 63 [cN4.enc a, cN4.enc b] (cN4.enc (plusN a b)) := by
  obtain ⟨b0, b1, b2, b3, ok, e⟩ := sumS_val hp.1 hp.2.1
  exact FnOk.of_out (Γ := [add64_con, rfold_con]) tys_ok mixed Try.func63 (n := 100) (orc := [])
    (cs := [(0 : Int).toNat ≤ 1, (sum0 a b).toNat ≤ 1, (sum1 a b).toNat ≤ 1, (sum2 a b).toNat ≤ 1, N4Ok (sumS a b), Word (sumH a b)]) (by kernel_rfl)
    ⟨by decide, (word_bit b0).2, (word_bit b1).2, (word_bit b2).2, ok, (word_bit b3).1, trivial⟩ rfl rfl
def rplus_con : Con Try.prog := con2 63 Try.f63 Try.func63 (by kernel_rfl) (by kernel_rfl) (cN4) (cN4) (fun a b => cN4.enc (plusN a b)) (fun a b => [N4Ok a, N4Ok b]) (fun _ _ => rfl) (fun a b h => rplus_fn a b h)

def minusN (a b : N4) : N4 := plusN a (lessN p4 (leastN b))
theorem negN_val {b : N4} (hb : N4Ok b) : N4Ok (lessN p4 (leastN b)) ∧ N4V (lessN p4 (leastN b)) = pP - N4V b % pP := by
  obtain ⟨h1, h2, h3⟩ := leastN_val hb
  obtain ⟨h4, h5⟩ := lessN_val p4_ok h1 (by rw [p4_val]; omega)
  rw [p4_val, h3] at h5
  exact ⟨h4, h5⟩
theorem minusN_val {a b : N4} (ha : N4Ok a) (hb : N4Ok b) : N4Ok (minusN a b) ∧ N4V (minusN a b) % pP = (N4V a - N4V b) % pP := by
  obtain ⟨h1, h2⟩ := negN_val hb
  obtain ⟨h3, h4⟩ := plusN_val ha h1
  refine ⟨h3, ?_⟩
  unfold minusN
  rw [h4, h2, eqm]
  have := Int.mul_ediv_add_emod (N4V b) pP
  refine ⟨N4V b / pP + 1, ?_⟩
  rw [Int.add_mul, Int.one_mul, Int.mul_comm (N4V b / pP)]
  omega
theorem rminus_fn (a b : N4) (hp : Holds [N4Ok a, N4Ok b]) : FnOk Try.prog 58 [cN4.enc a, cN4.enc b] (cN4.enc (minusN a b)) := by
  obtain ⟨h1, h2⟩ := negN_val hp.2.1
  exact FnOk.of_out (Γ := [rp_con, rleast_con, rless_con, rplus_con]) tys_ok mixed Try.func58 (n := 100) (orc := [])
    (cs := [N4Ok b, N4Ok a, N4Ok (lessN p4 (leastN b))]) (by kernel_rfl) ⟨hp.2.1, hp.1, h1, trivial⟩ rfl rfl
def rminus_con : Con Try.prog := con2 58 Try.f58 Try.func58 (by kernel_rfl) (by kernel_rfl) (cN4) (cN4) (fun a b => cN4.enc (minusN a b)) (fun a b => [N4Ok a, N4Ok b]) (fun _ _ => rfl) (fun a b h => rminus_fn a b h)
theorem rcanonical_fn (a : B32) : FnOk Try.prog 22 [(cB32).enc a] (cBool.enc (belowW (fromN a) p4)) :=
  FnOk.of_out (Γ := [rfrom_con, rp_con, rbelow_con]) tys_ok mixed Try.func22 (n := 100) (orc := []) (cs := []) (by kernel_rfl) trivial rfl rfl
def rcanonical_con : Con Try.prog := con1 22 Try.f22 Try.func22 (by kernel_rfl) (by kernel_rfl) (cB32) (fun a => cBool.enc (belowW (fromN a) p4)) (fun _ => []) (fun _ => rfl) (fun a _ => rcanonical_fn a)
end Go.Proofs.Ytmfobbdgmedhdaa

/- Package beaconref02: the product, word for word. -/
import Derived.Test.YtmfobbdgmedhdaaRefB
namespace Go.Proofs.Ytmfobbdgmedhdaa
open Go Go.Eng
set_option linter.unusedVariables false
set_option maxRecDepth 100000

theorem rtimes_walk (a b : N4) (x00 y00 x01 y01 x02 y02 x03 y03 x10 y10 x11 y11 x12 y12 x13 y13 x20 y20 x21 y21 x22 y22 x23 y23 x30 y30 x31 y31 x32 y32 x33 y33 l0 g0 o0 c0 l1 g1 o1 c1 l2 g2 o2 c2 l3 g3 o3 c3 : Int) (hx00 : add64S (add64S (mulU a.l0 b.l0) 0 0) 0 0 = x00) (hy00 : addU (addU (mulHi a.l0 b.l0) (add64C (mulU a.l0 b.l0) 0 0)) (add64C (add64S (mulU a.l0 b.l0) 0 0) 0 0) = y00) (hx01 : add64S (add64S (mulU a.l0 b.l1) 0 0) y00 0 = x01) (hy01 : addU (addU (mulHi a.l0 b.l1) (add64C (mulU a.l0 b.l1) 0 0)) (add64C (add64S (mulU a.l0 b.l1) 0 0) y00 0) = y01) (hx02 : add64S (add64S (mulU a.l0 b.l2) 0 0) y01 0 = x02) (hy02 : addU (addU (mulHi a.l0 b.l2) (add64C (mulU a.l0 b.l2) 0 0)) (add64C (add64S (mulU a.l0 b.l2) 0 0) y01 0) = y02) (hx03 : add64S (add64S (mulU a.l0 b.l3) 0 0) y02 0 = x03) (hy03 : addU (addU (mulHi a.l0 b.l3) (add64C (mulU a.l0 b.l3) 0 0)) (add64C (add64S (mulU a.l0 b.l3) 0 0) y02 0) = y03) (hx10 : add64S (add64S (mulU a.l1 b.l0) x01 0) 0 0 = x10) (hy10 : addU (addU (mulHi a.l1 b.l0) (add64C (mulU a.l1 b.l0) x01 0)) (add64C (add64S (mulU a.l1 b.l0) x01 0) 0 0) = y10) (hx11 : add64S (add64S (mulU a.l1 b.l1) x02 0) y10 0 = x11) (hy11 : addU (addU (mulHi a.l1 b.l1) (add64C (mulU a.l1 b.l1) x02 0)) (add64C (add64S (mulU a.l1 b.l1) x02 0) y10 0) = y11) (hx12 : add64S (add64S (mulU a.l1 b.l2) x03 0) y11 0 = x12) (hy12 : addU (addU (mulHi a.l1 b.l2) (add64C (mulU a.l1 b.l2) x03 0)) (add64C (add64S (mulU a.l1 b.l2) x03 0) y11 0) = y12) (hx13 : add64S (add64S (mulU a.l1 b.l3) y03 0) y12 0 = x13) (hy13 : addU (addU (mulHi a.l1 b.l3) (add64C (mulU a.l1 b.l3) y03 0)) (add64C (add64S (mulU a.l1 b.l3) y03 0) y12 0) = y13) (hx20 : add64S (add64S (mulU a.l2 b.l0) x11 0) 0 0 = x20) (hy20 : addU (addU (mulHi a.l2 b.l0) (add64C (mulU a.l2 b.l0) x11 0)) (add64C (add64S (mulU a.l2 b.l0) x11 0) 0 0) = y20) (hx21 : add64S (add64S (mulU a.l2 b.l1) x12 0) y20 0 = x21) (hy21 : addU (addU (mulHi a.l2 b.l1) (add64C (mulU a.l2 b.l1) x12 0)) (add64C (add64S (mulU a.l2 b.l1) x12 0) y20 0) = y21) (hx22 : add64S (add64S (mulU a.l2 b.l2) x13 0) y21 0 = x22) (hy22 : addU (addU (mulHi a.l2 b.l2) (add64C (mulU a.l2 b.l2) x13 0)) (add64C (add64S (mulU a.l2 b.l2) x13 0) y21 0) = y22) (hx23 : add64S (add64S (mulU a.l2 b.l3) y13 0) y22 0 = x23) (hy23 : addU (addU (mulHi a.l2 b.l3) (add64C (mulU a.l2 b.l3) y13 0)) (add64C (add64S (mulU a.l2 b.l3) y13 0) y22 0) = y23) (hx30 : add64S (add64S (mulU a.l3 b.l0) x21 0) 0 0 = x30) (hy30 : addU (addU (mulHi a.l3 b.l0) (add64C (mulU a.l3 b.l0) x21 0)) (add64C (add64S (mulU a.l3 b.l0) x21 0) 0 0) = y30) (hx31 : add64S (add64S (mulU a.l3 b.l1) x22 0) y30 0 = x31) (hy31 : addU (addU (mulHi a.l3 b.l1) (add64C (mulU a.l3 b.l1) x22 0)) (add64C (add64S (mulU a.l3 b.l1) x22 0) y30 0) = y31) (hx32 : add64S (add64S (mulU a.l3 b.l2) x23 0) y31 0 = x32) (hy32 : addU (addU (mulHi a.l3 b.l2) (add64C (mulU a.l3 b.l2) x23 0)) (add64C (add64S (mulU a.l3 b.l2) x23 0) y31 0) = y32) (hx33 : add64S (add64S (mulU a.l3 b.l3) y23 0) y32 0 = x33) (hy33 : addU (addU (mulHi a.l3 b.l3) (add64C (mulU a.l3 b.l3) y23 0)) (add64C (add64S (mulU a.l3 b.l3) y23 0) y32 0) = y33) (hl0 : add64S (mulU x31 38) 0 0 = l0) (hg0 : addU (mulHi x31 38) (add64C (mulU x31 38) 0 0) = g0) (ho0 : add64S x00 l0 0 = o0) (hc0 : add64C x00 l0 0 = c0) (hl1 : add64S (mulU x32 38) g0 0 = l1) (hg1 : addU (mulHi x32 38) (add64C (mulU x32 38) g0 0) = g1) (ho1 : add64S x10 l1 c0 = o1) (hc1 : add64C x10 l1 c0 = c1) (hl2 : add64S (mulU x33 38) g1 0 = l2) (hg2 : addU (mulHi x33 38) (add64C (mulU x33 38) g1 0) = g2) (ho2 : add64S x20 l2 c1 = o2) (hc2 : add64C x20 l2 c1 = c2) (hl3 : add64S (mulU y33 38) g2 0 = l3) (hg3 : addU (mulHi y33 38) (add64C (mulU y33 38) g2 0) = g3) (ho3 : add64S x30 l3 c2 = o3) (hc3 : add64C x30 l3 c2 = c3) (kc0 : c0.toNat ≤ 1) (kc1 : c1.toNat ≤ 1) (kc2 : c2.toNat ≤ 1) (hok : N4Ok ⟨o0, o1, o2, o3⟩) (hw : Word (addU g3 c3)) :
    FnOk Try.prog 64 [cN4.enc a, cN4.enc b] (cN4.enc (foldN ⟨o0, o1, o2, o3⟩ (addU g3 c3))) :=
  have z : (0 : Int).toNat ≤ 1 := by decide
  FnOk.of_out (Γ := [mul64_con, add64_con, rfold_con]) tys_ok mixed Try.func64 (n := 100)
    (orc := [(52, [.n x00, .n x01, .n x02, .n x03, .n x10, .n x11, .n x12, .n x13, .n x20, .n x21, .n x22, .n x23, .n x30, .n x31, .n x32, .n x33]), (56, [.n y00, .n y01, .n y02, .n y03, .n y10, .n y11, .n y12, .n y13, .n y20, .n y21, .n y22, .n y23, .n y30, .n y31, .n y32, .n y33]), (93, [.n l0, .n l1, .n l2, .n l3]), (97, [.n g0, .n g1, .n g2, .n g3]), (106, [.n o0, .n o1, .n o2, .n o3]), (107, [.n c0, .n c1, .n c2, .n c3])])
    (cs := [(0 : Int).toNat ≤ 1, (0 : Int).toNat ≤ 1, add64S (add64S (mulU a.l0 b.l0) 0 0) 0 0 = x00, addU (addU (mulHi a.l0 b.l0) (add64C (mulU a.l0 b.l0) 0 0)) (add64C (add64S (mulU a.l0 b.l0) 0 0) 0 0) = y00, (0 : Int).toNat ≤ 1, (0 : Int).toNat ≤ 1, add64S (add64S (mulU a.l0 b.l1) 0 0) y00 0 = x01, addU (addU (mulHi a.l0 b.l1) (add64C (mulU a.l0 b.l1) 0 0)) (add64C (add64S (mulU a.l0 b.l1) 0 0) y00 0) = y01, (0 : Int).toNat ≤ 1, (0 : Int).toNat ≤ 1, add64S (add64S (mulU a.l0 b.l2) 0 0) y01 0 = x02, addU (addU (mulHi a.l0 b.l2) (add64C (mulU a.l0 b.l2) 0 0)) (add64C (add64S (mulU a.l0 b.l2) 0 0) y01 0) = y02, (0 : Int).toNat ≤ 1, (0 : Int).toNat ≤ 1, add64S (add64S (mulU a.l0 b.l3) 0 0) y02 0 = x03, addU (addU (mulHi a.l0 b.l3) (add64C (mulU a.l0 b.l3) 0 0)) (add64C (add64S (mulU a.l0 b.l3) 0 0) y02 0) = y03, (0 : Int).toNat ≤ 1, (0 : Int).toNat ≤ 1, add64S (add64S (mulU a.l1 b.l0) x01 0) 0 0 = x10, addU (addU (mulHi a.l1 b.l0) (add64C (mulU a.l1 b.l0) x01 0)) (add64C (add64S (mulU a.l1 b.l0) x01 0) 0 0) = y10, (0 : Int).toNat ≤ 1, (0 : Int).toNat ≤ 1, add64S (add64S (mulU a.l1 b.l1) x02 0) y10 0 = x11, addU (addU (mulHi a.l1 b.l1) (add64C (mulU a.l1 b.l1) x02 0)) (add64C (add64S (mulU a.l1 b.l1) x02 0) y10 0) = y11, (0 : Int).toNat ≤ 1, (0 : Int).toNat ≤ 1, add64S (add64S (mulU a.l1 b.l2) x03 0) y11 0 = x12, addU (addU (mulHi a.l1 b.l2) (add64C (mulU a.l1 b.l2) x03 0)) (add64C (add64S (mulU a.l1 b.l2) x03 0) y11 0) = y12, (0 : Int).toNat ≤ 1, (0 : Int).toNat ≤ 1, add64S (add64S (mulU a.l1 b.l3) y03 0) y12 0 = x13, addU (addU (mulHi a.l1 b.l3) (add64C (mulU a.l1 b.l3) y03 0)) (add64C (add64S (mulU a.l1 b.l3) y03 0) y12 0) = y13, (0 : Int).toNat ≤ 1, (0 : Int).toNat ≤ 1, add64S (add64S (mulU a.l2 b.l0) x11 0) 0 0 = x20, addU (addU (mulHi a.l2 b.l0) (add64C (mulU a.l2 b.l0) x11 0)) (add64C (add64S (mulU a.l2 b.l0) x11 0) 0 0) = y20, (0 : Int).toNat ≤ 1, (0 : Int).toNat ≤ 1, add64S (add64S (mulU a.l2 b.l1) x12 0) y20 0 = x21, addU (addU (mulHi a.l2 b.l1) (add64C (mulU a.l2 b.l1) x12 0)) (add64C (add64S (mulU a.l2 b.l1) x12 0) y20 0) = y21, (0 : Int).toNat ≤ 1, (0 : Int).toNat ≤ 1, add64S (add64S (mulU a.l2 b.l2) x13 0) y21 0 = x22, addU (addU (mulHi a.l2 b.l2) (add64C (mulU a.l2 b.l2) x13 0)) (add64C (add64S (mulU a.l2 b.l2) x13 0) y21 0) = y22, (0 : Int).toNat ≤ 1, (0 : Int).toNat ≤ 1, add64S (add64S (mulU a.l2 b.l3) y13 0) y22 0 = x23, addU (addU (mulHi a.l2 b.l3) (add64C (mulU a.l2 b.l3) y13 0)) (add64C (add64S (mulU a.l2 b.l3) y13 0) y22 0) = y23, (0 : Int).toNat ≤ 1, (0 : Int).toNat ≤ 1, add64S (add64S (mulU a.l3 b.l0) x21 0) 0 0 = x30, addU (addU (mulHi a.l3 b.l0) (add64C (mulU a.l3 b.l0) x21 0)) (add64C (add64S (mulU a.l3 b.l0) x21 0) 0 0) = y30, (0 : Int).toNat ≤ 1, (0 : Int).toNat ≤ 1, add64S (add64S (mulU a.l3 b.l1) x22 0) y30 0 = x31, addU (addU (mulHi a.l3 b.l1) (add64C (mulU a.l3 b.l1) x22 0)) (add64C (add64S (mulU a.l3 b.l1) x22 0) y30 0) = y31, (0 : Int).toNat ≤ 1, (0 : Int).toNat ≤ 1, add64S (add64S (mulU a.l3 b.l2) x23 0) y31 0 = x32, addU (addU (mulHi a.l3 b.l2) (add64C (mulU a.l3 b.l2) x23 0)) (add64C (add64S (mulU a.l3 b.l2) x23 0) y31 0) = y32, (0 : Int).toNat ≤ 1, (0 : Int).toNat ≤ 1, add64S (add64S (mulU a.l3 b.l3) y23 0) y32 0 = x33, addU (addU (mulHi a.l3 b.l3) (add64C (mulU a.l3 b.l3) y23 0)) (add64C (add64S (mulU a.l3 b.l3) y23 0) y32 0) = y33, (0 : Int).toNat ≤ 1, add64S (mulU x31 38) 0 0 = l0, addU (mulHi x31 38) (add64C (mulU x31 38) 0 0) = g0, (0 : Int).toNat ≤ 1, add64S x00 l0 0 = o0, add64C x00 l0 0 = c0, (0 : Int).toNat ≤ 1, add64S (mulU x32 38) g0 0 = l1, addU (mulHi x32 38) (add64C (mulU x32 38) g0 0) = g1, c0.toNat ≤ 1, add64S x10 l1 c0 = o1, add64C x10 l1 c0 = c1, (0 : Int).toNat ≤ 1, add64S (mulU x33 38) g1 0 = l2, addU (mulHi x33 38) (add64C (mulU x33 38) g1 0) = g2, c1.toNat ≤ 1, add64S x20 l2 c1 = o2, add64C x20 l2 c1 = c2, (0 : Int).toNat ≤ 1, add64S (mulU y33 38) g2 0 = l3, addU (mulHi y33 38) (add64C (mulU y33 38) g2 0) = g3, c2.toNat ≤ 1, add64S x30 l3 c2 = o3, add64C x30 l3 c2 = c3, N4Ok ⟨o0, o1, o2, o3⟩, Word (addU g3 c3)]) (by kernel_rfl) ⟨z, z, hx00, hy00, z, z, hx01, hy01, z, z, hx02, hy02, z, z, hx03, hy03, z, z, hx10, hy10, z, z, hx11, hy11, z, z, hx12, hy12, z, z, hx13, hy13, z, z, hx20, hy20, z, z, hx21, hy21, z, z, hx22, hy22, z, z, hx23, hy23, z, z, hx30, hy30, z, z, hx31, hy31, z, z, hx32, hy32, z, z, hx33, hy33, z, hl0, hg0, z, ho0, hc0, z, hl1, hg1, kc0, ho1, hc1, z, hl2, hg2, kc1, ho2, hc2, z, hl3, hg3, kc2, ho3, hc3, hok, hw, trivial⟩ rfl rfl

theorem mulStep {x y w c : Int} (hx : Word x) (hy : Word y) (hw : Word w) (hc : Word c) : Word (add64S (add64S (mulU x y) w 0) c 0) ∧ Word (addU (addU (mulHi x y) (add64C (mulU x y) w 0)) (add64C (add64S (mulU x y) w 0) c 0)) ∧
    add64S (add64S (mulU x y) w 0) c 0 + 18446744073709551616 * addU (addU (mulHi x y) (add64C (mulU x y) w 0)) (add64C (add64S (mulU x y) w 0) c 0) = x * y + w + c := by
  have hl := mulU_eq x y
  have hh := mul64_lo_hi x y hx hy
  have wl : Word (mulU x y) := by rw [hl]; exact ⟨Int.emod_nonneg _ (by decide), Int.emod_lt_of_pos _ (by decide)⟩
  have hp : 0 ≤ x * y ∧ x * y ≤ 340282366920938463426481119284349108225 := by
    unfold Word at *
    refine ⟨Int.mul_nonneg hx.1 hy.1, ?_⟩
    have := Int.mul_le_mul (by omega : x ≤ 18446744073709551615) (by omega : y ≤ 18446744073709551615) hy.1 (by decide : (0 : Int) ≤ 18446744073709551615)
    omega
  obtain ⟨c0, w0, e0⟩ := add64_val wl hw (.inl rfl)
  obtain ⟨c1, w1, e1⟩ := add64_val w0 hc (.inl rfl)
  generalize add64S (mulU x y) w 0 = s0 at *
  generalize add64C (mulU x y) w 0 = k0 at *
  generalize add64S s0 c 0 = s1 at *
  generalize add64C s0 c 0 = k1 at *
  generalize mulU x y = L at *
  generalize mulHi x y = H at *
  generalize x * y = p at *
  simp only [addU_eq]
  unfold Word at *
  omega
theorem mulStep2 {x c : Int} (hx : Word x) (hc : Word c) (hc' : c ≤ 38) : Word (add64S (mulU x 38) c 0) ∧ (0 ≤ addU (mulHi x 38) (add64C (mulU x 38) c 0) ∧ addU (mulHi x 38) (add64C (mulU x 38) c 0) ≤ 38) ∧
    add64S (mulU x 38) c 0 + 18446744073709551616 * addU (mulHi x 38) (add64C (mulU x 38) c 0) = 38 * x + c := by
  have hl := mulU_eq x 38
  have hh := mul64_lo_hi x 38 hx ⟨by decide, by decide⟩
  have wl : Word (mulU x 38) := by rw [hl]; exact ⟨Int.emod_nonneg _ (by decide), Int.emod_lt_of_pos _ (by decide)⟩
  obtain ⟨c0, w0, e0⟩ := add64_val wl hc (.inl rfl)
  generalize add64S (mulU x 38) c 0 = s0 at *
  generalize add64C (mulU x 38) c 0 = k0 at *
  generalize mulU x 38 = L at *
  generalize mulHi x 38 = H at *
  have hH : 0 ≤ H ∧ H ≤ 37 := by unfold Word at *; omega
  have hA : addU H k0 = H + k0 := by rw [addU_eq]; omega
  rw [hA]
  have h38 : 38 * x = 18446744073709551616 * H + L := by unfold Word at *; omega
  refine ⟨w0, ?_, by omega⟩
  unfold Word at *
  omega

/-- A product's words are so that its number is the product's, modulo p. -/
theorem rtimes_ex (a b : N4) (ha : N4Ok a) (hb : N4Ok b) : ∃ r : N4, (N4Ok r ∧ N4V r % pP = (N4V a * N4V b) % pP) ∧ FnOk Try.prog 64 [cN4.enc a, cN4.enc b] (cN4.enc r) := by
  obtain ⟨a0, a1, a2, a3⟩ := ha
  obtain ⟨b0, b1, b2, b3⟩ := hb
  obtain ⟨wx00, wy00, e00⟩ := mulStep a0 b0 word0 word0
  generalize hx00 : add64S (add64S (mulU a.l0 b.l0) 0 0) 0 0 = x00 at wx00 e00
  generalize hy00 : addU (addU (mulHi a.l0 b.l0) (add64C (mulU a.l0 b.l0) 0 0)) (add64C (add64S (mulU a.l0 b.l0) 0 0) 0 0) = y00 at wy00 e00
  obtain ⟨wx01, wy01, e01⟩ := mulStep a0 b1 word0 wy00
  generalize hx01 : add64S (add64S (mulU a.l0 b.l1) 0 0) y00 0 = x01 at wx01 e01
  generalize hy01 : addU (addU (mulHi a.l0 b.l1) (add64C (mulU a.l0 b.l1) 0 0)) (add64C (add64S (mulU a.l0 b.l1) 0 0) y00 0) = y01 at wy01 e01
  obtain ⟨wx02, wy02, e02⟩ := mulStep a0 b2 word0 wy01
  generalize hx02 : add64S (add64S (mulU a.l0 b.l2) 0 0) y01 0 = x02 at wx02 e02
  generalize hy02 : addU (addU (mulHi a.l0 b.l2) (add64C (mulU a.l0 b.l2) 0 0)) (add64C (add64S (mulU a.l0 b.l2) 0 0) y01 0) = y02 at wy02 e02
  obtain ⟨wx03, wy03, e03⟩ := mulStep a0 b3 word0 wy02
  generalize hx03 : add64S (add64S (mulU a.l0 b.l3) 0 0) y02 0 = x03 at wx03 e03
  generalize hy03 : addU (addU (mulHi a.l0 b.l3) (add64C (mulU a.l0 b.l3) 0 0)) (add64C (add64S (mulU a.l0 b.l3) 0 0) y02 0) = y03 at wy03 e03
  obtain ⟨wx10, wy10, e10⟩ := mulStep a1 b0 wx01 word0
  generalize hx10 : add64S (add64S (mulU a.l1 b.l0) x01 0) 0 0 = x10 at wx10 e10
  generalize hy10 : addU (addU (mulHi a.l1 b.l0) (add64C (mulU a.l1 b.l0) x01 0)) (add64C (add64S (mulU a.l1 b.l0) x01 0) 0 0) = y10 at wy10 e10
  obtain ⟨wx11, wy11, e11⟩ := mulStep a1 b1 wx02 wy10
  generalize hx11 : add64S (add64S (mulU a.l1 b.l1) x02 0) y10 0 = x11 at wx11 e11
  generalize hy11 : addU (addU (mulHi a.l1 b.l1) (add64C (mulU a.l1 b.l1) x02 0)) (add64C (add64S (mulU a.l1 b.l1) x02 0) y10 0) = y11 at wy11 e11
  obtain ⟨wx12, wy12, e12⟩ := mulStep a1 b2 wx03 wy11
  generalize hx12 : add64S (add64S (mulU a.l1 b.l2) x03 0) y11 0 = x12 at wx12 e12
  generalize hy12 : addU (addU (mulHi a.l1 b.l2) (add64C (mulU a.l1 b.l2) x03 0)) (add64C (add64S (mulU a.l1 b.l2) x03 0) y11 0) = y12 at wy12 e12
  obtain ⟨wx13, wy13, e13⟩ := mulStep a1 b3 wy03 wy12
  generalize hx13 : add64S (add64S (mulU a.l1 b.l3) y03 0) y12 0 = x13 at wx13 e13
  generalize hy13 : addU (addU (mulHi a.l1 b.l3) (add64C (mulU a.l1 b.l3) y03 0)) (add64C (add64S (mulU a.l1 b.l3) y03 0) y12 0) = y13 at wy13 e13
  obtain ⟨wx20, wy20, e20⟩ := mulStep a2 b0 wx11 word0
  generalize hx20 : add64S (add64S (mulU a.l2 b.l0) x11 0) 0 0 = x20 at wx20 e20
  generalize hy20 : addU (addU (mulHi a.l2 b.l0) (add64C (mulU a.l2 b.l0) x11 0)) (add64C (add64S (mulU a.l2 b.l0) x11 0) 0 0) = y20 at wy20 e20
  obtain ⟨wx21, wy21, e21⟩ := mulStep a2 b1 wx12 wy20
  generalize hx21 : add64S (add64S (mulU a.l2 b.l1) x12 0) y20 0 = x21 at wx21 e21
  generalize hy21 : addU (addU (mulHi a.l2 b.l1) (add64C (mulU a.l2 b.l1) x12 0)) (add64C (add64S (mulU a.l2 b.l1) x12 0) y20 0) = y21 at wy21 e21
  obtain ⟨wx22, wy22, e22⟩ := mulStep a2 b2 wx13 wy21
  generalize hx22 : add64S (add64S (mulU a.l2 b.l2) x13 0) y21 0 = x22 at wx22 e22
  generalize hy22 : addU (addU (mulHi a.l2 b.l2) (add64C (mulU a.l2 b.l2) x13 0)) (add64C (add64S (mulU a.l2 b.l2) x13 0) y21 0) = y22 at wy22 e22
  obtain ⟨wx23, wy23, e23⟩ := mulStep a2 b3 wy13 wy22
  generalize hx23 : add64S (add64S (mulU a.l2 b.l3) y13 0) y22 0 = x23 at wx23 e23
  generalize hy23 : addU (addU (mulHi a.l2 b.l3) (add64C (mulU a.l2 b.l3) y13 0)) (add64C (add64S (mulU a.l2 b.l3) y13 0) y22 0) = y23 at wy23 e23
  obtain ⟨wx30, wy30, e30⟩ := mulStep a3 b0 wx21 word0
  generalize hx30 : add64S (add64S (mulU a.l3 b.l0) x21 0) 0 0 = x30 at wx30 e30
  generalize hy30 : addU (addU (mulHi a.l3 b.l0) (add64C (mulU a.l3 b.l0) x21 0)) (add64C (add64S (mulU a.l3 b.l0) x21 0) 0 0) = y30 at wy30 e30
  obtain ⟨wx31, wy31, e31⟩ := mulStep a3 b1 wx22 wy30
  generalize hx31 : add64S (add64S (mulU a.l3 b.l1) x22 0) y30 0 = x31 at wx31 e31
  generalize hy31 : addU (addU (mulHi a.l3 b.l1) (add64C (mulU a.l3 b.l1) x22 0)) (add64C (add64S (mulU a.l3 b.l1) x22 0) y30 0) = y31 at wy31 e31
  obtain ⟨wx32, wy32, e32⟩ := mulStep a3 b2 wx23 wy31
  generalize hx32 : add64S (add64S (mulU a.l3 b.l2) x23 0) y31 0 = x32 at wx32 e32
  generalize hy32 : addU (addU (mulHi a.l3 b.l2) (add64C (mulU a.l3 b.l2) x23 0)) (add64C (add64S (mulU a.l3 b.l2) x23 0) y31 0) = y32 at wy32 e32
  obtain ⟨wx33, wy33, e33⟩ := mulStep a3 b3 wy23 wy32
  generalize hx33 : add64S (add64S (mulU a.l3 b.l3) y23 0) y32 0 = x33 at wx33 e33
  generalize hy33 : addU (addU (mulHi a.l3 b.l3) (add64C (mulU a.l3 b.l3) y23 0)) (add64C (add64S (mulU a.l3 b.l3) y23 0) y32 0) = y33 at wy33 e33
  obtain ⟨wl0, wg0, f0⟩ := mulStep2 wx31 word0 (by decide)
  generalize hl0 : add64S (mulU x31 38) 0 0 = l0 at wl0 f0
  generalize hg0 : addU (mulHi x31 38) (add64C (mulU x31 38) 0 0) = g0 at wg0 f0
  have wg0' : Word g0 := ⟨wg0.1, by omega⟩
  obtain ⟨d0, wo0, q0⟩ := add64_val wx00 wl0 (.inl rfl)
  generalize ho0 : add64S x00 l0 0 = o0 at wo0 q0
  generalize hc0 : add64C x00 l0 0 = c0 at d0 q0
  obtain ⟨wl1, wg1, f1⟩ := mulStep2 wx32 wg0' wg0.2
  generalize hl1 : add64S (mulU x32 38) g0 0 = l1 at wl1 f1
  generalize hg1 : addU (mulHi x32 38) (add64C (mulU x32 38) g0 0) = g1 at wg1 f1
  have wg1' : Word g1 := ⟨wg1.1, by omega⟩
  obtain ⟨d1, wo1, q1⟩ := add64_val wx10 wl1 d0
  generalize ho1 : add64S x10 l1 c0 = o1 at wo1 q1
  generalize hc1 : add64C x10 l1 c0 = c1 at d1 q1
  obtain ⟨wl2, wg2, f2⟩ := mulStep2 wx33 wg1' wg1.2
  generalize hl2 : add64S (mulU x33 38) g1 0 = l2 at wl2 f2
  generalize hg2 : addU (mulHi x33 38) (add64C (mulU x33 38) g1 0) = g2 at wg2 f2
  have wg2' : Word g2 := ⟨wg2.1, by omega⟩
  obtain ⟨d2, wo2, q2⟩ := add64_val wx20 wl2 d1
  generalize ho2 : add64S x20 l2 c1 = o2 at wo2 q2
  generalize hc2 : add64C x20 l2 c1 = c2 at d2 q2
  obtain ⟨wl3, wg3, f3⟩ := mulStep2 wy33 wg2' wg2.2
  generalize hl3 : add64S (mulU y33 38) g2 0 = l3 at wl3 f3
  generalize hg3 : addU (mulHi y33 38) (add64C (mulU y33 38) g2 0) = g3 at wg3 f3
  have wg3' : Word g3 := ⟨wg3.1, by omega⟩
  obtain ⟨d3, wo3, q3⟩ := add64_val wx30 wl3 d2
  generalize ho3 : add64S x30 l3 c2 = o3 at wo3 q3
  generalize hc3 : add64C x30 l3 c2 = c3 at d3 q3
  have hg : addU g3 c3 = g3 + c3 := by rw [addU_eq]; omega
  have wg : Word (addU g3 c3) := by rw [hg]; unfold Word; omega
  have ok : N4Ok ⟨o0, o1, o2, o3⟩ := ⟨wo0, wo1, wo2, wo3⟩
  obtain ⟨r1, r2⟩ := foldN_val ok wg
  refine ⟨foldN ⟨o0, o1, o2, o3⟩ (addU g3 c3), ⟨r1, ?_⟩, rtimes_walk a b x00 y00 x01 y01 x02 y02 x03 y03 x10 y10 x11 y11 x12 y12 x13 y13 x20 y20 x21 y21 x22 y22 x23 y23 x30 y30 x31 y31 x32 y32 x33 y33 l0 g0 o0 c0 l1 g1 o1 c1 l2 g2 o2 c2 l3 g3 o3 c3 hx00 hy00 hx01 hy01 hx02 hy02 hx03 hy03 hx10 hy10 hx11 hy11 hx12 hy12 hx13 hy13 hx20 hy20 hx21 hy21 hx22 hy22 hx23 hy23 hx30 hy30 hx31 hy31 hx32 hy32 hx33 hy33 hl0 hg0 ho0 hc0 hl1 hg1 ho1 hc1 hl2 hg2 ho2 hc2 hl3 hg3 ho3 hc3 (word_bit d0).2 (word_bit d1).2 (word_bit d2).2 ok wg⟩
  rw [r2, hg]
  have hV : N4V a * N4V b = (a.l0 * b.l0 + 18446744073709551616 * (a.l0 * b.l1) + 340282366920938463463374607431768211456 * (a.l0 * b.l2) + 6277101735386680763835789423207666416102355444464034512896 * (a.l0 * b.l3))
      + 18446744073709551616 * (a.l1 * b.l0 + 18446744073709551616 * (a.l1 * b.l1) + 340282366920938463463374607431768211456 * (a.l1 * b.l2) + 6277101735386680763835789423207666416102355444464034512896 * (a.l1 * b.l3))
      + 340282366920938463463374607431768211456 * (a.l2 * b.l0 + 18446744073709551616 * (a.l2 * b.l1) + 340282366920938463463374607431768211456 * (a.l2 * b.l2) + 6277101735386680763835789423207666416102355444464034512896 * (a.l2 * b.l3))
      + 6277101735386680763835789423207666416102355444464034512896 * (a.l3 * b.l0 + 18446744073709551616 * (a.l3 * b.l1) + 340282366920938463463374607431768211456 * (a.l3 * b.l2) + 6277101735386680763835789423207666416102355444464034512896 * (a.l3 * b.l3))
      := by unfold N4V; grind
  rw [hV]
  generalize a.l0 * b.l0 = p00 at *
  generalize a.l0 * b.l1 = p01 at *
  generalize a.l0 * b.l2 = p02 at *
  generalize a.l0 * b.l3 = p03 at *
  generalize a.l1 * b.l0 = p10 at *
  generalize a.l1 * b.l1 = p11 at *
  generalize a.l1 * b.l2 = p12 at *
  generalize a.l1 * b.l3 = p13 at *
  generalize a.l2 * b.l0 = p20 at *
  generalize a.l2 * b.l1 = p21 at *
  generalize a.l2 * b.l2 = p22 at *
  generalize a.l2 * b.l3 = p23 at *
  generalize a.l3 * b.l0 = p30 at *
  generalize a.l3 * b.l1 = p31 at *
  generalize a.l3 * b.l2 = p32 at *
  generalize a.l3 * b.l3 = p33 at *
  clear hV hx00 hy00 hx01 hy01 hx02 hy02 hx03 hy03 hx10 hy10 hx11 hy11 hx12 hy12 hx13 hy13 hx20 hy20 hx21 hy21 hx22 hy22 hx23 hy23 hx30 hy30 hx31 hy31 hx32 hy32 hx33 hy33 hl0 hg0 ho0 hc0 hl1 hg1 ho1 hc1 hl2 hg2 ho2 hc2 hl3 hg3 ho3 hc3
  rw [eqm]
  refine ⟨-2 * (g3 + c3 + x31 + 18446744073709551616 * x32 + 340282366920938463463374607431768211456 * x33 + 6277101735386680763835789423207666416102355444464034512896 * y33), ?_⟩
  unfold N4V pP
  simp only
  omega
theorem N4.ex_ok {p : N4 → Prop} (h : ∃ r, p r) : p (Classical.choose h) := Classical.choose_spec h
open Classical in
noncomputable def timesN (a b : N4) : N4 := if h : N4Ok a ∧ N4Ok b then Classical.choose (rtimes_ex a b h.1 h.2) else a
theorem timesN_val {a b : N4} (ha : N4Ok a) (hb : N4Ok b) : N4Ok (timesN a b) ∧ N4V (timesN a b) % pP = (N4V a * N4V b) % pP := by
  unfold timesN
  rw [dif_pos ⟨ha, hb⟩]
  exact (Classical.choose_spec (rtimes_ex a b ha hb)).1
theorem rtimes_fn (a b : N4) (hp : Holds [N4Ok a, N4Ok b]) : FnOk Try.prog 64 [cN4.enc a, cN4.enc b] (cN4.enc (timesN a b)) := by
  unfold timesN
  rw [dif_pos ⟨hp.1, hp.2.1⟩]
  exact (Classical.choose_spec (rtimes_ex a b hp.1 hp.2.1)).2
noncomputable def rtimes_con : Con Try.prog := con2 64 Try.f64 Try.func64 (by kernel_rfl) (by kernel_rfl) (cN4) (cN4) (fun a b => cN4.enc (timesN a b)) (fun a b => [N4Ok a, N4Ok b]) (fun _ _ => rfl) (fun a b h => rtimes_fn a b h)
end Go.Proofs.Ytmfobbdgmedhdaa

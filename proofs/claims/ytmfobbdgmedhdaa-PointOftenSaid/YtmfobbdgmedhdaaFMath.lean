/- The numbers modulo p that rows of limbs stand for: plain arithmetic, no program. -/
import Derived.Test.YtmfobbdgmedhdaaLawF
import Derived.Laws.MathBits
namespace Go.Proofs.Ytmfobbdgmedhdaa
open Go Go.Eng
set_option linter.unusedVariables false

/-! ### Words -/
theorem addU_eq (a b : Int) : addU a b = (a + b) % 18446744073709551616 := by simp [addU, IntKind.wrap, IntKind.bits, IntKind.signed]
theorem subU_eq (a b : Int) : subU a b = (a - b) % 18446744073709551616 := by simp [subU, IntKind.wrap, IntKind.bits, IntKind.signed]
theorem mulU_eq (a b : Int) : mulU a b = (a * b) % 18446744073709551616 := by simp [mulU, IntKind.wrap, IntKind.bits, IntKind.signed]
theorem shrU_eq (a : Int) (n : Nat) : shrU a n = a / 2 ^ n := by
  unfold shrU
  exact Int.fdiv_eq_ediv_of_nonneg _ (Int.pow_nonneg (by decide))
theorem shlU_eq (a : Int) (n : Nat) : shlU a n = (a * 2 ^ n) % 18446744073709551616 := by simp [shlU, IntKind.wrap, IntKind.bits, IntKind.signed]
theorem wrap64 (a : Int) : IntKind.u64.wrap a = a % 18446744073709551616 := by simp [IntKind.wrap, IntKind.bits, IntKind.signed]
theorem wraps_u64 (n : Int) (h₀ : 0 ≤ n) (h₁ : n < 2 ^ 64) : IntKind.u64.wrap n = n := by rw [wrap64]; omega
theorem and51 (x : Int) (h0 : 0 ≤ x) (h1 : x < 18446744073709551616) : andU x m51 = x % 2251799813685248 :=
  bits_mask .u64 64 (by decide) wraps_u64 51 (by decide) x h0 h1
theorem and32 (x : Int) (h0 : 0 ≤ x) (h1 : x < 18446744073709551616) : andU x m32 = x % 4294967296 :=
  bits_mask .u64 64 (by decide) wraps_u64 32 (by decide) x h0 h1
theorem orU_add (i : Nat) (x y : Int) (hx0 : 0 ≤ x) (hx1 : x < 18446744073709551616) (hx : x % 2 ^ i = 0) (hy0 : 0 ≤ y) (hy : y < 2 ^ i) (hy1 : y < 18446744073709551616) : orU x y = x + y :=
  bits_join .u64 64 (by decide) wraps_u64 i x y hx0 hx hx1 hy0 hy hy1

/-! ### Bounds and values -/
def Word (x : Int) : Prop := 0 ≤ x ∧ x < 18446744073709551616
def Lim (e : E5) : Prop := (0 ≤ e.l0 ∧ e.l0 < 2251799813947392) ∧ (0 ≤ e.l1 ∧ e.l1 < 2251799813947392) ∧ (0 ≤ e.l2 ∧ e.l2 < 2251799813947392) ∧ (0 ≤ e.l3 ∧ e.l3 < 2251799813947392) ∧ (0 ≤ e.l4 ∧ e.l4 < 2251799813947392)
def Words (e : E5) : Prop := Word e.l0 ∧ Word e.l1 ∧ Word e.l2 ∧ Word e.l3 ∧ Word e.l4
def pP : Int := 57896044618658097711785492504343953926634992332820282019728792003956564819949
def V (e : E5) : Int := e.l0 + 2251799813685248 * e.l1 + 5070602400912917605986812821504 * e.l2 + 11417981541647679048466287755595961091061972992 * e.l3 + 25711008708143844408671393477458601640355247900524685364822016 * e.l4

theorem carried_eq (e : E5) (h : Words e) : carriedF e = ⟨e.l0 % 2251799813685248 + 19 * (e.l4 / 2251799813685248), e.l1 % 2251799813685248 + e.l0 / 2251799813685248,
    e.l2 % 2251799813685248 + e.l1 / 2251799813685248, e.l3 % 2251799813685248 + e.l2 / 2251799813685248, e.l4 % 2251799813685248 + e.l3 / 2251799813685248⟩ := by
  obtain ⟨⟨a0, a1⟩, ⟨b0, b1⟩, ⟨c0, c1⟩, ⟨d0, d1⟩, ⟨f0, f1⟩⟩ := h
  unfold carriedF
  rw [and51 _ a0 a1, and51 _ b0 b1, and51 _ c0 c1, and51 _ d0 d1, and51 _ f0 f1]
  simp only [addU_eq, mulU_eq, shrU_eq, E5.mk.injEq]
  refine ⟨?_, ?_, ?_, ?_, ?_⟩ <;> omega
theorem carried_lim (e : E5) (h : Words e) : Lim (carriedF e) := by
  rw [carried_eq e h]
  obtain ⟨⟨a0, a1⟩, ⟨b0, b1⟩, ⟨c0, c1⟩, ⟨d0, d1⟩, ⟨f0, f1⟩⟩ := h
  refine ⟨⟨?_, ?_⟩, ⟨?_, ?_⟩, ⟨?_, ?_⟩, ⟨?_, ?_⟩, ⟨?_, ?_⟩⟩ <;> simp only <;> omega
theorem carried_val (e : E5) (h : Words e) : V (carriedF e) = V e - (e.l4 / 2251799813685248) * pP := by
  rw [carried_eq e h]
  unfold V pP
  simp only
  omega
theorem Lim.words {e : E5} (h : Lim e) : Words e := by
  obtain ⟨⟨a0, a1⟩, ⟨b0, b1⟩, ⟨c0, c1⟩, ⟨d0, d1⟩, ⟨f0, f1⟩⟩ := h
  refine ⟨⟨?_, ?_⟩, ⟨?_, ?_⟩, ⟨?_, ?_⟩, ⟨?_, ?_⟩, ⟨?_, ?_⟩⟩ <;> omega
theorem mod_of_sub {a b k : Int} (h : a = b - k * pP) : a % pP = b % pP := by
  rw [h, Int.sub_mul_emod_self_right]

theorem plus_lim (e f : E5) (he : Lim e) (hf : Lim f) : Lim (plusF e f) ∧ V (plusF e f) % pP = (V e + V f) % pP := by
  obtain ⟨⟨a0, a1⟩, ⟨b0, b1⟩, ⟨c0, c1⟩, ⟨d0, d1⟩, ⟨f0, f1⟩⟩ := he
  obtain ⟨⟨a0', a1'⟩, ⟨b0', b1'⟩, ⟨c0', c1'⟩, ⟨d0', d1'⟩, ⟨f0', f1'⟩⟩ := hf
  unfold plusF
  simp only [addU_eq]
  have hw : Words ⟨(e.l0 + f.l0) % 18446744073709551616, (e.l1 + f.l1) % 18446744073709551616, (e.l2 + f.l2) % 18446744073709551616, (e.l3 + f.l3) % 18446744073709551616, (e.l4 + f.l4) % 18446744073709551616⟩ := by
    refine ⟨⟨?_, ?_⟩, ⟨?_, ?_⟩, ⟨?_, ?_⟩, ⟨?_, ?_⟩, ⟨?_, ?_⟩⟩ <;> simp only <;> omega
  refine ⟨carried_lim _ hw, ?_⟩
  rw [mod_of_sub (carried_val _ hw)]
  congr 1
  unfold V
  simp only
  omega
theorem minus_lim (e f : E5) (he : Lim e) (hf : Lim f) : Lim (minusF e f) ∧ V (minusF e f) % pP = (V e - V f) % pP := by
  obtain ⟨⟨a0, a1⟩, ⟨b0, b1⟩, ⟨c0, c1⟩, ⟨d0, d1⟩, ⟨f0, f1⟩⟩ := he
  obtain ⟨⟨a0', a1'⟩, ⟨b0', b1'⟩, ⟨c0', c1'⟩, ⟨d0', d1'⟩, ⟨f0', f1'⟩⟩ := hf
  unfold minusF
  simp only [addU_eq, subU_eq]
  have hw : Words ⟨((e.l0 + 4503599627370458) % 18446744073709551616 - f.l0) % 18446744073709551616, ((e.l1 + 4503599627370494) % 18446744073709551616 - f.l1) % 18446744073709551616, ((e.l2 + 4503599627370494) % 18446744073709551616 - f.l2) % 18446744073709551616,
      ((e.l3 + 4503599627370494) % 18446744073709551616 - f.l3) % 18446744073709551616, ((e.l4 + 4503599627370494) % 18446744073709551616 - f.l4) % 18446744073709551616⟩ := by
    refine ⟨⟨?_, ?_⟩, ⟨?_, ?_⟩, ⟨?_, ?_⟩, ⟨?_, ?_⟩, ⟨?_, ?_⟩⟩ <;> simp only <;> omega
  refine ⟨carried_lim _ hw, ?_⟩
  rw [mod_of_sub (carried_val _ hw)]
  refine mod_of_sub (k := -2) ?_
  unfold V pP
  simp only
  omega

/-! ### The product -/
theorem mul64_lo_hi (x y : Int) (hx : Word x) (hy : Word y) : mulHi x y = x * y / 18446744073709551616 := by
  obtain ⟨hx0, hx1⟩ := hx
  obtain ⟨hy0, hy1⟩ := hy
  rw [← mul64_arith x y hx0 hx1 hy0 hy1]
  have w : ∀ a : Int, 0 ≤ a % 18446744073709551616 ∧ a % 18446744073709551616 < 18446744073709551616 := fun a => ⟨Int.emod_nonneg _ (by decide), Int.emod_lt_of_pos _ (by decide)⟩
  unfold mulHi
  simp only [addU_eq, mulU_eq, shrU_eq]
  rw [and32 x hx0 hx1, and32 y hy0 hy1, and32 _ (w _).1 (w _).2]
  rfl
def WV (w : W2) : Int := w.hi * 18446744073709551616 + w.lo
def WOk (w : W2) (n : Int) : Prop := Word w.hi ∧ Word w.lo ∧ WV w = n
theorem WOk.zero : WOk w0 0 := ⟨⟨by decide, by decide⟩, ⟨by decide, by decide⟩, by decide⟩
theorem WOk.add {w : W2} {n m a b : Int} (h : WOk w n) (ha : Word a) (hb : Word b) (hm : a * b = m) (h0 : 0 ≤ m) (hs : n + m < 340282366920938463463374607431768211456) : WOk (addW w a b) (n + m) := by
  obtain ⟨⟨h1, h2⟩, ⟨h3, h4⟩, h5⟩ := h
  unfold addW
  rw [mul64_lo_hi a b ha hb, mulU_eq, hm]
  unfold WV at h5
  have e1 : add64C (m % 18446744073709551616) w.lo 0 = (m % 18446744073709551616 + w.lo) / 18446744073709551616 := by unfold add64C; simp only [Int.ofNat_eq_natCast]; omega
  have e2 : add64S (m % 18446744073709551616) w.lo 0 = (m % 18446744073709551616 + w.lo) % 18446744073709551616 := by unfold add64S; simp only [Int.ofNat_eq_natCast]; omega
  simp only [addU_eq, e1, e2]
  unfold WOk WV Word
  simp only
  omega
theorem shifted_val {w : W2} {n : Int} (h : WOk w n) (hn : n < 41538374868278621028243970633760768) : shiftedW w = n / 2251799813685248 ∧ andU w.lo m51 = n % 2251799813685248 := by
  obtain ⟨⟨h1, h2⟩, ⟨h3, h4⟩, h5⟩ := h
  unfold WV at h5
  unfold shiftedW
  rw [and51 _ h3 h4, shlU_eq, shrU_eq]
  refine ⟨?_, by omega⟩
  rw [orU_add 13 _ _ (by omega) (by omega) (by omega) (by omega) (by omega) (by omega)]
  omega

theorem prodLim {a b : Int} (ha : 0 ≤ a ∧ a < 2251799813947392) (hb : 0 ≤ b ∧ b < 2251799813947392) : 0 ≤ a * b ∧ a * b < 10141204801825835211973625643008 := by
  refine ⟨Int.mul_nonneg ha.1 hb.1, ?_⟩
  have := Int.mul_le_mul (Int.le_of_lt ha.2) (Int.le_of_lt hb.2) hb.1 (by decide : (0 : Int) ≤ 2251799813947392)
  omega
theorem mul19 {a : Int} (ha : 0 ≤ a ∧ a < 2251799813947392) : mulU 19 a = 19 * a := by rw [mulU_eq]; omega

theorem times_lim (e f : E5) (he : Lim e) (hf : Lim f) : Lim (timesF e f) ∧ V (timesF e f) % pP = (V e * V f) % pP := by
  obtain ⟨ha, hb, hc, hd, hk⟩ := he
  obtain ⟨ha', hb', hc', hd', hk'⟩ := hf
  have wd : ∀ {a : Int}, (0 ≤ a ∧ a < 2251799813947392) → Word a := fun h => ⟨h.1, by omega⟩
  have wd19 : ∀ {a : Int}, (0 ≤ a ∧ a < 2251799813947392) → Word (19 * a) := fun h => ⟨by omega, by omega⟩
  have m19 : ∀ a b : Int, a * (19 * b) = 19 * (a * b) := fun a b => by rw [Int.mul_left_comm]
  have p00 := prodLim ha ha'
  have p01 := prodLim ha hb'
  have p02 := prodLim ha hc'
  have p03 := prodLim ha hd'
  have p04 := prodLim ha hk'
  have p10 := prodLim hb ha'
  have p11 := prodLim hb hb'
  have p12 := prodLim hb hc'
  have p13 := prodLim hb hd'
  have p14 := prodLim hb hk'
  have p20 := prodLim hc ha'
  have p21 := prodLim hc hb'
  have p22 := prodLim hc hc'
  have p23 := prodLim hc hd'
  have p24 := prodLim hc hk'
  have p30 := prodLim hd ha'
  have p31 := prodLim hd hb'
  have p32 := prodLim hd hc'
  have p33 := prodLim hd hd'
  have p34 := prodLim hd hk'
  have p40 := prodLim hk ha'
  have p41 := prodLim hk hb'
  have p42 := prodLim hk hc'
  have p43 := prodLim hk hd'
  have p44 := prodLim hk hk'
  have hV : V e * V f = (e.l0 * f.l0 + 19 * (e.l1 * f.l4) + 19 * (e.l2 * f.l3) + 19 * (e.l3 * f.l2) + 19 * (e.l4 * f.l1))
      + 2251799813685248 * (e.l0 * f.l1 + e.l1 * f.l0 + 19 * (e.l2 * f.l4) + 19 * (e.l3 * f.l3) + 19 * (e.l4 * f.l2))
      + 5070602400912917605986812821504 * (e.l0 * f.l2 + e.l1 * f.l1 + e.l2 * f.l0 + 19 * (e.l3 * f.l4) + 19 * (e.l4 * f.l3))
      + 11417981541647679048466287755595961091061972992 * (e.l0 * f.l3 + e.l1 * f.l2 + e.l2 * f.l1 + e.l3 * f.l0 + 19 * (e.l4 * f.l4))
      + 25711008708143844408671393477458601640355247900524685364822016 * (e.l0 * f.l4 + e.l1 * f.l3 + e.l2 * f.l2 + e.l3 * f.l1 + e.l4 * f.l0)
      + ((e.l1 * f.l4 + e.l2 * f.l3 + e.l3 * f.l2 + e.l4 * f.l1) + 2251799813685248 * (e.l2 * f.l4 + e.l3 * f.l3 + e.l4 * f.l2) + 5070602400912917605986812821504 * (e.l3 * f.l4 + e.l4 * f.l3) + 11417981541647679048466287755595961091061972992 * (e.l4 * f.l4)) * pP := by
    unfold V pP
    grind
  have r0 : WOk (timesR0 e f) (0 + e.l0 * f.l0 + 19 * (e.l1 * f.l4) + 19 * (e.l2 * f.l3) + 19 * (e.l3 * f.l2) + 19 * (e.l4 * f.l1)) := by
    unfold timesR0
    rw [mul19 hb', mul19 hc', mul19 hd', mul19 hk']
    exact ((((WOk.zero.add (wd ha) (wd ha') rfl (by omega) (by omega)).add (wd hb) (wd19 hk') (m19 _ _) (by omega) (by omega)).add (wd hc) (wd19 hd') (m19 _ _) (by omega) (by omega)).add (wd hd) (wd19 hc') (m19 _ _) (by omega) (by omega)).add (wd hk) (wd19 hb') (m19 _ _) (by omega) (by omega)
  have r1 : WOk (timesR1 e f) (0 + e.l0 * f.l1 + e.l1 * f.l0 + 19 * (e.l2 * f.l4) + 19 * (e.l3 * f.l3) + 19 * (e.l4 * f.l2)) := by
    unfold timesR1
    rw [mul19 hc', mul19 hd', mul19 hk']
    exact ((((WOk.zero.add (wd ha) (wd hb') rfl (by omega) (by omega)).add (wd hb) (wd ha') rfl (by omega) (by omega)).add (wd hc) (wd19 hk') (m19 _ _) (by omega) (by omega)).add (wd hd) (wd19 hd') (m19 _ _) (by omega) (by omega)).add (wd hk) (wd19 hc') (m19 _ _) (by omega) (by omega)
  have r2 : WOk (timesR2 e f) (0 + e.l0 * f.l2 + e.l1 * f.l1 + e.l2 * f.l0 + 19 * (e.l3 * f.l4) + 19 * (e.l4 * f.l3)) := by
    unfold timesR2
    rw [mul19 hd', mul19 hk']
    exact ((((WOk.zero.add (wd ha) (wd hc') rfl (by omega) (by omega)).add (wd hb) (wd hb') rfl (by omega) (by omega)).add (wd hc) (wd ha') rfl (by omega) (by omega)).add (wd hd) (wd19 hk') (m19 _ _) (by omega) (by omega)).add (wd hk) (wd19 hd') (m19 _ _) (by omega) (by omega)
  have r3 : WOk (timesR3 e f) (0 + e.l0 * f.l3 + e.l1 * f.l2 + e.l2 * f.l1 + e.l3 * f.l0 + 19 * (e.l4 * f.l4)) := by
    unfold timesR3
    rw [mul19 hk']
    exact ((((WOk.zero.add (wd ha) (wd hd') rfl (by omega) (by omega)).add (wd hb) (wd hc') rfl (by omega) (by omega)).add (wd hc) (wd hb') rfl (by omega) (by omega)).add (wd hd) (wd ha') rfl (by omega) (by omega)).add (wd hk) (wd19 hk') (m19 _ _) (by omega) (by omega)
  have r4 : WOk (timesR4 e f) (0 + e.l0 * f.l4 + e.l1 * f.l3 + e.l2 * f.l2 + e.l3 * f.l1 + e.l4 * f.l0) := by
    unfold timesR4
    exact ((((WOk.zero.add (wd ha) (wd hk') rfl (by omega) (by omega)).add (wd hb) (wd hd') rfl (by omega) (by omega)).add (wd hc) (wd hc') rfl (by omega) (by omega)).add (wd hd) (wd hb') rfl (by omega) (by omega)).add (wd hk) (wd ha') rfl (by omega) (by omega)
  generalize hR0 : (0 + e.l0 * f.l0 + 19 * (e.l1 * f.l4) + 19 * (e.l2 * f.l3) + 19 * (e.l3 * f.l2) + 19 * (e.l4 * f.l1)) = R0 at r0
  generalize hR1 : (0 + e.l0 * f.l1 + e.l1 * f.l0 + 19 * (e.l2 * f.l4) + 19 * (e.l3 * f.l3) + 19 * (e.l4 * f.l2)) = R1 at r1
  generalize hR2 : (0 + e.l0 * f.l2 + e.l1 * f.l1 + e.l2 * f.l0 + 19 * (e.l3 * f.l4) + 19 * (e.l4 * f.l3)) = R2 at r2
  generalize hR3 : (0 + e.l0 * f.l3 + e.l1 * f.l2 + e.l2 * f.l1 + e.l3 * f.l0 + 19 * (e.l4 * f.l4)) = R3 at r3
  generalize hR4 : (0 + e.l0 * f.l4 + e.l1 * f.l3 + e.l2 * f.l2 + e.l3 * f.l1 + e.l4 * f.l0) = R4 at r4
  have b0 : 0 ≤ R0 ∧ R0 < 780872769740589311321969174511616 := by omega
  have b1 : 0 ≤ R1 ∧ R1 < 780872769740589311321969174511616 := by omega
  have b2 : 0 ≤ R2 ∧ R2 < 780872769740589311321969174511616 := by omega
  have b3 : 0 ≤ R3 ∧ R3 < 780872769740589311321969174511616 := by omega
  have b4 : 0 ≤ R4 ∧ R4 < 50706024009129176059868128215040 := by omega
  obtain ⟨s0, t0⟩ := shifted_val r0 (by omega)
  obtain ⟨s1, t1⟩ := shifted_val r1 (by omega)
  obtain ⟨s2, t2⟩ := shifted_val r2 (by omega)
  obtain ⟨s3, t3⟩ := shifted_val r3 (by omega)
  obtain ⟨s4, t4⟩ := shifted_val r4 (by omega)
  unfold timesF
  rw [s0, s1, s2, s3, s4, t0, t1, t2, t3, t4]
  simp only [addU_eq, mulU_eq]
  clear r0 r1 r2 r3 r4 s0 s1 s2 s3 s4 t0 t1 t2 t3 t4 p00 p01 p02 p03 p04 p10 p11 p12 p13 p14 p20 p21 p22 p23 p24 p30 p31 p32 p33 p34 p40 p41 p42 p43 p44
  have hw : Words ⟨(R0 % 2251799813685248 + (19 * (R4 / 2251799813685248)) % 18446744073709551616) % 18446744073709551616, (R1 % 2251799813685248 + R0 / 2251799813685248) % 18446744073709551616,
      (R2 % 2251799813685248 + R1 / 2251799813685248) % 18446744073709551616, (R3 % 2251799813685248 + R2 / 2251799813685248) % 18446744073709551616, (R4 % 2251799813685248 + R3 / 2251799813685248) % 18446744073709551616⟩ := by
    refine ⟨⟨?_, ?_⟩, ⟨?_, ?_⟩, ⟨?_, ?_⟩, ⟨?_, ?_⟩, ⟨?_, ?_⟩⟩ <;> simp only <;> omega
  refine ⟨carried_lim _ hw, ?_⟩
  rw [mod_of_sub (carried_val _ hw), hV, Int.add_mul_emod_self_right]
  refine mod_of_sub (k := R4 / 2251799813685248) ?_
  rw [← Int.zero_add (e.l0 * f.l0), ← Int.zero_add (e.l0 * f.l1), ← Int.zero_add (e.l0 * f.l2), ← Int.zero_add (e.l0 * f.l3), ← Int.zero_add (e.l0 * f.l4), hR0, hR1, hR2, hR3, hR4]
  unfold V pP
  simp only
  clear hV hw hR0 hR1 hR2 hR3 hR4
  omega
end Go.Proofs.Ytmfobbdgmedhdaa

/- The calls of package field on rows of bytes, as numbers modulo p. -/
import Derived.Test.YtmfobbdgmedhdaaFBytes
namespace Go.Proofs.Ytmfobbdgmedhdaa
open Go Go.Eng
set_option linter.unusedVariables false

theorem mul_emod_r (a b n : Int) : a * (b % n) % n = a * b % n := by rw [Int.mul_emod, Int.emod_emod, ← Int.mul_emod]
theorem mul_emod_l (a b n : Int) : a % n * b % n = a * b % n := by rw [Int.mul_emod, Int.emod_emod, ← Int.mul_emod]
theorem eqI_iff : ∀ (a b : List Int), a.length = b.length → (eqI a b = true ↔ a = b)
  | [], [], _ => by simp [eqI]
  | x :: xs, y :: ys, h => by
    have := eqI_iff xs ys (by simpa using h)
    simp [eqI, this]
  | [], y :: ys, h => by simp at h
  | x :: xs, [], h => by simp at h
theorem eqB_iff (a b : B32) : eqB a b = true ↔ a = b := by
  unfold eqB
  rw [eqI_iff a.to b.to rfl]
  constructor
  · intro h
    obtain ⟨a0, a1, a2, a3, a4, a5, a6, a7, a8, a9, a10, a11, a12, a13, a14, a15, a16, a17, a18, a19, a20, a21, a22, a23, a24, a25, a26, a27, a28, a29, a30, a31⟩ := a
    obtain ⟨b0, b1, b2, b3, b4, b5, b6, b7, b8, b9, b10, b11, b12, b13, b14, b15, b16, b17, b18, b19, b20, b21, b22, b23, b24, b25, b26, b27, b28, b29, b30, b31⟩ := b
    simp only [B32.to, List.cons.injEq, and_true] at h
    simp only [B32.mk.injEq]
    exact h
  · rintro rfl; rfl
theorem VB_step {x y a b : Int} (hx : Byte x) (hy : Byte y) (h : x + 256 * a = y + 256 * b) : x = y ∧ a = b := by
  unfold Byte at *
  omega
theorem VB_inj (a b : B32) (ha : BOk a) (hb : BOk b) (h : VB a = VB b) : a = b := by
  unfold VB at h
  obtain ⟨e0, h⟩ := VB_step (ha 0) (hb 0) h
  obtain ⟨e1, h⟩ := VB_step (ha 1) (hb 1) h
  obtain ⟨e2, h⟩ := VB_step (ha 2) (hb 2) h
  obtain ⟨e3, h⟩ := VB_step (ha 3) (hb 3) h
  obtain ⟨e4, h⟩ := VB_step (ha 4) (hb 4) h
  obtain ⟨e5, h⟩ := VB_step (ha 5) (hb 5) h
  obtain ⟨e6, h⟩ := VB_step (ha 6) (hb 6) h
  obtain ⟨e7, h⟩ := VB_step (ha 7) (hb 7) h
  obtain ⟨e8, h⟩ := VB_step (ha 8) (hb 8) h
  obtain ⟨e9, h⟩ := VB_step (ha 9) (hb 9) h
  obtain ⟨e10, h⟩ := VB_step (ha 10) (hb 10) h
  obtain ⟨e11, h⟩ := VB_step (ha 11) (hb 11) h
  obtain ⟨e12, h⟩ := VB_step (ha 12) (hb 12) h
  obtain ⟨e13, h⟩ := VB_step (ha 13) (hb 13) h
  obtain ⟨e14, h⟩ := VB_step (ha 14) (hb 14) h
  obtain ⟨e15, h⟩ := VB_step (ha 15) (hb 15) h
  obtain ⟨e16, h⟩ := VB_step (ha 16) (hb 16) h
  obtain ⟨e17, h⟩ := VB_step (ha 17) (hb 17) h
  obtain ⟨e18, h⟩ := VB_step (ha 18) (hb 18) h
  obtain ⟨e19, h⟩ := VB_step (ha 19) (hb 19) h
  obtain ⟨e20, h⟩ := VB_step (ha 20) (hb 20) h
  obtain ⟨e21, h⟩ := VB_step (ha 21) (hb 21) h
  obtain ⟨e22, h⟩ := VB_step (ha 22) (hb 22) h
  obtain ⟨e23, h⟩ := VB_step (ha 23) (hb 23) h
  obtain ⟨e24, h⟩ := VB_step (ha 24) (hb 24) h
  obtain ⟨e25, h⟩ := VB_step (ha 25) (hb 25) h
  obtain ⟨e26, h⟩ := VB_step (ha 26) (hb 26) h
  obtain ⟨e27, h⟩ := VB_step (ha 27) (hb 27) h
  obtain ⟨e28, h⟩ := VB_step (ha 28) (hb 28) h
  obtain ⟨e29, h⟩ := VB_step (ha 29) (hb 29) h
  obtain ⟨e30, h⟩ := VB_step (ha 30) (hb 30) h
  obtain ⟨a0, a1, a2, a3, a4, a5, a6, a7, a8, a9, a10, a11, a12, a13, a14, a15, a16, a17, a18, a19, a20, a21, a22, a23, a24, a25, a26, a27, a28, a29, a30, a31⟩ := a
  obtain ⟨b0, b1, b2, b3, b4, b5, b6, b7, b8, b9, b10, b11, b12, b13, b14, b15, b16, b17, b18, b19, b20, b21, b22, b23, b24, b25, b26, b27, b28, b29, b30, b31⟩ := b
  simp only [B32.mk.injEq]
  exact ⟨e0, e1, e2, e3, e4, e5, e6, e7, e8, e9, e10, e11, e12, e13, e14, e15, e16, e17, e18, e19, e20, e21, e22, e23, e24, e25, e26, e27, e28, e29, e30, h⟩
/-- Two rows of bytes are one where their numbers are. -/
theorem eqB_val {a b : B32} (ha : BOk a) (hb : BOk b) (h : VB a = VB b) : eqB a b = true := (eqB_iff a b).2 (VB_inj a b ha hb h)

theorem numB_ok (n : Int) (h : Byte n) : BOk (numB n) := by
  intro i
  unfold B32.at numB
  split <;> first | exact h | exact (⟨by decide, by decide⟩ : Byte 0)
theorem numB_val (n : Int) : VB (numB n) = n := by unfold VB numB; simp only; omega

/-- Limbs that stand for a number modulo p. -/
structure Is (e : E5) (n : Int) : Prop where
  lim : Lim e
  val : V e % pP = n % pP
theorem Is.of {b : B32} (h : BOk b) : Is (ofF b) (VB b) := by
  obtain ⟨h1, h2⟩ := of_lim b h
  exact ⟨h1, by rw [h2, Int.sub_mul_emod_self_right]⟩
theorem Is.plus {e f : E5} {n m : Int} (he : Is e n) (hf : Is f m) : Is (plusF e f) (n + m) := by
  obtain ⟨h1, h2⟩ := plus_lim e f he.lim hf.lim
  exact ⟨h1, by rw [h2, Int.add_emod, he.val, hf.val, ← Int.add_emod]⟩
theorem Is.minus {e f : E5} {n m : Int} (he : Is e n) (hf : Is f m) : Is (minusF e f) (n - m) := by
  obtain ⟨h1, h2⟩ := minus_lim e f he.lim hf.lim
  exact ⟨h1, by rw [h2, Int.sub_emod, he.val, hf.val, ← Int.sub_emod]⟩
theorem Is.times {e f : E5} {n m : Int} (he : Is e n) (hf : Is f m) : Is (timesF e f) (n * m) := by
  obtain ⟨h1, h2⟩ := times_lim e f he.lim hf.lim
  exact ⟨h1, by rw [h2, Int.mul_emod, he.val, hf.val, ← Int.mul_emod]⟩
theorem Is.bytes {e : E5} {n : Int} (h : Is e n) : BOk (bytesF e) ∧ VB (bytesF e) = n % pP := by
  obtain ⟨h1, h2⟩ := bytes_val e h.lim.words
  exact ⟨h1, by rw [h2, h.val]⟩
theorem Is.congr {e : E5} {n m : Int} (h : Is e n) (hm : n % pP = m % pP) : Is e m := ⟨h.lim, h.val.trans hm⟩

theorem addB_val {a b : B32} (ha : BOk a) (hb : BOk b) : BOk (addB a b) ∧ VB (addB a b) = (VB a + VB b) % pP := ((Is.of ha).plus (Is.of hb)).bytes
theorem subB_val {a b : B32} (ha : BOk a) (hb : BOk b) : BOk (subB a b) ∧ VB (subB a b) = (VB a - VB b) % pP := ((Is.of ha).minus (Is.of hb)).bytes
theorem mulB_val {a b : B32} (ha : BOk a) (hb : BOk b) : BOk (mulB a b) ∧ VB (mulB a b) = (VB a * VB b) % pP := ((Is.of ha).times (Is.of hb)).bytes

/-- FieldRing, of any rows of bytes. -/
theorem ring_ok (a b c : B32) (ha : BOk a) (hb : BOk b) (hc : BOk c) : FnOk Try.prog 3 [cB32.enc a, cB32.enc b, cB32.enc c] (cBool.enc true) := by
  have o0 := numB_ok 0 ⟨by decide, by decide⟩
  have o1 := numB_ok 1 ⟨by decide, by decide⟩
  have ab := addB_val ha hb
  have ba := addB_val hb ha
  have mab := mulB_val ha hb
  have mba := mulB_val hb ha
  have a0 := addB_val ha o0
  have s := subB_val ab.1 hb
  have bc := addB_val hb hc
  have m1 := mulB_val ha bc.1
  have mac := mulB_val ha hc
  have m2 := addB_val mab.1 mac.1
  have m3 := mulB_val mab.1 hc
  have mbc := mulB_val hb hc
  have m4 := mulB_val ha mbc.1
  have m5 := mulB_val ha o1
  refine ring_fn a b c (eqB_val ab.1 ba.1 ?_) (eqB_val mab.1 mba.1 ?_) (eqB_val s.1 a0.1 ?_) (eqB_val m1.1 m2.1 ?_) (eqB_val m3.1 m4.1 ?_) (eqB_val m5.1 a0.1 ?_)
  · rw [ab.2, ba.2, Int.add_comm]
  · rw [mab.2, mba.2, Int.mul_comm]
  · rw [s.2, a0.2, ab.2, numB_val, Int.add_zero, Int.emod_sub_emod, Int.add_sub_cancel]
  · rw [m1.2, m2.2, bc.2, mab.2, mac.2, mul_emod_r, Int.emod_add_emod, Int.add_emod_emod, Int.mul_add]
  · rw [m3.2, m4.2, mab.2, mbc.2, mul_emod_l, mul_emod_r, Int.mul_assoc]
  · rw [m5.2, a0.2, numB_val, numB_val, Int.mul_one, Int.add_zero]
end Go.Proofs.Ytmfobbdgmedhdaa

/- Package beaconlaw02: what its functions answer, where what they ask holds. -/
import Derived.Test.YtmfobbdgmedhdaaFieldQ
namespace Go.Proofs.Ytmfobbdgmedhdaa
open Go Go.Eng
set_option linter.unusedVariables false
set_option maxRecDepth 100000

def addB (a b : B32) : B32 := bytesF (plusF (ofF a) (ofF b))
def subB (a b : B32) : B32 := bytesF (minusF (ofF a) (ofF b))
def mulB (a b : B32) : B32 := bytesF (timesF (ofF a) (ofF b))
def invB (a : B32) : B32 := bytesF (invF (ofF a))
def canB (a : B32) : Bool := eqB (bytesF (ofF a)) a
def numB (n : Int) : B32 := ⟨n, 0, 0, 0, 0, 0, 0, 0, 0, 0, 0, 0, 0, 0, 0, 0, 0, 0, 0, 0, 0, 0, 0, 0, 0, 0, 0, 0, 0, 0, 0, 0⟩

theorem awake_fn : FnOk Try.prog 14 [] (cBool.enc true) :=
  FnOk.of_out (Γ := [fmul_con, canonical_con]) tys_ok mixed Try.func14 (n := 100) (orc := [(5, [true]), (8, [true])])
    (cs := [eqB (mulB (numB 2) (numB 3)) (numB 6) = true, canB (numB 1) = true]) (by kernel_rfl) ⟨by decide +kernel, by decide +kernel, trivial⟩ rfl rfl
def awake_con : Con Try.prog := con0 14 Try.f14 Try.func14 (by kernel_rfl) (by kernel_rfl) (cBool.enc true) [] rfl (fun _ => awake_fn)

theorem ring_fn (a b c : B32) (h1 : eqB (addB a b) (addB b a) = true) (h2 : eqB (mulB a b) (mulB b a) = true) (h3 : eqB (subB (addB a b) b) (addB a (numB 0)) = true)
    (h4 : eqB (mulB a (addB b c)) (addB (mulB a b) (mulB a c)) = true) (h5 : eqB (mulB (mulB a b) c) (mulB a (mulB b c)) = true) (h6 : eqB (mulB a (numB 1)) (addB a (numB 0)) = true) :
    FnOk Try.prog 3 [cB32.enc a, cB32.enc b, cB32.enc c] (cBool.enc true) :=
  FnOk.of_out (Γ := [awake_con, fmul_con, fadd_con, fsub_con]) tys_ok mixed Try.func3 (n := 100) (orc := [(15, [false]), (23, [false]), (34, [false]), (48, [true]), (60, [true]), (69, [true])])
    (cs := [(!eqB (addB a b) (addB b a)) = false, (!eqB (mulB a b) (mulB b a)) = false, (!eqB (subB (addB a b) b) (addB a (numB 0))) = false,
      eqB (mulB a (addB b c)) (addB (mulB a b) (mulB a c)) = true, eqB (mulB (mulB a b) c) (mulB a (mulB b c)) = true, eqB (mulB a (numB 1)) (addB a (numB 0)) = true]) (by kernel_rfl)
    ⟨by simp [h1], by simp [h2], by simp [h3], h4, h5, h6, trivial⟩ rfl rfl

theorem inverses_fn (a : B32) (h0 : eqB (addB a (numB 0)) (numB 0) = true → eqB (invB a) (numB 0) = true)
    (h1 : eqB (addB a (numB 0)) (numB 0) = false → eqB (mulB a (invB a)) (numB 1) = true ∧ eqB (invB (invB a)) (addB a (numB 0)) = true) :
    FnOk Try.prog 4 [cB32.enc a] (cBool.enc true) := by
  cases h : eqB (addB a (numB 0)) (numB 0)
  · exact FnOk.of_out (Γ := [awake_con, fmul_con, fadd_con, finv_con]) tys_ok mixed Try.func4 (n := 100) (orc := [(9, [false]), (19, [true]), (27, [true])])
      (cs := [eqB (addB a (numB 0)) (numB 0) = false, eqB (mulB a (invB a)) (numB 1) = true, eqB (invB (invB a)) (addB a (numB 0)) = true]) (by kernel_rfl) ⟨h, (h1 h).1, (h1 h).2, trivial⟩ rfl rfl
  · exact FnOk.of_out (Γ := [awake_con, fmul_con, fadd_con, finv_con]) tys_ok mixed Try.func4 (n := 100) (orc := [(9, [true]), (13, [true])])
      (cs := [eqB (addB a (numB 0)) (numB 0) = true, eqB (invB a) (numB 0) = true]) (by kernel_rfl) ⟨h, h0 h, trivial⟩ rfl rfl

theorem canon_fn (a b : B32) (h1 : canB (addB a b) = true) (h2 : canB (mulB a b) = true) (h3 : canB (subB a b) = true) (h4 : canB (invB a) = true)
    (h5 : canB a = eqB (addB a (numB 0)) a) : FnOk Try.prog 5 [cB32.enc a, cB32.enc b] (cBool.enc true) :=
  FnOk.of_out (Γ := [awake_con, fmul_con, fadd_con, fsub_con, finv_con, canonical_con]) tys_ok mixed Try.func5 (n := 100) (orc := [(16, [true]), (21, [true]), (27, [true]), (32, [true]), (38, [true])])
    (cs := [canB (addB a b) = true, canB (mulB a b) = true, canB (subB a b) = true, canB (invB a) = true, (canB a == eqB (addB a (numB 0)) a) = true]) (by kernel_rfl)
    ⟨h1, h2, h3, h4, by simp [h5], trivial⟩ rfl rfl

theorem roots_fn (a : B32) (h1 : sqrtE (mulB a a) = 0) (h2 : ((sqrtB (mulB a a)).b0.tmod 2) = 0) (h3 : eqB (mulB (sqrtB (mulB a a)) (sqrtB (mulB a a))) (mulB a a) = true)
    (h4 : eqB (sqrtB (mulB a a)) (addB a (numB 0)) = true ∨ eqB (sqrtB (mulB a a)) (subB (numB 0) a) = true)
    (h5 : sqrtE a = 0 → eqB (mulB (sqrtB a) (sqrtB a)) (addB a (numB 0)) = true ∧ (sqrtB a).b0.tmod 2 = 0) (h6 : sqrtE a ≠ 0 → sqrtE a = 4 ∧ eqB (sqrtB a) (numB 0) = true) :
    FnOk Try.prog 6 [cB32.enc a] (cBool.enc true) := by
  have k4 : eqB (sqrtB (mulB a a)) (addB a (numB 0)) = true ∨ (eqB (sqrtB (mulB a a)) (addB a (numB 0)) = false ∧ eqB (sqrtB (mulB a a)) (subB (numB 0) a) = true) := by
    cases h : eqB (sqrtB (mulB a a)) (addB a (numB 0)) with
    | true => exact .inl rfl
    | false => rw [h] at h4; exact .inr ⟨rfl, by simpa using h4⟩
  by_cases hf : sqrtE a = 0
  · obtain k4 | ⟨k4, k4'⟩ := k4
    · exact FnOk.of_out (Γ := [awake_con, fmul_con, fadd_con, fsub_con, fsqrt_con]) tys_ok mixed Try.func6 (n := 100)
        (orc := [(19, [false]), (24, [false]), (31, [false]), (38, [false]), (53, [false]), (67, [true]), (72, [true])])
        (cs := [(sqrtE (mulB a a) != 0) = false, ((sqrtB (mulB a a)).b0.tmod 2 != 0) = false, (!eqB (mulB (sqrtB (mulB a a)) (sqrtB (mulB a a))) (mulB a a)) = false,
          (!eqB (sqrtB (mulB a a)) (addB a (numB 0))) = false, (sqrtE a != 0) = false, eqB (mulB (sqrtB a) (sqrtB a)) (addB a (numB 0)) = true, ((sqrtB a).b0.tmod 2 == 0) = true]) (by kernel_rfl)
        ⟨by simp [h1], by simp [h2], by simp [h3], by simp [k4], by simp [hf], (h5 hf).1, by simp [(h5 hf).2], trivial⟩ rfl rfl
    · exact FnOk.of_out (Γ := [awake_con, fmul_con, fadd_con, fsub_con, fsqrt_con]) tys_ok mixed Try.func6 (n := 100)
        (orc := [(19, [false]), (24, [false]), (31, [false]), (38, [true]), (44, [false]), (53, [false]), (67, [true]), (72, [true])])
        (cs := [(sqrtE (mulB a a) != 0) = false, ((sqrtB (mulB a a)).b0.tmod 2 != 0) = false, (!eqB (mulB (sqrtB (mulB a a)) (sqrtB (mulB a a))) (mulB a a)) = false,
          (!eqB (sqrtB (mulB a a)) (addB a (numB 0))) = true, (!eqB (sqrtB (mulB a a)) (subB (numB 0) a)) = false, (sqrtE a != 0) = false, eqB (mulB (sqrtB a) (sqrtB a)) (addB a (numB 0)) = true, ((sqrtB a).b0.tmod 2 == 0) = true]) (by kernel_rfl)
        ⟨by simp [h1], by simp [h2], by simp [h3], by simp [k4], by simp [k4'], by simp [hf], (h5 hf).1, by simp [(h5 hf).2], trivial⟩ rfl rfl
  · obtain k4 | ⟨k4, k4'⟩ := k4
    · exact FnOk.of_out (Γ := [awake_con, fmul_con, fadd_con, fsub_con, fsqrt_con]) tys_ok mixed Try.func6 (n := 100)
        (orc := [(19, [false]), (24, [false]), (31, [false]), (38, [false]), (53, [true]), (55, [true]), (59, [true])])
        (cs := [(sqrtE (mulB a a) != 0) = false, ((sqrtB (mulB a a)).b0.tmod 2 != 0) = false, (!eqB (mulB (sqrtB (mulB a a)) (sqrtB (mulB a a))) (mulB a a)) = false,
          (!eqB (sqrtB (mulB a a)) (addB a (numB 0))) = false, (sqrtE a != 0) = true, (sqrtE a == 4) = true, eqB (sqrtB a) (numB 0) = true]) (by kernel_rfl)
        ⟨by simp [h1], by simp [h2], by simp [h3], by simp [k4], by simp [hf], by simp [(h6 hf).1], (h6 hf).2, trivial⟩ rfl rfl
    · exact FnOk.of_out (Γ := [awake_con, fmul_con, fadd_con, fsub_con, fsqrt_con]) tys_ok mixed Try.func6 (n := 100)
        (orc := [(19, [false]), (24, [false]), (31, [false]), (38, [true]), (44, [false]), (53, [true]), (55, [true]), (59, [true])])
        (cs := [(sqrtE (mulB a a) != 0) = false, ((sqrtB (mulB a a)).b0.tmod 2 != 0) = false, (!eqB (mulB (sqrtB (mulB a a)) (sqrtB (mulB a a))) (mulB a a)) = false,
          (!eqB (sqrtB (mulB a a)) (addB a (numB 0))) = true, (!eqB (sqrtB (mulB a a)) (subB (numB 0) a)) = false, (sqrtE a != 0) = true, (sqrtE a == 4) = true, eqB (sqrtB a) (numB 0) = true]) (by kernel_rfl)
        ⟨by simp [h1], by simp [h2], by simp [h3], by simp [k4], by simp [k4'], by simp [hf], by simp [(h6 hf).1], (h6 hf).2, trivial⟩ rfl rfl
end Go.Proofs.Ytmfobbdgmedhdaa

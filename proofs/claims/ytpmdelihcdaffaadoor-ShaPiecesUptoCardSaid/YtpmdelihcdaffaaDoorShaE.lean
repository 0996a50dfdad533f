/- Package sha2: bytes taken one by one, and chunk by chunk (no program in sight). -/
import Derived.Test.YtpmdelihcdaffaaDoorShaD
namespace Go.Proofs.YtpmdelihcdaffaaDoor
open Go Go.Eng
set_option linter.unusedVariables false
set_option maxRecDepth 100000

theorem u64_wrap (x : Int) : IntKind.u64.wrap x = x % 18446744073709551616 := by rw [IntKind.wrap_u64]
theorem B64.mk_congr {f g : Nat → Int} (h : ∀ i, i < 64 → f i = g i) : B64.mk' f = B64.mk' g := B64.ext_at fun i hi => by rw [B64.at_mk _ i hi, B64.at_mk _ i hi, h i hi]
/-- One more byte. -/
def stepB (S : Hs) (y : Int) : Hs :=
  if (S.n % 64).toNat = 63 then blkS ⟨S.h, B64.mk' (fun j => if j = (S.n % 64).toNat then y else S.r.at j), IntKind.u64.wrap (S.n + 1)⟩
  else ⟨S.h, B64.mk' (fun j => if j = (S.n % 64).toNat then y else S.r.at j), IntKind.u64.wrap (S.n + 1)⟩
def absorb (S : Hs) (ys : List Int) : Hs := ys.foldl stepB S
theorem absorb_append (S : Hs) (a b : List Int) : absorb S (a ++ b) = absorb (absorb S a) b := List.foldl_append
theorem stepB_n (S : Hs) (y : Int) : (stepB S y).n = IntKind.u64.wrap (S.n + 1) := by
  unfold stepB
  split <;> rfl
theorem absorb_n (ys : List Int) : ∀ (S : Hs), 0 ≤ S.n → S.n < 18446744073709551616 → (absorb S ys).n = IntKind.u64.wrap (S.n + ys.length) := by
  induction ys with
  | nil => intro S h0 h1; rw [u64_wrap]; show S.n = _; simp only [List.length_nil]; omega
  | cons y r ih =>
    intro S h0 h1
    show (absorb (stepB S y) r).n = _
    rw [ih _ (by rw [stepB_n, u64_wrap]; omega) (by rw [stepB_n, u64_wrap]; omega), stepB_n, u64_wrap, u64_wrap, u64_wrap]
    simp only [List.length_cons]
    omega
theorem absorb_nn (ys : List Int) (S : Hs) (h : 0 ≤ S.n) : 0 ≤ (absorb S ys).n := by
  induction ys generalizing S with
  | nil => exact h
  | cons y r ih => exact ih _ (by rw [stepB_n, u64_wrap]; omega)
def chunkS (S : Hs) (o : Nat) (zs : List Int) (n' : Int) : Hs := ⟨S.h, B64.mk' (putF o zs S.r.at), n'⟩
theorem absorb_chunk : ∀ (zs : List Int) (S : Hs) (a : Nat), 0 ≤ S.n → (a : Int) = S.n % 64 → a + zs.length ≤ 64 → 0 < zs.length →
    absorb S zs = if a + zs.length = 64 then blkS (chunkS S a zs (IntKind.u64.wrap (S.n + zs.length))) else chunkS S a zs (IntKind.u64.wrap (S.n + zs.length))
  | [], S, a, h0, ha, hle, hp => by simp at hp
  | z :: r, S, a, h0, ha, hle, hp => by
    have hat : (S.n % 64).toNat = a := by omega
    simp only [List.length_cons] at hle
    have e1 : B64.mk' (fun j => if j = (S.n % 64).toNat then z else S.r.at j) = B64.mk' (putF a [z] S.r.at) := B64.mk_congr fun i hi => by
      rw [hat, putF_if]
      by_cases h : i = a
      · subst h; simp
      · rw [if_neg h, if_neg (by simp only [List.length_singleton]; omega)]
    cases r with
    | nil =>
      show stepB S z = _
      unfold stepB
      rw [e1, hat]
      simp only [List.length_singleton]
      by_cases h : a = 63
      · rw [if_pos h, if_pos (by omega)]; rfl
      · rw [if_neg h, if_neg (by omega)]; rfl
    | cons z2 r =>
      simp only [List.length_cons] at hle
      have h63 : a ≠ 63 := by omega
      have hst : stepB S z = ⟨S.h, B64.mk' (putF a [z] S.r.at), IntKind.u64.wrap (S.n + 1)⟩ := by
        unfold stepB
        rw [e1, hat, if_neg h63]
      show absorb (stepB S z) (z2 :: r) = _
      have hn : (stepB S z).n = (S.n + 1) % 18446744073709551616 := by rw [stepB_n, u64_wrap]
      rw [absorb_chunk (z2 :: r) (stepB S z) (a + 1) (by rw [hn]; omega) (by rw [hn]; omega) (by simp only [List.length_cons]; omega) (by simp)]
      have e2 : chunkS (stepB S z) (a + 1) (z2 :: r) (IntKind.u64.wrap ((stepB S z).n + (z2 :: r).length)) = chunkS S a (z :: z2 :: r) (IntKind.u64.wrap (S.n + (z :: z2 :: r).length)) := by
        unfold chunkS
        have e3 : IntKind.u64.wrap ((stepB S z).n + (z2 :: r).length) = IntKind.u64.wrap (S.n + (z :: z2 :: r).length) := by
          rw [hn, u64_wrap, u64_wrap]
          simp only [List.length_cons]
          omega
        rw [e3]
        have e4 : B64.mk' (putF (a + 1) (z2 :: r) (stepB S z).r.at) = B64.mk' (putF a (z :: z2 :: r) S.r.at) := B64.mk_congr fun i hi => by
          rw [hst, putF_if, putF_if]
          simp only
          rw [B64.at_mk _ i hi, putF_if]
          simp only [List.length_cons, List.length_nil, Nat.zero_add]
          by_cases c1 : a + 1 ≤ i ∧ i - (a + 1) < r.length + 1
          · rw [if_pos c1, if_pos (by omega)]
            obtain ⟨d, hd⟩ : ∃ d, i - a = d + 1 := ⟨i - a - 1, by omega⟩
            rw [hd, show i - (a + 1) = d by omega]
            rfl
          · rw [if_neg c1]
            by_cases c2 : a ≤ i ∧ i - a < 1
            · rw [if_pos c2, if_pos (by omega)]
              have : i - a = 0 := by omega
              rw [this]; rfl
            · rw [if_neg c2, if_neg (by omega)]
        rw [e4, hst]
      rw [e2]
      simp only [List.length_cons]
      by_cases h : a + (r.length + 1 + 1) = 64
      · rw [if_pos h, if_pos (by omega)]
      · rw [if_neg h, if_neg (by omega)]
end Go.Proofs.YtpmdelihcdaffaaDoor

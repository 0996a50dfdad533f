/- Package beaconref01: MAC: its loop, its walk, its contract. -/
import Derived.Test.YtpmdelihcdaffaaDoorRMac
namespace Go.Proofs.YtpmdelihcdaffaaDoor
open Go Go.Eng Go.RowKit
set_option linter.unusedVariables false
set_option linter.unusedSimpArgs false
set_option maxRecDepth 100000

theorem xor_byt (x y : Int) : Byt (bits .xor .u8 x y) := by
  unfold bits Byt
  simp only [u8_wrap]
  omega
theorem xorP_byt (K : Nat → Int) (x : Int) : ∀ i, ∀ y ∈ xorP K x i, Byt y
  | 0, y, h => by cases h
  | i + 1, y, h => by
    rw [xorP_succ, List.mem_append, List.mem_singleton] at h
    rcases h with h | rfl
    · exact xorP_byt K x i y h
    · exact xor_byt _ _
theorem xorP_length (K : Nat → Int) (x : Int) (i : Nat) : (xorP K x i).length = i := restL_length _ _ _
theorem outR_byt (h : Nat → Int) : ∀ y ∈ (outR h).to, Byt y := by
  intro y hy
  have : ∀ y ∈ (outR h).to, ∃ x, y = IntKind.u8.wrap x := by
    intro y hy
    simp only [B32.to, outR, List.mem_cons, List.not_mem_nil, or_false] at hy
    rcases hy with rfl | rfl | rfl | rfl | rfl | rfl | rfl | rfl | rfl | rfl | rfl | rfl | rfl | rfl | rfl | rfl | rfl | rfl | rfl | rfl | rfl | rfl | rfl | rfl | rfl | rfl | rfl | rfl | rfl | rfl | rfl | rfl <;> exact ⟨_, rfl⟩
  obtain ⟨x, rfl⟩ := this y hy
  unfold Byt
  rw [u8_wrap]
  omega
theorem byt_app {a b : List Int} (h1 : ∀ y ∈ a, Byt y) (h2 : ∀ y ∈ b, Byt y) : ∀ y ∈ a ++ b, Byt y := fun y hy => (List.mem_append.1 hy).elim (h1 y) (h2 y)
def refI (K : Nat → Int) (msg : List Int) : B32 := refB (xorP K 54 64 ++ msg)
def refO (K : Nat → Int) (b : B32) : B32 := refB (xorP K 92 64 ++ b.to)
theorem to_len (b : B32) : b.to.length = 32 := rfl
namespace rmac
section
variable {Post : Ex → List SV → List Blk → Prop}
theorem Lw.st11 (y0 : List Int) (n0 c0 : Nat) (ty0 : TypeId) (y1 : List Int) (n1 c1 : Nat) (ty1 : TypeId) (K : Nat → Int) (us vs : List Int) (lu lv i : Nat) (h64 : i < 64) (hl : i = vs.length) (hp : ∀ g lo', Post .normal (fill g 0 (Lw.MQ y0 n0 c0 ty0 y1 n1 c1 ty1 i)) (Lw.memI y0 n0 c0 ty0 y1 n1 c1 ty1 K us lu none (vs ++ [bits .xor .u8 (K i) 92]) lo' none)) (g : Nat → SV) : RunsF Tryd.prog Gs 2 R11 (fill g 0 (Lw.MK y0 n0 c0 ty0 y1 n1 c1 ty1 i)) (Lw.memI y0 n0 c0 ty0 y1 n1 c1 ty1 K us lu none vs lv none) Post := by
  refine Runs.room 5 (i + 1) (own := true) (ty := 5) (kd := .u8) (xs := vs) (lo := lv) rfl ?_ ?_
  · exact Runs.of_outX tys_ok mixed (Lw.r11i y0 n0 c0 ty0 y1 n1 c1 ty1 K us lu vs lv i (K i) g) ⟨by omega, by omega, by rw [restL_length]; omega, restL_get0 K i h64, by decide, hl, Nat.le_refl _, trivial⟩ (Lw.idsQ _ _ _ _ _ _ _ _ _ _ _ _ _ _ _ _) rfl fun g' => hp g' _
  · exact Runs.of_outN tys_ok mixed _ (Lw.r11g y0 n0 c0 ty0 y1 n1 c1 ty1 K us lu vs lv i (K i) g) ⟨by omega, by omega, by rw [restL_length]; omega, restL_get0 K i h64, by decide, hl, Nat.le_refl _, room_u8 _ (by omega), trivial⟩ (Lw.idsQ _ _ _ _ _ _ _ _ _ _ _ _ _ _ _ _) rfl fun g' => hp g' _
theorem Lw.st10 (y0 : List Int) (n0 c0 : Nat) (ty0 : TypeId) (y1 : List Int) (n1 c1 : Nat) (ty1 : TypeId) (K : Nat → Int) (us vs : List Int) (lu lv i : Nat) (h64 : i < 64) (hl : i = us.length) (hp : ∀ g lo', Post .normal (fill g 0 (Lw.MK y0 n0 c0 ty0 y1 n1 c1 ty1 i)) (Lw.memI y0 n0 c0 ty0 y1 n1 c1 ty1 K (us ++ [bits .xor .u8 (K i) 54]) lo' none vs lv none)) (g : Nat → SV) : RunsF Tryd.prog Gs 2 R10 (fill g 0 (Lw.MJ y0 n0 c0 ty0 y1 n1 c1 ty1 i)) (Lw.memI y0 n0 c0 ty0 y1 n1 c1 ty1 K us lu none vs lv none) Post := by
  refine Runs.room 4 (i + 1) (own := true) (ty := 5) (kd := .u8) (xs := us) (lo := lu) rfl ?_ ?_
  · exact Runs.of_outX tys_ok mixed (Lw.r10i y0 n0 c0 ty0 y1 n1 c1 ty1 K us lu vs lv i (K i) g) ⟨by omega, by omega, by rw [restL_length]; omega, restL_get0 K i h64, by decide, hl, Nat.le_refl _, trivial⟩ (Lw.idsK _ _ _ _ _ _ _ _ _ _ _ _ _ _ _ _) rfl fun g' => hp g' _
  · exact Runs.of_outN tys_ok mixed _ (Lw.r10g y0 n0 c0 ty0 y1 n1 c1 ty1 K us lu vs lv i (K i) g) ⟨by omega, by omega, by rw [restL_length]; omega, restL_get0 K i h64, by decide, hl, Nat.le_refl _, room_u8 _ (by omega), trivial⟩ (Lw.idsK _ _ _ _ _ _ _ _ _ _ _ _ _ _ _ _) rfl fun g' => hp g' _
theorem Lw.loop (y0 : List Int) (n0 c0 : Nat) (ty0 : TypeId) (y1 : List Int) (n1 c1 : Nat) (ty1 : TypeId) (K : Nat → Int) (hp : ∀ g lu lv, Post .normal (fill g 0 (Lw.MI y0 n0 c0 ty0 y1 n1 c1 ty1 64)) (Lw.memI y0 n0 c0 ty0 y1 n1 c1 ty1 K (xorP K 54 64) lu none (xorP K 92 64) lv none)) (g : Nat → SV) : RunsF Tryd.prog Gs 2 (.block 0 (.loop L)) (fill g 0 (Lw.M0 y0 n0 c0 ty0 y1 n1 c1 ty1 )) (Lw.memA y0 n0 c0 ty0 y1 n1 c1 ty1 K) Post := by
  refine Runs.block ?_
  refine Runs.loopX (fun (x : Option (Nat × Nat × Nat)) => match x with | none => Lw.M0 y0 n0 c0 ty0 y1 n1 c1 ty1  | some x => Lw.MI y0 n0 c0 ty0 y1 n1 c1 ty1 x.1) (fun x => match x with | none => Lw.memA y0 n0 c0 ty0 y1 n1 c1 ty1 K | some x => Lw.memI y0 n0 c0 ty0 y1 n1 c1 ty1 K (xorP K 54 x.1) x.2.1 none (xorP K 92 x.1) x.2.2 none) (fun x => match x with | none => True | some x => 1 ≤ x.1 ∧ x.1 ≤ 64) (fun x => match x with | none => 65 | some x => 64 - x.1) ?_ none trivial g
  rintro (_ | ⟨i, lu, lv⟩) g hI
  · exact Runs.of_outN tys_ok mixed _ (Lw.first y0 n0 c0 ty0 y1 n1 c1 ty1 K g) ⟨by decide, by decide, room_u8 _ (by decide), by decide, by decide, room_u8 _ (by decide), trivial⟩ (Lw.idsI _ _ _ _ _ _ _ _ _ _ _ _ _ _ _ _) rfl fun g' => ⟨some (1, 1, 1), g', rfl, rfl, ⟨by decide, by decide⟩, by decide⟩
  · obtain ⟨i1, i2⟩ := hI
    simp only at i1 i2
    by_cases hlt : i < 64
    · refine Runs.of_outXP tys_ok mixed 2 (Lw.go y0 n0 c0 ty0 y1 n1 c1 ty1 K (xorP K 54 i) lu (xorP K 92 i) lv i g) ⟨decide_eq_true (by omega), trivial⟩ (Lw.idsI _ _ _ _ _ _ _ _ _ _ _ _ _ _ _ _) rfl fun g1 => ?_
      rw [L_suf]
      refine Runs.seq (Runs.block (Runs.seq (Runs.of_outX tys_ok mixed (Lw.r9 y0 n0 c0 ty0 y1 n1 c1 ty1 K (xorP K 54 i) lu (xorP K 92 i) lv i g1) trivial (Lw.idsJ _ _ _ _ _ _ _ _ _ _ _ _ _ _ _ _) rfl fun g2 => ?_)))
      refine Runs.seq (Lw.st10 y0 n0 c0 ty0 y1 n1 c1 ty1 K _ _ lu lv i hlt (xorP_length _ _ _).symm (fun g3 lu' => ?_) g2)
      refine Lw.st11 y0 n0 c0 ty0 y1 n1 c1 ty1 K _ _ lu' lv i hlt (xorP_length _ _ _).symm (fun g4 lv' => ?_) g3
      refine Runs.of_outX tys_ok mixed (Lw.r12 y0 n0 c0 ty0 y1 n1 c1 ty1 K _ lu' _ lv' i g4) ⟨i64_small _ (by omega) (by omega), trivial⟩ (Lw.idsI _ _ _ _ _ _ _ _ _ _ _ _ _ _ _ _) rfl fun g5 => ⟨some (i + 1, lu', lv'), g5, rfl, ?_, ⟨by simp only; omega, by simp only; omega⟩, by simp only; omega⟩
      simp only [xorP_succ]
    · obtain rfl : i = 64 := by omega
      exact Runs.of_outX tys_ok mixed (Lw.stop y0 n0 c0 ty0 y1 n1 c1 ty1 K (xorP K 54 64) lu (xorP K 92 64) lv 64 g) ⟨decide_eq_false (by omega), trivial⟩ (Lw.idsI _ _ _ _ _ _ _ _ _ _ _ _ _ _ _ _) rfl fun g' => hp g' lu lv
theorem Lw.hash1 (y0 : List Int) (n0 c0 : Nat) (ty0 : TypeId) (y1 : List Int) (n1 c1 : Nat) (ty1 : TypeId) (K : Nat → Int) (lu lv : Nat) (hy1 : y1.length = n1) (hs : n1 ≤ 140737488353936) (b1 : ∀ y ∈ y1, Byt y) (hp : ∀ g, Post .normal (fill g 0 (Lw.MH y0 n0 c0 ty0 y1 n1 c1 ty1 )) (Lw.memH y0 n0 c0 ty0 y1 n1 c1 ty1 (xorP K 92 64) lv none (refI K y1))) (g : Nat → SV) : RunsF Tryd.prog Gs 2 R13 (fill g 0 (Lw.MI y0 n0 c0 ty0 y1 n1 c1 ty1 64)) (Lw.memI y0 n0 c0 ty0 y1 n1 c1 ty1 K (xorP K 54 64) lu none (xorP K 92 64) lv none) Post := by
  have e : ((xorP K 54 64 ++ ((y1.drop 0).take n1)).drop 0).take (64 + n1) = xorP K 54 64 ++ y1 := by rw [List.drop_zero, List.drop_zero, List.take_of_length_le (l := y1) (by omega), List.take_of_length_le (by rw [List.length_append, xorP_length]; omega)]
  have el : (xorP K 54 64 ++ ((y1.drop 0).take n1)).length = 64 + n1 := by rw [List.drop_zero, List.take_of_length_le (l := y1) (by omega), List.length_append, xorP_length, hy1]
  refine Runs.room 4 (64 + n1) (own := true) (ty := 5) (kd := .u8) (xs := xorP K 54 64) (lo := lu) rfl ?_ ?_
  · exact Runs.of_outN tys_ok mixed _ (Lw.r13i y0 n0 c0 ty0 y1 n1 c1 ty1 K (xorP K 54 64) lu (xorP K 92 64) lv (refI K y1) g) ⟨by omega, (xorP_length _ _ _).symm, Nat.le_refl _, by omega, Nat.le_refl _, by omega, by rw [e]; exact byt_app (xorP_byt _ _ _) (b1), by rw [e]; rfl, trivial⟩ (Lw.idsH _ _ _ _ _ _ _ _ _ _ _ _) rfl hp
  · exact Runs.of_outN tys_ok mixed _ (Lw.r13g y0 n0 c0 ty0 y1 n1 c1 ty1 K (xorP K 54 64) lu (xorP K 92 64) lv (refI K y1) g) ⟨by omega, (xorP_length _ _ _).symm, Nat.le_refl _, room_u8 _ (by omega), by omega, Nat.le_refl _, by omega, by rw [e]; exact byt_app (xorP_byt _ _ _) (b1), by rw [e]; rfl, trivial⟩ (Lw.idsH _ _ _ _ _ _ _ _ _ _ _ _) rfl hp
theorem Lw.hash2 (y0 : List Int) (n0 c0 : Nat) (ty0 : TypeId) (y1 : List Int) (n1 c1 : Nat) (ty1 : TypeId) (K : Nat → Int) (lv : Nat) (m : List Int) (g : Nat → SV) : RunsF Tryd.prog Gs 2 T14 (fill g 0 (Lw.MH y0 n0 c0 ty0 y1 n1 c1 ty1 )) (Lw.memH y0 n0 c0 ty0 y1 n1 c1 ty1 (xorP K 92 64) lv none (refI K m)) (EndsM tys fn (endsQ (cB32.enc (refO K (refI K m))) .none)) := by
  have e : ((xorP K 92 64 ++ (refI K m).to).drop 0).take 96 = xorP K 92 64 ++ (refI K m).to := by rw [List.drop_zero, List.take_of_length_le (by rw [List.length_append, xorP_length, to_len]; exact Nat.le_refl _)]
  refine Runs.room 3 96 (own := true) (ty := 5) (kd := .u8) (xs := xorP K 92 64) (lo := lv) rfl ?_ ?_
  · exact Runs.of_exec tys_ok mixed (Lw.di y0 n0 c0 ty0 y1 n1 c1 ty1 (xorP K 92 64) lv (refI K m) (refO K (refI K m)) g) ⟨by decide, (xorP_length _ _ _).symm, by decide, by rw [List.length_append, xorP_length, to_len]; decide, by decide, by decide, by rw [e]; exact byt_app (xorP_byt _ _ _) (outR_byt _), by rw [e]; rfl, trivial⟩ (EndsM.ret (Lw.resi y0 n0 c0 ty0 y1 n1 c1 ty1 _ _ _ _ _) rfl)
  · exact Runs.of_exec tys_ok mixed (Lw.dg y0 n0 c0 ty0 y1 n1 c1 ty1 (xorP K 92 64) lv (refI K m) (refO K (refI K m)) g) ⟨by decide, (xorP_length _ _ _).symm, by decide, room_u8 _ (by decide), by rw [List.length_append, xorP_length, to_len]; decide, by decide, by decide, by rw [e]; exact byt_app (xorP_byt _ _ _) (outR_byt _), by rw [e]; rfl, trivial⟩ (EndsM.ret (Lw.resg y0 n0 c0 ty0 y1 n1 c1 ty1 _ _ _ _ _) rfl)
theorem Lw.tail (y0 : List Int) (n0 c0 : Nat) (ty0 : TypeId) (y1 : List Int) (n1 c1 : Nat) (ty1 : TypeId) (K : Nat → Int) (hy1 : y1.length = n1) (hs : n1 ≤ 140737488353936) (b1 : ∀ y ∈ y1, Byt y) (g : Nat → SV) : RunsF Tryd.prog Gs 2 (csuf 4 body) (fill g 0 (Lw.MA y0 n0 c0 ty0 y1 n1 c1 ty1 )) (Lw.memA y0 n0 c0 ty0 y1 n1 c1 ty1 K) (EndsM tys fn (endsQ (cB32.enc (refO K (refI K y1))) .none)) := by
  rw [T7_eq]
  refine Runs.seq (Runs.seq (Runs.of_outX tys_ok mixed (Lw.a7 y0 n0 c0 ty0 y1 n1 c1 ty1 K g) trivial (Lw.ids0 _ _ _ _ _ _ _ _ _) rfl fun g1 => ?_))
  refine Lw.loop y0 n0 c0 ty0 y1 n1 c1 ty1 K (fun g2 lu lv => ?_) g1
  refine Runs.seq (Lw.hash1 y0 n0 c0 ty0 y1 n1 c1 ty1 K lu lv hy1 hs b1 (fun g3 => ?_) g2)
  exact Lw.hash2 y0 n0 c0 ty0 y1 n1 c1 ty1 K lv y1 g3
theorem Lw.walk (y0 : List Int) (n0 c0 : Nat) (ty0 : TypeId) (y1 : List Int) (n1 c1 : Nat) (ty1 : TypeId) (hy0 : y0.length = n0) (hc0 : n0 ≤ c0) (hk : 64 < n0) (hs0 : n0 ≤ 140737488354000) (b0 : ∀ y ∈ y0, Byt y) (hy1 : y1.length = n1) (hs : n1 ≤ 140737488353936) (b1 : ∀ y ∈ y1, Byt y) : RunsF Tryd.prog Gs 2 body (startT fn [.o (.a (.sld 0 0 0 n0 c0)), .o (.a (.sld 1 0 0 n1 c1))]) [⟨false, ty0, .pre .u8 y0⟩, ⟨false, ty1, .pre .u8 y1⟩] (EndsM tys fn (endsQ (cB32.enc (refO (klong (refB y0)) (refI (klong (refB y0)) y1))) .none)) := by
  have e0 : (y0.drop 0).take n0 = y0 := by rw [List.drop_zero, List.take_of_length_le (by omega)]
  have hx := Lw.s1 y0 n0 c0 ty0 y1 n1 c1 ty1 (refB y0) 
  have ht := Lw.tail y0 n0 c0 ty0 y1 n1 c1 ty1 (klong (refB y0)) hy1 hs b1 
  exact Runs.of_outXP tys_ok mixed 4 hx ⟨decide_eq_true (by omega), by omega, hc0, hs0, fun y hy => by rw [e0] at hy; exact b0 y hy, by rw [e0], by decide, by decide, trivial⟩ (Lw.idsA _ _ _ _ _ _ _ _ _) rfl ht
theorem Ln.st11 (y0 : List Int) (n0 c0 : Nat) (ty0 : TypeId) (a1 : Option Addr) (K : Nat → Int) (us vs : List Int) (lu lv i : Nat) (h64 : i < 64) (hl : i = vs.length) (hp : ∀ g lo', Post .normal (fill g 0 (Ln.MQ y0 n0 c0 ty0 a1 i)) (Ln.memI y0 n0 c0 ty0 a1 K us lu none (vs ++ [bits .xor .u8 (K i) 92]) lo' none)) (g : Nat → SV) : RunsF Tryd.prog Gs 1 R11 (fill g 0 (Ln.MK y0 n0 c0 ty0 a1 i)) (Ln.memI y0 n0 c0 ty0 a1 K us lu none vs lv none) Post := by
  refine Runs.room 4 (i + 1) (own := true) (ty := 5) (kd := .u8) (xs := vs) (lo := lv) rfl ?_ ?_
  · exact Runs.of_outX tys_ok mixed (Ln.r11i y0 n0 c0 ty0 a1 K us lu vs lv i (K i) g) ⟨by omega, by omega, by rw [restL_length]; omega, restL_get0 K i h64, by decide, hl, Nat.le_refl _, trivial⟩ (Ln.idsQ _ _ _ _ _ _ _ _ _ _ _ _ _) rfl fun g' => hp g' _
  · exact Runs.of_outN tys_ok mixed _ (Ln.r11g y0 n0 c0 ty0 a1 K us lu vs lv i (K i) g) ⟨by omega, by omega, by rw [restL_length]; omega, restL_get0 K i h64, by decide, hl, Nat.le_refl _, room_u8 _ (by omega), trivial⟩ (Ln.idsQ _ _ _ _ _ _ _ _ _ _ _ _ _) rfl fun g' => hp g' _
theorem Ln.st10 (y0 : List Int) (n0 c0 : Nat) (ty0 : TypeId) (a1 : Option Addr) (K : Nat → Int) (us vs : List Int) (lu lv i : Nat) (h64 : i < 64) (hl : i = us.length) (hp : ∀ g lo', Post .normal (fill g 0 (Ln.MK y0 n0 c0 ty0 a1 i)) (Ln.memI y0 n0 c0 ty0 a1 K (us ++ [bits .xor .u8 (K i) 54]) lo' none vs lv none)) (g : Nat → SV) : RunsF Tryd.prog Gs 1 R10 (fill g 0 (Ln.MJ y0 n0 c0 ty0 a1 i)) (Ln.memI y0 n0 c0 ty0 a1 K us lu none vs lv none) Post := by
  refine Runs.room 3 (i + 1) (own := true) (ty := 5) (kd := .u8) (xs := us) (lo := lu) rfl ?_ ?_
  · exact Runs.of_outX tys_ok mixed (Ln.r10i y0 n0 c0 ty0 a1 K us lu vs lv i (K i) g) ⟨by omega, by omega, by rw [restL_length]; omega, restL_get0 K i h64, by decide, hl, Nat.le_refl _, trivial⟩ (Ln.idsK _ _ _ _ _ _ _ _ _ _ _ _ _) rfl fun g' => hp g' _
  · exact Runs.of_outN tys_ok mixed _ (Ln.r10g y0 n0 c0 ty0 a1 K us lu vs lv i (K i) g) ⟨by omega, by omega, by rw [restL_length]; omega, restL_get0 K i h64, by decide, hl, Nat.le_refl _, room_u8 _ (by omega), trivial⟩ (Ln.idsK _ _ _ _ _ _ _ _ _ _ _ _ _) rfl fun g' => hp g' _
theorem Ln.loop (y0 : List Int) (n0 c0 : Nat) (ty0 : TypeId) (a1 : Option Addr) (K : Nat → Int) (hp : ∀ g lu lv, Post .normal (fill g 0 (Ln.MI y0 n0 c0 ty0 a1 64)) (Ln.memI y0 n0 c0 ty0 a1 K (xorP K 54 64) lu none (xorP K 92 64) lv none)) (g : Nat → SV) : RunsF Tryd.prog Gs 1 (.block 0 (.loop L)) (fill g 0 (Ln.M0 y0 n0 c0 ty0 a1 )) (Ln.memA y0 n0 c0 ty0 a1 K) Post := by
  refine Runs.block ?_
  refine Runs.loopX (fun (x : Option (Nat × Nat × Nat)) => match x with | none => Ln.M0 y0 n0 c0 ty0 a1  | some x => Ln.MI y0 n0 c0 ty0 a1 x.1) (fun x => match x with | none => Ln.memA y0 n0 c0 ty0 a1 K | some x => Ln.memI y0 n0 c0 ty0 a1 K (xorP K 54 x.1) x.2.1 none (xorP K 92 x.1) x.2.2 none) (fun x => match x with | none => True | some x => 1 ≤ x.1 ∧ x.1 ≤ 64) (fun x => match x with | none => 65 | some x => 64 - x.1) ?_ none trivial g
  rintro (_ | ⟨i, lu, lv⟩) g hI
  · exact Runs.of_outN tys_ok mixed _ (Ln.first y0 n0 c0 ty0 a1 K g) ⟨by decide, by decide, room_u8 _ (by decide), by decide, by decide, room_u8 _ (by decide), trivial⟩ (Ln.idsI _ _ _ _ _ _ _ _ _ _ _ _ _) rfl fun g' => ⟨some (1, 1, 1), g', rfl, rfl, ⟨by decide, by decide⟩, by decide⟩
  · obtain ⟨i1, i2⟩ := hI
    simp only at i1 i2
    by_cases hlt : i < 64
    · refine Runs.of_outXP tys_ok mixed 2 (Ln.go y0 n0 c0 ty0 a1 K (xorP K 54 i) lu (xorP K 92 i) lv i g) ⟨decide_eq_true (by omega), trivial⟩ (Ln.idsI _ _ _ _ _ _ _ _ _ _ _ _ _) rfl fun g1 => ?_
      rw [L_suf]
      refine Runs.seq (Runs.block (Runs.seq (Runs.of_outX tys_ok mixed (Ln.r9 y0 n0 c0 ty0 a1 K (xorP K 54 i) lu (xorP K 92 i) lv i g1) trivial (Ln.idsJ _ _ _ _ _ _ _ _ _ _ _ _ _) rfl fun g2 => ?_)))
      refine Runs.seq (Ln.st10 y0 n0 c0 ty0 a1 K _ _ lu lv i hlt (xorP_length _ _ _).symm (fun g3 lu' => ?_) g2)
      refine Ln.st11 y0 n0 c0 ty0 a1 K _ _ lu' lv i hlt (xorP_length _ _ _).symm (fun g4 lv' => ?_) g3
      refine Runs.of_outX tys_ok mixed (Ln.r12 y0 n0 c0 ty0 a1 K _ lu' _ lv' i g4) ⟨i64_small _ (by omega) (by omega), trivial⟩ (Ln.idsI _ _ _ _ _ _ _ _ _ _ _ _ _) rfl fun g5 => ⟨some (i + 1, lu', lv'), g5, rfl, ?_, ⟨by simp only; omega, by simp only; omega⟩, by simp only; omega⟩
      simp only [xorP_succ]
    · obtain rfl : i = 64 := by omega
      exact Runs.of_outX tys_ok mixed (Ln.stop y0 n0 c0 ty0 a1 K (xorP K 54 64) lu (xorP K 92 64) lv 64 g) ⟨decide_eq_false (by omega), trivial⟩ (Ln.idsI _ _ _ _ _ _ _ _ _ _ _ _ _) rfl fun g' => hp g' lu lv
theorem Ln.hash1 (y0 : List Int) (n0 c0 : Nat) (ty0 : TypeId) (a1 : Option Addr) (K : Nat → Int) (lu lv : Nat) (hp : ∀ g, Post .normal (fill g 0 (Ln.MH y0 n0 c0 ty0 a1 )) (Ln.memH y0 n0 c0 ty0 a1 (xorP K 92 64) lv none (refI K []))) (g : Nat → SV) : RunsF Tryd.prog Gs 1 R13 (fill g 0 (Ln.MI y0 n0 c0 ty0 a1 64)) (Ln.memI y0 n0 c0 ty0 a1 K (xorP K 54 64) lu none (xorP K 92 64) lv none) Post := by
  have e : ((xorP K 54 64 ++ []).drop 0).take (64 + 0) = xorP K 54 64 ++ [] := by rw [List.drop_zero, List.take_of_length_le (by rw [List.length_append, xorP_length]; exact Nat.le_refl _)]
  have el : (xorP K 54 64 ++ []).length = 64 + 0 := by rw [List.append_nil, xorP_length]
  refine Runs.room 3 (64 + 0) (own := true) (ty := 5) (kd := .u8) (xs := xorP K 54 64) (lo := lu) rfl ?_ ?_
  · exact Runs.of_outN tys_ok mixed _ (Ln.r13i y0 n0 c0 ty0 a1 K (xorP K 54 64) lu (xorP K 92 64) lv (refI K []) g) ⟨(xorP_length _ _ _).symm, Nat.le_refl _, by omega, Nat.le_refl _, by omega, by rw [e]; exact byt_app (xorP_byt _ _ _) (fun y hy => by cases hy), by rw [e]; rfl, trivial⟩ (Ln.idsH _ _ _ _ _ _ _ _ _) rfl hp
  · exact Runs.of_outN tys_ok mixed _ (Ln.r13g y0 n0 c0 ty0 a1 K (xorP K 54 64) lu (xorP K 92 64) lv (refI K []) g) ⟨(xorP_length _ _ _).symm, Nat.le_refl _, room_u8 _ (by omega), by omega, Nat.le_refl _, by omega, by rw [e]; exact byt_app (xorP_byt _ _ _) (fun y hy => by cases hy), by rw [e]; rfl, trivial⟩ (Ln.idsH _ _ _ _ _ _ _ _ _) rfl hp
theorem Ln.hash2 (y0 : List Int) (n0 c0 : Nat) (ty0 : TypeId) (a1 : Option Addr) (K : Nat → Int) (lv : Nat) (m : List Int) (g : Nat → SV) : RunsF Tryd.prog Gs 1 T14 (fill g 0 (Ln.MH y0 n0 c0 ty0 a1 )) (Ln.memH y0 n0 c0 ty0 a1 (xorP K 92 64) lv none (refI K m)) (EndsM tys fn (endsQ (cB32.enc (refO K (refI K m))) .none)) := by
  have e : ((xorP K 92 64 ++ (refI K m).to).drop 0).take 96 = xorP K 92 64 ++ (refI K m).to := by rw [List.drop_zero, List.take_of_length_le (by rw [List.length_append, xorP_length, to_len]; exact Nat.le_refl _)]
  refine Runs.room 2 96 (own := true) (ty := 5) (kd := .u8) (xs := xorP K 92 64) (lo := lv) rfl ?_ ?_
  · exact Runs.of_exec tys_ok mixed (Ln.di y0 n0 c0 ty0 a1 (xorP K 92 64) lv (refI K m) (refO K (refI K m)) g) ⟨by decide, (xorP_length _ _ _).symm, by decide, by rw [List.length_append, xorP_length, to_len]; decide, by decide, by decide, by rw [e]; exact byt_app (xorP_byt _ _ _) (outR_byt _), by rw [e]; rfl, trivial⟩ (EndsM.ret (Ln.resi y0 n0 c0 ty0 a1 _ _ _ _ _) rfl)
  · exact Runs.of_exec tys_ok mixed (Ln.dg y0 n0 c0 ty0 a1 (xorP K 92 64) lv (refI K m) (refO K (refI K m)) g) ⟨by decide, (xorP_length _ _ _).symm, by decide, room_u8 _ (by decide), by rw [List.length_append, xorP_length, to_len]; decide, by decide, by decide, by rw [e]; exact byt_app (xorP_byt _ _ _) (outR_byt _), by rw [e]; rfl, trivial⟩ (EndsM.ret (Ln.resg y0 n0 c0 ty0 a1 _ _ _ _ _) rfl)
theorem Ln.tail (y0 : List Int) (n0 c0 : Nat) (ty0 : TypeId) (a1 : Option Addr) (K : Nat → Int) (g : Nat → SV) : RunsF Tryd.prog Gs 1 (csuf 4 body) (fill g 0 (Ln.MA y0 n0 c0 ty0 a1 )) (Ln.memA y0 n0 c0 ty0 a1 K) (EndsM tys fn (endsQ (cB32.enc (refO K (refI K []))) .none)) := by
  rw [T7_eq]
  refine Runs.seq (Runs.seq (Runs.of_outX tys_ok mixed (Ln.a7 y0 n0 c0 ty0 a1 K g) trivial (Ln.ids0 _ _ _ _ _ _) rfl fun g1 => ?_))
  refine Ln.loop y0 n0 c0 ty0 a1 K (fun g2 lu lv => ?_) g1
  refine Runs.seq (Ln.hash1 y0 n0 c0 ty0 a1 K lu lv (fun g3 => ?_) g2)
  exact Ln.hash2 y0 n0 c0 ty0 a1 K lv [] g3
theorem Ln.walk (y0 : List Int) (n0 c0 : Nat) (ty0 : TypeId) (a1 : Option Addr) (hy0 : y0.length = n0) (hc0 : n0 ≤ c0) (hk : 64 < n0) (hs0 : n0 ≤ 140737488354000) (b0 : ∀ y ∈ y0, Byt y) : RunsF Tryd.prog Gs 1 body (startT fn [.o (.a (.sld 0 0 0 n0 c0)), .o (.a (.v (.slice a1 0 0)))]) [⟨false, ty0, .pre .u8 y0⟩] (EndsM tys fn (endsQ (cB32.enc (refO (klong (refB y0)) (refI (klong (refB y0)) []))) .none)) := by
  have e0 : (y0.drop 0).take n0 = y0 := by rw [List.drop_zero, List.take_of_length_le (by omega)]
  have hx := Ln.s1 y0 n0 c0 ty0 a1 (refB y0) 
  have ht := Ln.tail y0 n0 c0 ty0 a1 (klong (refB y0)) 
  exact Runs.of_outXP tys_ok mixed 4 hx ⟨decide_eq_true (by omega), by omega, hc0, hs0, fun y hy => by rw [e0] at hy; exact b0 y hy, by rw [e0], by decide, by decide, trivial⟩ (Ln.idsA _ _ _ _ _ _) rfl ht
theorem Sw.st11 (y0 : List Int) (n0 c0 : Nat) (ty0 : TypeId) (y1 : List Int) (n1 c1 : Nat) (ty1 : TypeId) (K : Nat → Int) (us vs : List Int) (lu lv i : Nat) (h64 : i < 64) (hl : i = vs.length) (hp : ∀ g lo', Post .normal (fill g 0 (Sw.MQ y0 n0 c0 ty0 y1 n1 c1 ty1 i)) (Sw.memI y0 n0 c0 ty0 y1 n1 c1 ty1 K us lu none (vs ++ [bits .xor .u8 (K i) 92]) lo' none)) (g : Nat → SV) : RunsF Tryd.prog Gs 2 R11 (fill g 0 (Sw.MK y0 n0 c0 ty0 y1 n1 c1 ty1 i)) (Sw.memI y0 n0 c0 ty0 y1 n1 c1 ty1 K us lu none vs lv none) Post := by
  refine Runs.room 5 (i + 1) (own := true) (ty := 5) (kd := .u8) (xs := vs) (lo := lv) rfl ?_ ?_
  · exact Runs.of_outX tys_ok mixed (Sw.r11i y0 n0 c0 ty0 y1 n1 c1 ty1 K us lu vs lv i (K i) g) ⟨by omega, by omega, by rw [restL_length]; omega, restL_get0 K i h64, by decide, hl, Nat.le_refl _, trivial⟩ (Sw.idsQ _ _ _ _ _ _ _ _ _ _ _ _ _ _ _ _) rfl fun g' => hp g' _
  · exact Runs.of_outN tys_ok mixed _ (Sw.r11g y0 n0 c0 ty0 y1 n1 c1 ty1 K us lu vs lv i (K i) g) ⟨by omega, by omega, by rw [restL_length]; omega, restL_get0 K i h64, by decide, hl, Nat.le_refl _, room_u8 _ (by omega), trivial⟩ (Sw.idsQ _ _ _ _ _ _ _ _ _ _ _ _ _ _ _ _) rfl fun g' => hp g' _
theorem Sw.st10 (y0 : List Int) (n0 c0 : Nat) (ty0 : TypeId) (y1 : List Int) (n1 c1 : Nat) (ty1 : TypeId) (K : Nat → Int) (us vs : List Int) (lu lv i : Nat) (h64 : i < 64) (hl : i = us.length) (hp : ∀ g lo', Post .normal (fill g 0 (Sw.MK y0 n0 c0 ty0 y1 n1 c1 ty1 i)) (Sw.memI y0 n0 c0 ty0 y1 n1 c1 ty1 K (us ++ [bits .xor .u8 (K i) 54]) lo' none vs lv none)) (g : Nat → SV) : RunsF Tryd.prog Gs 2 R10 (fill g 0 (Sw.MJ y0 n0 c0 ty0 y1 n1 c1 ty1 i)) (Sw.memI y0 n0 c0 ty0 y1 n1 c1 ty1 K us lu none vs lv none) Post := by
  refine Runs.room 4 (i + 1) (own := true) (ty := 5) (kd := .u8) (xs := us) (lo := lu) rfl ?_ ?_
  · exact Runs.of_outX tys_ok mixed (Sw.r10i y0 n0 c0 ty0 y1 n1 c1 ty1 K us lu vs lv i (K i) g) ⟨by omega, by omega, by rw [restL_length]; omega, restL_get0 K i h64, by decide, hl, Nat.le_refl _, trivial⟩ (Sw.idsK _ _ _ _ _ _ _ _ _ _ _ _ _ _ _ _) rfl fun g' => hp g' _
  · exact Runs.of_outN tys_ok mixed _ (Sw.r10g y0 n0 c0 ty0 y1 n1 c1 ty1 K us lu vs lv i (K i) g) ⟨by omega, by omega, by rw [restL_length]; omega, restL_get0 K i h64, by decide, hl, Nat.le_refl _, room_u8 _ (by omega), trivial⟩ (Sw.idsK _ _ _ _ _ _ _ _ _ _ _ _ _ _ _ _) rfl fun g' => hp g' _
theorem Sw.loop (y0 : List Int) (n0 c0 : Nat) (ty0 : TypeId) (y1 : List Int) (n1 c1 : Nat) (ty1 : TypeId) (K : Nat → Int) (hp : ∀ g lu lv, Post .normal (fill g 0 (Sw.MI y0 n0 c0 ty0 y1 n1 c1 ty1 64)) (Sw.memI y0 n0 c0 ty0 y1 n1 c1 ty1 K (xorP K 54 64) lu none (xorP K 92 64) lv none)) (g : Nat → SV) : RunsF Tryd.prog Gs 2 (.block 0 (.loop L)) (fill g 0 (Sw.M0 y0 n0 c0 ty0 y1 n1 c1 ty1 )) (Sw.memA y0 n0 c0 ty0 y1 n1 c1 ty1 K) Post := by
  refine Runs.block ?_
  refine Runs.loopX (fun (x : Option (Nat × Nat × Nat)) => match x with | none => Sw.M0 y0 n0 c0 ty0 y1 n1 c1 ty1  | some x => Sw.MI y0 n0 c0 ty0 y1 n1 c1 ty1 x.1) (fun x => match x with | none => Sw.memA y0 n0 c0 ty0 y1 n1 c1 ty1 K | some x => Sw.memI y0 n0 c0 ty0 y1 n1 c1 ty1 K (xorP K 54 x.1) x.2.1 none (xorP K 92 x.1) x.2.2 none) (fun x => match x with | none => True | some x => 1 ≤ x.1 ∧ x.1 ≤ 64) (fun x => match x with | none => 65 | some x => 64 - x.1) ?_ none trivial g
  rintro (_ | ⟨i, lu, lv⟩) g hI
  · exact Runs.of_outN tys_ok mixed _ (Sw.first y0 n0 c0 ty0 y1 n1 c1 ty1 K g) ⟨by decide, by decide, room_u8 _ (by decide), by decide, by decide, room_u8 _ (by decide), trivial⟩ (Sw.idsI _ _ _ _ _ _ _ _ _ _ _ _ _ _ _ _) rfl fun g' => ⟨some (1, 1, 1), g', rfl, rfl, ⟨by decide, by decide⟩, by decide⟩
  · obtain ⟨i1, i2⟩ := hI
    simp only at i1 i2
    by_cases hlt : i < 64
    · refine Runs.of_outXP tys_ok mixed 2 (Sw.go y0 n0 c0 ty0 y1 n1 c1 ty1 K (xorP K 54 i) lu (xorP K 92 i) lv i g) ⟨decide_eq_true (by omega), trivial⟩ (Sw.idsI _ _ _ _ _ _ _ _ _ _ _ _ _ _ _ _) rfl fun g1 => ?_
      rw [L_suf]
      refine Runs.seq (Runs.block (Runs.seq (Runs.of_outX tys_ok mixed (Sw.r9 y0 n0 c0 ty0 y1 n1 c1 ty1 K (xorP K 54 i) lu (xorP K 92 i) lv i g1) trivial (Sw.idsJ _ _ _ _ _ _ _ _ _ _ _ _ _ _ _ _) rfl fun g2 => ?_)))
      refine Runs.seq (Sw.st10 y0 n0 c0 ty0 y1 n1 c1 ty1 K _ _ lu lv i hlt (xorP_length _ _ _).symm (fun g3 lu' => ?_) g2)
      refine Sw.st11 y0 n0 c0 ty0 y1 n1 c1 ty1 K _ _ lu' lv i hlt (xorP_length _ _ _).symm (fun g4 lv' => ?_) g3
      refine Runs.of_outX tys_ok mixed (Sw.r12 y0 n0 c0 ty0 y1 n1 c1 ty1 K _ lu' _ lv' i g4) ⟨i64_small _ (by omega) (by omega), trivial⟩ (Sw.idsI _ _ _ _ _ _ _ _ _ _ _ _ _ _ _ _) rfl fun g5 => ⟨some (i + 1, lu', lv'), g5, rfl, ?_, ⟨by simp only; omega, by simp only; omega⟩, by simp only; omega⟩
      simp only [xorP_succ]
    · obtain rfl : i = 64 := by omega
      exact Runs.of_outX tys_ok mixed (Sw.stop y0 n0 c0 ty0 y1 n1 c1 ty1 K (xorP K 54 64) lu (xorP K 92 64) lv 64 g) ⟨decide_eq_false (by omega), trivial⟩ (Sw.idsI _ _ _ _ _ _ _ _ _ _ _ _ _ _ _ _) rfl fun g' => hp g' lu lv
theorem Sw.hash1 (y0 : List Int) (n0 c0 : Nat) (ty0 : TypeId) (y1 : List Int) (n1 c1 : Nat) (ty1 : TypeId) (K : Nat → Int) (lu lv : Nat) (hy1 : y1.length = n1) (hs : n1 ≤ 140737488353936) (b1 : ∀ y ∈ y1, Byt y) (hp : ∀ g, Post .normal (fill g 0 (Sw.MH y0 n0 c0 ty0 y1 n1 c1 ty1 )) (Sw.memH y0 n0 c0 ty0 y1 n1 c1 ty1 (xorP K 92 64) lv none (refI K y1))) (g : Nat → SV) : RunsF Tryd.prog Gs 2 R13 (fill g 0 (Sw.MI y0 n0 c0 ty0 y1 n1 c1 ty1 64)) (Sw.memI y0 n0 c0 ty0 y1 n1 c1 ty1 K (xorP K 54 64) lu none (xorP K 92 64) lv none) Post := by
  have e : ((xorP K 54 64 ++ ((y1.drop 0).take n1)).drop 0).take (64 + n1) = xorP K 54 64 ++ y1 := by rw [List.drop_zero, List.drop_zero, List.take_of_length_le (l := y1) (by omega), List.take_of_length_le (by rw [List.length_append, xorP_length]; omega)]
  have el : (xorP K 54 64 ++ ((y1.drop 0).take n1)).length = 64 + n1 := by rw [List.drop_zero, List.take_of_length_le (l := y1) (by omega), List.length_append, xorP_length, hy1]
  refine Runs.room 4 (64 + n1) (own := true) (ty := 5) (kd := .u8) (xs := xorP K 54 64) (lo := lu) rfl ?_ ?_
  · exact Runs.of_outN tys_ok mixed _ (Sw.r13i y0 n0 c0 ty0 y1 n1 c1 ty1 K (xorP K 54 64) lu (xorP K 92 64) lv (refI K y1) g) ⟨by omega, (xorP_length _ _ _).symm, Nat.le_refl _, by omega, Nat.le_refl _, by omega, by rw [e]; exact byt_app (xorP_byt _ _ _) (b1), by rw [e]; rfl, trivial⟩ (Sw.idsH _ _ _ _ _ _ _ _ _ _ _ _) rfl hp
  · exact Runs.of_outN tys_ok mixed _ (Sw.r13g y0 n0 c0 ty0 y1 n1 c1 ty1 K (xorP K 54 64) lu (xorP K 92 64) lv (refI K y1) g) ⟨by omega, (xorP_length _ _ _).symm, Nat.le_refl _, room_u8 _ (by omega), by omega, Nat.le_refl _, by omega, by rw [e]; exact byt_app (xorP_byt _ _ _) (b1), by rw [e]; rfl, trivial⟩ (Sw.idsH _ _ _ _ _ _ _ _ _ _ _ _) rfl hp
theorem Sw.hash2 (y0 : List Int) (n0 c0 : Nat) (ty0 : TypeId) (y1 : List Int) (n1 c1 : Nat) (ty1 : TypeId) (K : Nat → Int) (lv : Nat) (m : List Int) (g : Nat → SV) : RunsF Tryd.prog Gs 2 T14 (fill g 0 (Sw.MH y0 n0 c0 ty0 y1 n1 c1 ty1 )) (Sw.memH y0 n0 c0 ty0 y1 n1 c1 ty1 (xorP K 92 64) lv none (refI K m)) (EndsM tys fn (endsQ (cB32.enc (refO K (refI K m))) .none)) := by
  have e : ((xorP K 92 64 ++ (refI K m).to).drop 0).take 96 = xorP K 92 64 ++ (refI K m).to := by rw [List.drop_zero, List.take_of_length_le (by rw [List.length_append, xorP_length, to_len]; exact Nat.le_refl _)]
  refine Runs.room 3 96 (own := true) (ty := 5) (kd := .u8) (xs := xorP K 92 64) (lo := lv) rfl ?_ ?_
  · exact Runs.of_exec tys_ok mixed (Sw.di y0 n0 c0 ty0 y1 n1 c1 ty1 (xorP K 92 64) lv (refI K m) (refO K (refI K m)) g) ⟨by decide, (xorP_length _ _ _).symm, by decide, by rw [List.length_append, xorP_length, to_len]; decide, by decide, by decide, by rw [e]; exact byt_app (xorP_byt _ _ _) (outR_byt _), by rw [e]; rfl, trivial⟩ (EndsM.ret (Sw.resi y0 n0 c0 ty0 y1 n1 c1 ty1 _ _ _ _ _) rfl)
  · exact Runs.of_exec tys_ok mixed (Sw.dg y0 n0 c0 ty0 y1 n1 c1 ty1 (xorP K 92 64) lv (refI K m) (refO K (refI K m)) g) ⟨by decide, (xorP_length _ _ _).symm, by decide, room_u8 _ (by decide), by rw [List.length_append, xorP_length, to_len]; decide, by decide, by decide, by rw [e]; exact byt_app (xorP_byt _ _ _) (outR_byt _), by rw [e]; rfl, trivial⟩ (EndsM.ret (Sw.resg y0 n0 c0 ty0 y1 n1 c1 ty1 _ _ _ _ _) rfl)
theorem Sw.tail (y0 : List Int) (n0 c0 : Nat) (ty0 : TypeId) (y1 : List Int) (n1 c1 : Nat) (ty1 : TypeId) (K : Nat → Int) (hy1 : y1.length = n1) (hs : n1 ≤ 140737488353936) (b1 : ∀ y ∈ y1, Byt y) (g : Nat → SV) : RunsF Tryd.prog Gs 2 (csuf 4 body) (fill g 0 (Sw.MA y0 n0 c0 ty0 y1 n1 c1 ty1 )) (Sw.memA y0 n0 c0 ty0 y1 n1 c1 ty1 K) (EndsM tys fn (endsQ (cB32.enc (refO K (refI K y1))) .none)) := by
  rw [T7_eq]
  refine Runs.seq (Runs.seq (Runs.of_outX tys_ok mixed (Sw.a7 y0 n0 c0 ty0 y1 n1 c1 ty1 K g) trivial (Sw.ids0 _ _ _ _ _ _ _ _ _) rfl fun g1 => ?_))
  refine Sw.loop y0 n0 c0 ty0 y1 n1 c1 ty1 K (fun g2 lu lv => ?_) g1
  refine Runs.seq (Sw.hash1 y0 n0 c0 ty0 y1 n1 c1 ty1 K lu lv hy1 hs b1 (fun g3 => ?_) g2)
  exact Sw.hash2 y0 n0 c0 ty0 y1 n1 c1 ty1 K lv y1 g3
theorem Sw.walk (y0 : List Int) (n0 c0 : Nat) (ty0 : TypeId) (y1 : List Int) (n1 c1 : Nat) (ty1 : TypeId) (hy0 : y0.length = n0) (hc0 : n0 ≤ c0) (hk : n0 ≤ 64) (hy1 : y1.length = n1) (hs : n1 ≤ 140737488353936) (b1 : ∀ y ∈ y1, Byt y) : RunsF Tryd.prog Gs 2 body (startT fn [.o (.a (.sld 0 0 0 n0 c0)), .o (.a (.sld 1 0 0 n1 c1))]) [⟨false, ty0, .pre .u8 y0⟩, ⟨false, ty1, .pre .u8 y1⟩] (EndsM tys fn (endsQ (cB32.enc (refO (kshort y0 n0) (refI (kshort y0 n0) y1))) .none)) := by
  have e0 : (y0.drop 0).take n0 = y0 := by rw [List.drop_zero, List.take_of_length_le (by omega)]
  have hx := Sw.s1 y0 n0 c0 ty0 y1 n1 c1 ty1 
  have ht := Sw.tail y0 n0 c0 ty0 y1 n1 c1 ty1 (kshort ((y0.drop 0).take n0) n0) hy1 hs b1 
  rw [e0] at ht
  rw [e0] at hx
  exact Runs.of_outXP tys_ok mixed 4 hx ⟨decide_eq_false (by omega), by omega, min64 n0, trivial⟩ (Sw.idsA _ _ _ _ _ _ _ _ _) rfl ht
theorem Sn.st11 (y0 : List Int) (n0 c0 : Nat) (ty0 : TypeId) (a1 : Option Addr) (K : Nat → Int) (us vs : List Int) (lu lv i : Nat) (h64 : i < 64) (hl : i = vs.length) (hp : ∀ g lo', Post .normal (fill g 0 (Sn.MQ y0 n0 c0 ty0 a1 i)) (Sn.memI y0 n0 c0 ty0 a1 K us lu none (vs ++ [bits .xor .u8 (K i) 92]) lo' none)) (g : Nat → SV) : RunsF Tryd.prog Gs 1 R11 (fill g 0 (Sn.MK y0 n0 c0 ty0 a1 i)) (Sn.memI y0 n0 c0 ty0 a1 K us lu none vs lv none) Post := by
  refine Runs.room 4 (i + 1) (own := true) (ty := 5) (kd := .u8) (xs := vs) (lo := lv) rfl ?_ ?_
  · exact Runs.of_outX tys_ok mixed (Sn.r11i y0 n0 c0 ty0 a1 K us lu vs lv i (K i) g) ⟨by omega, by omega, by rw [restL_length]; omega, restL_get0 K i h64, by decide, hl, Nat.le_refl _, trivial⟩ (Sn.idsQ _ _ _ _ _ _ _ _ _ _ _ _ _) rfl fun g' => hp g' _
  · exact Runs.of_outN tys_ok mixed _ (Sn.r11g y0 n0 c0 ty0 a1 K us lu vs lv i (K i) g) ⟨by omega, by omega, by rw [restL_length]; omega, restL_get0 K i h64, by decide, hl, Nat.le_refl _, room_u8 _ (by omega), trivial⟩ (Sn.idsQ _ _ _ _ _ _ _ _ _ _ _ _ _) rfl fun g' => hp g' _
theorem Sn.st10 (y0 : List Int) (n0 c0 : Nat) (ty0 : TypeId) (a1 : Option Addr) (K : Nat → Int) (us vs : List Int) (lu lv i : Nat) (h64 : i < 64) (hl : i = us.length) (hp : ∀ g lo', Post .normal (fill g 0 (Sn.MK y0 n0 c0 ty0 a1 i)) (Sn.memI y0 n0 c0 ty0 a1 K (us ++ [bits .xor .u8 (K i) 54]) lo' none vs lv none)) (g : Nat → SV) : RunsF Tryd.prog Gs 1 R10 (fill g 0 (Sn.MJ y0 n0 c0 ty0 a1 i)) (Sn.memI y0 n0 c0 ty0 a1 K us lu none vs lv none) Post := by
  refine Runs.room 3 (i + 1) (own := true) (ty := 5) (kd := .u8) (xs := us) (lo := lu) rfl ?_ ?_
  · exact Runs.of_outX tys_ok mixed (Sn.r10i y0 n0 c0 ty0 a1 K us lu vs lv i (K i) g) ⟨by omega, by omega, by rw [restL_length]; omega, restL_get0 K i h64, by decide, hl, Nat.le_refl _, trivial⟩ (Sn.idsK _ _ _ _ _ _ _ _ _ _ _ _ _) rfl fun g' => hp g' _
  · exact Runs.of_outN tys_ok mixed _ (Sn.r10g y0 n0 c0 ty0 a1 K us lu vs lv i (K i) g) ⟨by omega, by omega, by rw [restL_length]; omega, restL_get0 K i h64, by decide, hl, Nat.le_refl _, room_u8 _ (by omega), trivial⟩ (Sn.idsK _ _ _ _ _ _ _ _ _ _ _ _ _) rfl fun g' => hp g' _
theorem Sn.loop (y0 : List Int) (n0 c0 : Nat) (ty0 : TypeId) (a1 : Option Addr) (K : Nat → Int) (hp : ∀ g lu lv, Post .normal (fill g 0 (Sn.MI y0 n0 c0 ty0 a1 64)) (Sn.memI y0 n0 c0 ty0 a1 K (xorP K 54 64) lu none (xorP K 92 64) lv none)) (g : Nat → SV) : RunsF Tryd.prog Gs 1 (.block 0 (.loop L)) (fill g 0 (Sn.M0 y0 n0 c0 ty0 a1 )) (Sn.memA y0 n0 c0 ty0 a1 K) Post := by
  refine Runs.block ?_
  refine Runs.loopX (fun (x : Option (Nat × Nat × Nat)) => match x with | none => Sn.M0 y0 n0 c0 ty0 a1  | some x => Sn.MI y0 n0 c0 ty0 a1 x.1) (fun x => match x with | none => Sn.memA y0 n0 c0 ty0 a1 K | some x => Sn.memI y0 n0 c0 ty0 a1 K (xorP K 54 x.1) x.2.1 none (xorP K 92 x.1) x.2.2 none) (fun x => match x with | none => True | some x => 1 ≤ x.1 ∧ x.1 ≤ 64) (fun x => match x with | none => 65 | some x => 64 - x.1) ?_ none trivial g
  rintro (_ | ⟨i, lu, lv⟩) g hI
  · exact Runs.of_outN tys_ok mixed _ (Sn.first y0 n0 c0 ty0 a1 K g) ⟨by decide, by decide, room_u8 _ (by decide), by decide, by decide, room_u8 _ (by decide), trivial⟩ (Sn.idsI _ _ _ _ _ _ _ _ _ _ _ _ _) rfl fun g' => ⟨some (1, 1, 1), g', rfl, rfl, ⟨by decide, by decide⟩, by decide⟩
  · obtain ⟨i1, i2⟩ := hI
    simp only at i1 i2
    by_cases hlt : i < 64
    · refine Runs.of_outXP tys_ok mixed 2 (Sn.go y0 n0 c0 ty0 a1 K (xorP K 54 i) lu (xorP K 92 i) lv i g) ⟨decide_eq_true (by omega), trivial⟩ (Sn.idsI _ _ _ _ _ _ _ _ _ _ _ _ _) rfl fun g1 => ?_
      rw [L_suf]
      refine Runs.seq (Runs.block (Runs.seq (Runs.of_outX tys_ok mixed (Sn.r9 y0 n0 c0 ty0 a1 K (xorP K 54 i) lu (xorP K 92 i) lv i g1) trivial (Sn.idsJ _ _ _ _ _ _ _ _ _ _ _ _ _) rfl fun g2 => ?_)))
      refine Runs.seq (Sn.st10 y0 n0 c0 ty0 a1 K _ _ lu lv i hlt (xorP_length _ _ _).symm (fun g3 lu' => ?_) g2)
      refine Sn.st11 y0 n0 c0 ty0 a1 K _ _ lu' lv i hlt (xorP_length _ _ _).symm (fun g4 lv' => ?_) g3
      refine Runs.of_outX tys_ok mixed (Sn.r12 y0 n0 c0 ty0 a1 K _ lu' _ lv' i g4) ⟨i64_small _ (by omega) (by omega), trivial⟩ (Sn.idsI _ _ _ _ _ _ _ _ _ _ _ _ _) rfl fun g5 => ⟨some (i + 1, lu', lv'), g5, rfl, ?_, ⟨by simp only; omega, by simp only; omega⟩, by simp only; omega⟩
      simp only [xorP_succ]
    · obtain rfl : i = 64 := by omega
      exact Runs.of_outX tys_ok mixed (Sn.stop y0 n0 c0 ty0 a1 K (xorP K 54 64) lu (xorP K 92 64) lv 64 g) ⟨decide_eq_false (by omega), trivial⟩ (Sn.idsI _ _ _ _ _ _ _ _ _ _ _ _ _) rfl fun g' => hp g' lu lv
theorem Sn.hash1 (y0 : List Int) (n0 c0 : Nat) (ty0 : TypeId) (a1 : Option Addr) (K : Nat → Int) (lu lv : Nat) (hp : ∀ g, Post .normal (fill g 0 (Sn.MH y0 n0 c0 ty0 a1 )) (Sn.memH y0 n0 c0 ty0 a1 (xorP K 92 64) lv none (refI K []))) (g : Nat → SV) : RunsF Tryd.prog Gs 1 R13 (fill g 0 (Sn.MI y0 n0 c0 ty0 a1 64)) (Sn.memI y0 n0 c0 ty0 a1 K (xorP K 54 64) lu none (xorP K 92 64) lv none) Post := by
  have e : ((xorP K 54 64 ++ []).drop 0).take (64 + 0) = xorP K 54 64 ++ [] := by rw [List.drop_zero, List.take_of_length_le (by rw [List.length_append, xorP_length]; exact Nat.le_refl _)]
  have el : (xorP K 54 64 ++ []).length = 64 + 0 := by rw [List.append_nil, xorP_length]
  refine Runs.room 3 (64 + 0) (own := true) (ty := 5) (kd := .u8) (xs := xorP K 54 64) (lo := lu) rfl ?_ ?_
  · exact Runs.of_outN tys_ok mixed _ (Sn.r13i y0 n0 c0 ty0 a1 K (xorP K 54 64) lu (xorP K 92 64) lv (refI K []) g) ⟨(xorP_length _ _ _).symm, Nat.le_refl _, by omega, Nat.le_refl _, by omega, by rw [e]; exact byt_app (xorP_byt _ _ _) (fun y hy => by cases hy), by rw [e]; rfl, trivial⟩ (Sn.idsH _ _ _ _ _ _ _ _ _) rfl hp
  · exact Runs.of_outN tys_ok mixed _ (Sn.r13g y0 n0 c0 ty0 a1 K (xorP K 54 64) lu (xorP K 92 64) lv (refI K []) g) ⟨(xorP_length _ _ _).symm, Nat.le_refl _, room_u8 _ (by omega), by omega, Nat.le_refl _, by omega, by rw [e]; exact byt_app (xorP_byt _ _ _) (fun y hy => by cases hy), by rw [e]; rfl, trivial⟩ (Sn.idsH _ _ _ _ _ _ _ _ _) rfl hp
theorem Sn.hash2 (y0 : List Int) (n0 c0 : Nat) (ty0 : TypeId) (a1 : Option Addr) (K : Nat → Int) (lv : Nat) (m : List Int) (g : Nat → SV) : RunsF Tryd.prog Gs 1 T14 (fill g 0 (Sn.MH y0 n0 c0 ty0 a1 )) (Sn.memH y0 n0 c0 ty0 a1 (xorP K 92 64) lv none (refI K m)) (EndsM tys fn (endsQ (cB32.enc (refO K (refI K m))) .none)) := by
  have e : ((xorP K 92 64 ++ (refI K m).to).drop 0).take 96 = xorP K 92 64 ++ (refI K m).to := by rw [List.drop_zero, List.take_of_length_le (by rw [List.length_append, xorP_length, to_len]; exact Nat.le_refl _)]
  refine Runs.room 2 96 (own := true) (ty := 5) (kd := .u8) (xs := xorP K 92 64) (lo := lv) rfl ?_ ?_
  · exact Runs.of_exec tys_ok mixed (Sn.di y0 n0 c0 ty0 a1 (xorP K 92 64) lv (refI K m) (refO K (refI K m)) g) ⟨by decide, (xorP_length _ _ _).symm, by decide, by rw [List.length_append, xorP_length, to_len]; decide, by decide, by decide, by rw [e]; exact byt_app (xorP_byt _ _ _) (outR_byt _), by rw [e]; rfl, trivial⟩ (EndsM.ret (Sn.resi y0 n0 c0 ty0 a1 _ _ _ _ _) rfl)
  · exact Runs.of_exec tys_ok mixed (Sn.dg y0 n0 c0 ty0 a1 (xorP K 92 64) lv (refI K m) (refO K (refI K m)) g) ⟨by decide, (xorP_length _ _ _).symm, by decide, room_u8 _ (by decide), by rw [List.length_append, xorP_length, to_len]; decide, by decide, by decide, by rw [e]; exact byt_app (xorP_byt _ _ _) (outR_byt _), by rw [e]; rfl, trivial⟩ (EndsM.ret (Sn.resg y0 n0 c0 ty0 a1 _ _ _ _ _) rfl)
theorem Sn.tail (y0 : List Int) (n0 c0 : Nat) (ty0 : TypeId) (a1 : Option Addr) (K : Nat → Int) (g : Nat → SV) : RunsF Tryd.prog Gs 1 (csuf 4 body) (fill g 0 (Sn.MA y0 n0 c0 ty0 a1 )) (Sn.memA y0 n0 c0 ty0 a1 K) (EndsM tys fn (endsQ (cB32.enc (refO K (refI K []))) .none)) := by
  rw [T7_eq]
  refine Runs.seq (Runs.seq (Runs.of_outX tys_ok mixed (Sn.a7 y0 n0 c0 ty0 a1 K g) trivial (Sn.ids0 _ _ _ _ _ _) rfl fun g1 => ?_))
  refine Sn.loop y0 n0 c0 ty0 a1 K (fun g2 lu lv => ?_) g1
  refine Runs.seq (Sn.hash1 y0 n0 c0 ty0 a1 K lu lv (fun g3 => ?_) g2)
  exact Sn.hash2 y0 n0 c0 ty0 a1 K lv [] g3
theorem Sn.walk (y0 : List Int) (n0 c0 : Nat) (ty0 : TypeId) (a1 : Option Addr) (hy0 : y0.length = n0) (hc0 : n0 ≤ c0) (hk : n0 ≤ 64) : RunsF Tryd.prog Gs 1 body (startT fn [.o (.a (.sld 0 0 0 n0 c0)), .o (.a (.v (.slice a1 0 0)))]) [⟨false, ty0, .pre .u8 y0⟩] (EndsM tys fn (endsQ (cB32.enc (refO (kshort y0 n0) (refI (kshort y0 n0) []))) .none)) := by
  have e0 : (y0.drop 0).take n0 = y0 := by rw [List.drop_zero, List.take_of_length_le (by omega)]
  have hx := Sn.s1 y0 n0 c0 ty0 a1 
  have ht := Sn.tail y0 n0 c0 ty0 a1 (kshort ((y0.drop 0).take n0) n0) 
  rw [e0] at ht
  rw [e0] at hx
  exact Runs.of_outXP tys_ok mixed 4 hx ⟨decide_eq_false (by omega), by omega, min64 n0, trivial⟩ (Sn.idsA _ _ _ _ _ _) rfl ht
theorem Nw.st11 (a0 : Option Addr) (y1 : List Int) (n1 c1 : Nat) (ty1 : TypeId) (K : Nat → Int) (us vs : List Int) (lu lv i : Nat) (h64 : i < 64) (hl : i = vs.length) (hp : ∀ g lo', Post .normal (fill g 0 (Nw.MQ a0 y1 n1 c1 ty1 i)) (Nw.memI a0 y1 n1 c1 ty1 K us lu none (vs ++ [bits .xor .u8 (K i) 92]) lo' none)) (g : Nat → SV) : RunsF Tryd.prog Gs 1 R11 (fill g 0 (Nw.MK a0 y1 n1 c1 ty1 i)) (Nw.memI a0 y1 n1 c1 ty1 K us lu none vs lv none) Post := by
  refine Runs.room 4 (i + 1) (own := true) (ty := 5) (kd := .u8) (xs := vs) (lo := lv) rfl ?_ ?_
  · exact Runs.of_outX tys_ok mixed (Nw.r11i a0 y1 n1 c1 ty1 K us lu vs lv i (K i) g) ⟨by omega, by omega, by rw [restL_length]; omega, restL_get0 K i h64, by decide, hl, Nat.le_refl _, trivial⟩ (Nw.idsQ _ _ _ _ _ _ _ _ _ _ _ _ _) rfl fun g' => hp g' _
  · exact Runs.of_outN tys_ok mixed _ (Nw.r11g a0 y1 n1 c1 ty1 K us lu vs lv i (K i) g) ⟨by omega, by omega, by rw [restL_length]; omega, restL_get0 K i h64, by decide, hl, Nat.le_refl _, room_u8 _ (by omega), trivial⟩ (Nw.idsQ _ _ _ _ _ _ _ _ _ _ _ _ _) rfl fun g' => hp g' _
theorem Nw.st10 (a0 : Option Addr) (y1 : List Int) (n1 c1 : Nat) (ty1 : TypeId) (K : Nat → Int) (us vs : List Int) (lu lv i : Nat) (h64 : i < 64) (hl : i = us.length) (hp : ∀ g lo', Post .normal (fill g 0 (Nw.MK a0 y1 n1 c1 ty1 i)) (Nw.memI a0 y1 n1 c1 ty1 K (us ++ [bits .xor .u8 (K i) 54]) lo' none vs lv none)) (g : Nat → SV) : RunsF Tryd.prog Gs 1 R10 (fill g 0 (Nw.MJ a0 y1 n1 c1 ty1 i)) (Nw.memI a0 y1 n1 c1 ty1 K us lu none vs lv none) Post := by
  refine Runs.room 3 (i + 1) (own := true) (ty := 5) (kd := .u8) (xs := us) (lo := lu) rfl ?_ ?_
  · exact Runs.of_outX tys_ok mixed (Nw.r10i a0 y1 n1 c1 ty1 K us lu vs lv i (K i) g) ⟨by omega, by omega, by rw [restL_length]; omega, restL_get0 K i h64, by decide, hl, Nat.le_refl _, trivial⟩ (Nw.idsK _ _ _ _ _ _ _ _ _ _ _ _ _) rfl fun g' => hp g' _
  · exact Runs.of_outN tys_ok mixed _ (Nw.r10g a0 y1 n1 c1 ty1 K us lu vs lv i (K i) g) ⟨by omega, by omega, by rw [restL_length]; omega, restL_get0 K i h64, by decide, hl, Nat.le_refl _, room_u8 _ (by omega), trivial⟩ (Nw.idsK _ _ _ _ _ _ _ _ _ _ _ _ _) rfl fun g' => hp g' _
theorem Nw.loop (a0 : Option Addr) (y1 : List Int) (n1 c1 : Nat) (ty1 : TypeId) (K : Nat → Int) (hp : ∀ g lu lv, Post .normal (fill g 0 (Nw.MI a0 y1 n1 c1 ty1 64)) (Nw.memI a0 y1 n1 c1 ty1 K (xorP K 54 64) lu none (xorP K 92 64) lv none)) (g : Nat → SV) : RunsF Tryd.prog Gs 1 (.block 0 (.loop L)) (fill g 0 (Nw.M0 a0 y1 n1 c1 ty1 )) (Nw.memA a0 y1 n1 c1 ty1 K) Post := by
  refine Runs.block ?_
  refine Runs.loopX (fun (x : Option (Nat × Nat × Nat)) => match x with | none => Nw.M0 a0 y1 n1 c1 ty1  | some x => Nw.MI a0 y1 n1 c1 ty1 x.1) (fun x => match x with | none => Nw.memA a0 y1 n1 c1 ty1 K | some x => Nw.memI a0 y1 n1 c1 ty1 K (xorP K 54 x.1) x.2.1 none (xorP K 92 x.1) x.2.2 none) (fun x => match x with | none => True | some x => 1 ≤ x.1 ∧ x.1 ≤ 64) (fun x => match x with | none => 65 | some x => 64 - x.1) ?_ none trivial g
  rintro (_ | ⟨i, lu, lv⟩) g hI
  · exact Runs.of_outN tys_ok mixed _ (Nw.first a0 y1 n1 c1 ty1 K g) ⟨by decide, by decide, room_u8 _ (by decide), by decide, by decide, room_u8 _ (by decide), trivial⟩ (Nw.idsI _ _ _ _ _ _ _ _ _ _ _ _ _) rfl fun g' => ⟨some (1, 1, 1), g', rfl, rfl, ⟨by decide, by decide⟩, by decide⟩
  · obtain ⟨i1, i2⟩ := hI
    simp only at i1 i2
    by_cases hlt : i < 64
    · refine Runs.of_outXP tys_ok mixed 2 (Nw.go a0 y1 n1 c1 ty1 K (xorP K 54 i) lu (xorP K 92 i) lv i g) ⟨decide_eq_true (by omega), trivial⟩ (Nw.idsI _ _ _ _ _ _ _ _ _ _ _ _ _) rfl fun g1 => ?_
      rw [L_suf]
      refine Runs.seq (Runs.block (Runs.seq (Runs.of_outX tys_ok mixed (Nw.r9 a0 y1 n1 c1 ty1 K (xorP K 54 i) lu (xorP K 92 i) lv i g1) trivial (Nw.idsJ _ _ _ _ _ _ _ _ _ _ _ _ _) rfl fun g2 => ?_)))
      refine Runs.seq (Nw.st10 a0 y1 n1 c1 ty1 K _ _ lu lv i hlt (xorP_length _ _ _).symm (fun g3 lu' => ?_) g2)
      refine Nw.st11 a0 y1 n1 c1 ty1 K _ _ lu' lv i hlt (xorP_length _ _ _).symm (fun g4 lv' => ?_) g3
      refine Runs.of_outX tys_ok mixed (Nw.r12 a0 y1 n1 c1 ty1 K _ lu' _ lv' i g4) ⟨i64_small _ (by omega) (by omega), trivial⟩ (Nw.idsI _ _ _ _ _ _ _ _ _ _ _ _ _) rfl fun g5 => ⟨some (i + 1, lu', lv'), g5, rfl, ?_, ⟨by simp only; omega, by simp only; omega⟩, by simp only; omega⟩
      simp only [xorP_succ]
    · obtain rfl : i = 64 := by omega
      exact Runs.of_outX tys_ok mixed (Nw.stop a0 y1 n1 c1 ty1 K (xorP K 54 64) lu (xorP K 92 64) lv 64 g) ⟨decide_eq_false (by omega), trivial⟩ (Nw.idsI _ _ _ _ _ _ _ _ _ _ _ _ _) rfl fun g' => hp g' lu lv
theorem Nw.hash1 (a0 : Option Addr) (y1 : List Int) (n1 c1 : Nat) (ty1 : TypeId) (K : Nat → Int) (lu lv : Nat) (hy1 : y1.length = n1) (hs : n1 ≤ 140737488353936) (b1 : ∀ y ∈ y1, Byt y) (hp : ∀ g, Post .normal (fill g 0 (Nw.MH a0 y1 n1 c1 ty1 )) (Nw.memH a0 y1 n1 c1 ty1 (xorP K 92 64) lv none (refI K y1))) (g : Nat → SV) : RunsF Tryd.prog Gs 1 R13 (fill g 0 (Nw.MI a0 y1 n1 c1 ty1 64)) (Nw.memI a0 y1 n1 c1 ty1 K (xorP K 54 64) lu none (xorP K 92 64) lv none) Post := by
  have e : ((xorP K 54 64 ++ ((y1.drop 0).take n1)).drop 0).take (64 + n1) = xorP K 54 64 ++ y1 := by rw [List.drop_zero, List.drop_zero, List.take_of_length_le (l := y1) (by omega), List.take_of_length_le (by rw [List.length_append, xorP_length]; omega)]
  have el : (xorP K 54 64 ++ ((y1.drop 0).take n1)).length = 64 + n1 := by rw [List.drop_zero, List.take_of_length_le (l := y1) (by omega), List.length_append, xorP_length, hy1]
  refine Runs.room 3 (64 + n1) (own := true) (ty := 5) (kd := .u8) (xs := xorP K 54 64) (lo := lu) rfl ?_ ?_
  · exact Runs.of_outN tys_ok mixed _ (Nw.r13i a0 y1 n1 c1 ty1 K (xorP K 54 64) lu (xorP K 92 64) lv (refI K y1) g) ⟨by omega, (xorP_length _ _ _).symm, Nat.le_refl _, by omega, Nat.le_refl _, by omega, by rw [e]; exact byt_app (xorP_byt _ _ _) (b1), by rw [e]; rfl, trivial⟩ (Nw.idsH _ _ _ _ _ _ _ _ _) rfl hp
  · exact Runs.of_outN tys_ok mixed _ (Nw.r13g a0 y1 n1 c1 ty1 K (xorP K 54 64) lu (xorP K 92 64) lv (refI K y1) g) ⟨by omega, (xorP_length _ _ _).symm, Nat.le_refl _, room_u8 _ (by omega), by omega, Nat.le_refl _, by omega, by rw [e]; exact byt_app (xorP_byt _ _ _) (b1), by rw [e]; rfl, trivial⟩ (Nw.idsH _ _ _ _ _ _ _ _ _) rfl hp
theorem Nw.hash2 (a0 : Option Addr) (y1 : List Int) (n1 c1 : Nat) (ty1 : TypeId) (K : Nat → Int) (lv : Nat) (m : List Int) (g : Nat → SV) : RunsF Tryd.prog Gs 1 T14 (fill g 0 (Nw.MH a0 y1 n1 c1 ty1 )) (Nw.memH a0 y1 n1 c1 ty1 (xorP K 92 64) lv none (refI K m)) (EndsM tys fn (endsQ (cB32.enc (refO K (refI K m))) .none)) := by
  have e : ((xorP K 92 64 ++ (refI K m).to).drop 0).take 96 = xorP K 92 64 ++ (refI K m).to := by rw [List.drop_zero, List.take_of_length_le (by rw [List.length_append, xorP_length, to_len]; exact Nat.le_refl _)]
  refine Runs.room 2 96 (own := true) (ty := 5) (kd := .u8) (xs := xorP K 92 64) (lo := lv) rfl ?_ ?_
  · exact Runs.of_exec tys_ok mixed (Nw.di a0 y1 n1 c1 ty1 (xorP K 92 64) lv (refI K m) (refO K (refI K m)) g) ⟨by decide, (xorP_length _ _ _).symm, by decide, by rw [List.length_append, xorP_length, to_len]; decide, by decide, by decide, by rw [e]; exact byt_app (xorP_byt _ _ _) (outR_byt _), by rw [e]; rfl, trivial⟩ (EndsM.ret (Nw.resi a0 y1 n1 c1 ty1 _ _ _ _ _) rfl)
  · exact Runs.of_exec tys_ok mixed (Nw.dg a0 y1 n1 c1 ty1 (xorP K 92 64) lv (refI K m) (refO K (refI K m)) g) ⟨by decide, (xorP_length _ _ _).symm, by decide, room_u8 _ (by decide), by rw [List.length_append, xorP_length, to_len]; decide, by decide, by decide, by rw [e]; exact byt_app (xorP_byt _ _ _) (outR_byt _), by rw [e]; rfl, trivial⟩ (EndsM.ret (Nw.resg a0 y1 n1 c1 ty1 _ _ _ _ _) rfl)
theorem Nw.tail (a0 : Option Addr) (y1 : List Int) (n1 c1 : Nat) (ty1 : TypeId) (K : Nat → Int) (hy1 : y1.length = n1) (hs : n1 ≤ 140737488353936) (b1 : ∀ y ∈ y1, Byt y) (g : Nat → SV) : RunsF Tryd.prog Gs 1 (csuf 4 body) (fill g 0 (Nw.MA a0 y1 n1 c1 ty1 )) (Nw.memA a0 y1 n1 c1 ty1 K) (EndsM tys fn (endsQ (cB32.enc (refO K (refI K y1))) .none)) := by
  rw [T7_eq]
  refine Runs.seq (Runs.seq (Runs.of_outX tys_ok mixed (Nw.a7 a0 y1 n1 c1 ty1 K g) trivial (Nw.ids0 _ _ _ _ _ _) rfl fun g1 => ?_))
  refine Nw.loop a0 y1 n1 c1 ty1 K (fun g2 lu lv => ?_) g1
  refine Runs.seq (Nw.hash1 a0 y1 n1 c1 ty1 K lu lv hy1 hs b1 (fun g3 => ?_) g2)
  exact Nw.hash2 a0 y1 n1 c1 ty1 K lv y1 g3
theorem Nw.walk (a0 : Option Addr) (y1 : List Int) (n1 c1 : Nat) (ty1 : TypeId) (hy1 : y1.length = n1) (hs : n1 ≤ 140737488353936) (b1 : ∀ y ∈ y1, Byt y) : RunsF Tryd.prog Gs 1 body (startT fn [.o (.a (.v (.slice a0 0 0))), .o (.a (.sld 0 0 0 n1 c1))]) [⟨false, ty1, .pre .u8 y1⟩] (EndsM tys fn (endsQ (cB32.enc (refO (kshort [] 0) (refI (kshort [] 0) y1))) .none)) := by
  have hx := Nw.s1 a0 y1 n1 c1 ty1 
  have ht := Nw.tail a0 y1 n1 c1 ty1 (kshort [] 0) hy1 hs b1 
  exact Runs.of_outXP tys_ok mixed 4 hx ⟨by decide, trivial⟩ (Nw.idsA _ _ _ _ _ _) rfl ht
theorem Nn.st11 (a0 : Option Addr) (a1 : Option Addr) (K : Nat → Int) (us vs : List Int) (lu lv i : Nat) (h64 : i < 64) (hl : i = vs.length) (hp : ∀ g lo', Post .normal (fill g 0 (Nn.MQ a0 a1 i)) (Nn.memI a0 a1 K us lu none (vs ++ [bits .xor .u8 (K i) 92]) lo' none)) (g : Nat → SV) : RunsF Tryd.prog Gs 0 R11 (fill g 0 (Nn.MK a0 a1 i)) (Nn.memI a0 a1 K us lu none vs lv none) Post := by
  refine Runs.room 3 (i + 1) (own := true) (ty := 5) (kd := .u8) (xs := vs) (lo := lv) rfl ?_ ?_
  · exact Runs.of_outX tys_ok mixed (Nn.r11i a0 a1 K us lu vs lv i (K i) g) ⟨by omega, by omega, by rw [restL_length]; omega, restL_get0 K i h64, by decide, hl, Nat.le_refl _, trivial⟩ (Nn.idsQ _ _ _ _ _ _ _ _ _ _) rfl fun g' => hp g' _
  · exact Runs.of_outN tys_ok mixed _ (Nn.r11g a0 a1 K us lu vs lv i (K i) g) ⟨by omega, by omega, by rw [restL_length]; omega, restL_get0 K i h64, by decide, hl, Nat.le_refl _, room_u8 _ (by omega), trivial⟩ (Nn.idsQ _ _ _ _ _ _ _ _ _ _) rfl fun g' => hp g' _
theorem Nn.st10 (a0 : Option Addr) (a1 : Option Addr) (K : Nat → Int) (us vs : List Int) (lu lv i : Nat) (h64 : i < 64) (hl : i = us.length) (hp : ∀ g lo', Post .normal (fill g 0 (Nn.MK a0 a1 i)) (Nn.memI a0 a1 K (us ++ [bits .xor .u8 (K i) 54]) lo' none vs lv none)) (g : Nat → SV) : RunsF Tryd.prog Gs 0 R10 (fill g 0 (Nn.MJ a0 a1 i)) (Nn.memI a0 a1 K us lu none vs lv none) Post := by
  refine Runs.room 2 (i + 1) (own := true) (ty := 5) (kd := .u8) (xs := us) (lo := lu) rfl ?_ ?_
  · exact Runs.of_outX tys_ok mixed (Nn.r10i a0 a1 K us lu vs lv i (K i) g) ⟨by omega, by omega, by rw [restL_length]; omega, restL_get0 K i h64, by decide, hl, Nat.le_refl _, trivial⟩ (Nn.idsK _ _ _ _ _ _ _ _ _ _) rfl fun g' => hp g' _
  · exact Runs.of_outN tys_ok mixed _ (Nn.r10g a0 a1 K us lu vs lv i (K i) g) ⟨by omega, by omega, by rw [restL_length]; omega, restL_get0 K i h64, by decide, hl, Nat.le_refl _, room_u8 _ (by omega), trivial⟩ (Nn.idsK _ _ _ _ _ _ _ _ _ _) rfl fun g' => hp g' _
theorem Nn.loop (a0 : Option Addr) (a1 : Option Addr) (K : Nat → Int) (hp : ∀ g lu lv, Post .normal (fill g 0 (Nn.MI a0 a1 64)) (Nn.memI a0 a1 K (xorP K 54 64) lu none (xorP K 92 64) lv none)) (g : Nat → SV) : RunsF Tryd.prog Gs 0 (.block 0 (.loop L)) (fill g 0 (Nn.M0 a0 a1 )) (Nn.memA a0 a1 K) Post := by
  refine Runs.block ?_
  refine Runs.loopX (fun (x : Option (Nat × Nat × Nat)) => match x with | none => Nn.M0 a0 a1  | some x => Nn.MI a0 a1 x.1) (fun x => match x with | none => Nn.memA a0 a1 K | some x => Nn.memI a0 a1 K (xorP K 54 x.1) x.2.1 none (xorP K 92 x.1) x.2.2 none) (fun x => match x with | none => True | some x => 1 ≤ x.1 ∧ x.1 ≤ 64) (fun x => match x with | none => 65 | some x => 64 - x.1) ?_ none trivial g
  rintro (_ | ⟨i, lu, lv⟩) g hI
  · exact Runs.of_outN tys_ok mixed _ (Nn.first a0 a1 K g) ⟨by decide, by decide, room_u8 _ (by decide), by decide, by decide, room_u8 _ (by decide), trivial⟩ (Nn.idsI _ _ _ _ _ _ _ _ _ _) rfl fun g' => ⟨some (1, 1, 1), g', rfl, rfl, ⟨by decide, by decide⟩, by decide⟩
  · obtain ⟨i1, i2⟩ := hI
    simp only at i1 i2
    by_cases hlt : i < 64
    · refine Runs.of_outXP tys_ok mixed 2 (Nn.go a0 a1 K (xorP K 54 i) lu (xorP K 92 i) lv i g) ⟨decide_eq_true (by omega), trivial⟩ (Nn.idsI _ _ _ _ _ _ _ _ _ _) rfl fun g1 => ?_
      rw [L_suf]
      refine Runs.seq (Runs.block (Runs.seq (Runs.of_outX tys_ok mixed (Nn.r9 a0 a1 K (xorP K 54 i) lu (xorP K 92 i) lv i g1) trivial (Nn.idsJ _ _ _ _ _ _ _ _ _ _) rfl fun g2 => ?_)))
      refine Runs.seq (Nn.st10 a0 a1 K _ _ lu lv i hlt (xorP_length _ _ _).symm (fun g3 lu' => ?_) g2)
      refine Nn.st11 a0 a1 K _ _ lu' lv i hlt (xorP_length _ _ _).symm (fun g4 lv' => ?_) g3
      refine Runs.of_outX tys_ok mixed (Nn.r12 a0 a1 K _ lu' _ lv' i g4) ⟨i64_small _ (by omega) (by omega), trivial⟩ (Nn.idsI _ _ _ _ _ _ _ _ _ _) rfl fun g5 => ⟨some (i + 1, lu', lv'), g5, rfl, ?_, ⟨by simp only; omega, by simp only; omega⟩, by simp only; omega⟩
      simp only [xorP_succ]
    · obtain rfl : i = 64 := by omega
      exact Runs.of_outX tys_ok mixed (Nn.stop a0 a1 K (xorP K 54 64) lu (xorP K 92 64) lv 64 g) ⟨decide_eq_false (by omega), trivial⟩ (Nn.idsI _ _ _ _ _ _ _ _ _ _) rfl fun g' => hp g' lu lv
theorem Nn.hash1 (a0 : Option Addr) (a1 : Option Addr) (K : Nat → Int) (lu lv : Nat) (hp : ∀ g, Post .normal (fill g 0 (Nn.MH a0 a1 )) (Nn.memH a0 a1 (xorP K 92 64) lv none (refI K []))) (g : Nat → SV) : RunsF Tryd.prog Gs 0 R13 (fill g 0 (Nn.MI a0 a1 64)) (Nn.memI a0 a1 K (xorP K 54 64) lu none (xorP K 92 64) lv none) Post := by
  have e : ((xorP K 54 64 ++ []).drop 0).take (64 + 0) = xorP K 54 64 ++ [] := by rw [List.drop_zero, List.take_of_length_le (by rw [List.length_append, xorP_length]; exact Nat.le_refl _)]
  have el : (xorP K 54 64 ++ []).length = 64 + 0 := by rw [List.append_nil, xorP_length]
  refine Runs.room 2 (64 + 0) (own := true) (ty := 5) (kd := .u8) (xs := xorP K 54 64) (lo := lu) rfl ?_ ?_
  · exact Runs.of_outN tys_ok mixed _ (Nn.r13i a0 a1 K (xorP K 54 64) lu (xorP K 92 64) lv (refI K []) g) ⟨(xorP_length _ _ _).symm, Nat.le_refl _, by omega, Nat.le_refl _, by omega, by rw [e]; exact byt_app (xorP_byt _ _ _) (fun y hy => by cases hy), by rw [e]; rfl, trivial⟩ (Nn.idsH _ _ _ _ _ _) rfl hp
  · exact Runs.of_outN tys_ok mixed _ (Nn.r13g a0 a1 K (xorP K 54 64) lu (xorP K 92 64) lv (refI K []) g) ⟨(xorP_length _ _ _).symm, Nat.le_refl _, room_u8 _ (by omega), by omega, Nat.le_refl _, by omega, by rw [e]; exact byt_app (xorP_byt _ _ _) (fun y hy => by cases hy), by rw [e]; rfl, trivial⟩ (Nn.idsH _ _ _ _ _ _) rfl hp
theorem Nn.hash2 (a0 : Option Addr) (a1 : Option Addr) (K : Nat → Int) (lv : Nat) (m : List Int) (g : Nat → SV) : RunsF Tryd.prog Gs 0 T14 (fill g 0 (Nn.MH a0 a1 )) (Nn.memH a0 a1 (xorP K 92 64) lv none (refI K m)) (EndsM tys fn (endsQ (cB32.enc (refO K (refI K m))) .none)) := by
  have e : ((xorP K 92 64 ++ (refI K m).to).drop 0).take 96 = xorP K 92 64 ++ (refI K m).to := by rw [List.drop_zero, List.take_of_length_le (by rw [List.length_append, xorP_length, to_len]; exact Nat.le_refl _)]
  refine Runs.room 1 96 (own := true) (ty := 5) (kd := .u8) (xs := xorP K 92 64) (lo := lv) rfl ?_ ?_
  · exact Runs.of_exec tys_ok mixed (Nn.di a0 a1 (xorP K 92 64) lv (refI K m) (refO K (refI K m)) g) ⟨by decide, (xorP_length _ _ _).symm, by decide, by rw [List.length_append, xorP_length, to_len]; decide, by decide, by decide, by rw [e]; exact byt_app (xorP_byt _ _ _) (outR_byt _), by rw [e]; rfl, trivial⟩ (EndsM.ret (Nn.resi a0 a1 _ _ _ _ _) rfl)
  · exact Runs.of_exec tys_ok mixed (Nn.dg a0 a1 (xorP K 92 64) lv (refI K m) (refO K (refI K m)) g) ⟨by decide, (xorP_length _ _ _).symm, by decide, room_u8 _ (by decide), by rw [List.length_append, xorP_length, to_len]; decide, by decide, by decide, by rw [e]; exact byt_app (xorP_byt _ _ _) (outR_byt _), by rw [e]; rfl, trivial⟩ (EndsM.ret (Nn.resg a0 a1 _ _ _ _ _) rfl)
theorem Nn.tail (a0 : Option Addr) (a1 : Option Addr) (K : Nat → Int) (g : Nat → SV) : RunsF Tryd.prog Gs 0 (csuf 4 body) (fill g 0 (Nn.MA a0 a1 )) (Nn.memA a0 a1 K) (EndsM tys fn (endsQ (cB32.enc (refO K (refI K []))) .none)) := by
  rw [T7_eq]
  refine Runs.seq (Runs.seq (Runs.of_outX tys_ok mixed (Nn.a7 a0 a1 K g) trivial (Nn.ids0 _ _ _) rfl fun g1 => ?_))
  refine Nn.loop a0 a1 K (fun g2 lu lv => ?_) g1
  refine Runs.seq (Nn.hash1 a0 a1 K lu lv (fun g3 => ?_) g2)
  exact Nn.hash2 a0 a1 K lv [] g3
theorem Nn.walk (a0 : Option Addr) (a1 : Option Addr) : RunsF Tryd.prog Gs 0 body (startT fn [.o (.a (.v (.slice a0 0 0))), .o (.a (.v (.slice a1 0 0)))]) [] (EndsM tys fn (endsQ (cB32.enc (refO (kshort [] 0) (refI (kshort [] 0) []))) .none)) := by
  have hx := Nn.s1 a0 a1 
  have ht := Nn.tail a0 a1 (kshort [] 0) 
  exact Runs.of_outXP tys_ok mixed 4 hx ⟨by decide, trivial⟩ (Nn.idsA _ _ _) rfl ht
end
end rmac
end Go.Proofs.YtpmdelihcdaffaaDoor

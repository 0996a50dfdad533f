/- The law TreeBack: run. -/
import Derived.Test.YtdccehmekkcheaaDoorBLBk
namespace Go.Proofs.YtdccehmekkcheaaDoor
open Go Go.Eng Go.RowKit
set_option linter.unusedVariables false
set_option linter.unusedSimpArgs false
set_option maxRecDepth 100000
theorem op_ok {l : List Lf} (h : AllL l) (h0 : l ≠ []) (hd : rndD l l.length = false) (x : B32) : AllOk (opT hV l x) := by
  have hA := (ap_iff (tnd_ok h)).1 (tnd_apart h hd)
  have hne : tndV l ≠ [] := by rw [← List.length_pos_iff, tnd_len, List.length_pos_iff]; exact h0
  have W := witV_spec hV hV_ok true hA hne [x]
  rw [← aroV_wit hV hV_ok true hA] at W
  exact (Wit.ap hV hV_ok hA W).ok
theorem modU1 (k : Int) {i : Nat} (hb : i ≤ 4000000) (h1 : 0 < i) : (((IntKind.u64.wrap k).tmod (IntKind.u64.wrap i)).toNat : Int) = (IntKind.u64.wrap k).tmod (IntKind.u64.wrap i) ∧ ((IntKind.u64.wrap k).tmod (IntKind.u64.wrap i)).toNat < i := by
  have hi : IntKind.u64.wrap (i : Int) = i := by rw [IntKind.wrap_u64]; omega
  have hk : 0 ≤ IntKind.u64.wrap k := by rw [IntKind.wrap_u64]; omega
  rw [hi]
  have a := Int.tmod_nonneg (i : Int) hk
  have b := Int.tmod_lt_of_pos (IntKind.u64.wrap k) (show (0 : Int) < i by omega)
  omega
namespace lbak.w
theorem rest (l : List Lf) (k : Int) (n c : Nat) (ty : TypeId) (D : List Lf) (hD : AllL D) (h0 : D ≠ []) (hd : rndD D D.length = false) (hm : D.length ≤ 4000000) (x : B32) (hx : BOk x) (g : Nat → SV) :
    RunsF Tryd.prog GT 1 S4 (fill g 0 (M0 hV rfl hE rfl hS rfl l k n c ty D.length)) (m0 hV rfl hE rfl hS rfl l k n c ty x (lvals D) D.length) (EndsM tys fn (endsQ (cBool.enc true) .none)) := by
  obtain ⟨b1, b2, b3⟩ := back hD h0 hd hE hS hx
  have hV1 : ((lvals D).drop (0 + 0)).take (D.length * 64) = lvals D := dtw (lvals_len D)
  have hl := lvals_len D
  have hp := List.length_pos_iff.2 h0
  have hap := tnd_apart hD hd
  have hle := op_len hD hd x
  have hk := op_ok hD h0 hd x
  have hr : rofT hV hE hS D = ((rofT hV hE hS D).1, 0) := Prod.ext rfl b1
  have head : ∀ u d, foundV hV hE hS (rofT hV hE hS D).1 (opT hV D x) x = (u, d, 0) → (∀ g, RunsF Tryd.prog GT 1 (.seq (.seq A1 (.block 0 (.loop L))) lbak.D) (fill g 0 (M1 hV rfl hE rfl hS rfl l k n c ty D.length d)) (m1 hV rfl hE rfl hS rfl l k n c ty x (lvals D) D.length u) (EndsM tys fn (endsQ (cBool.enc true) .none))) →
      RunsF Tryd.prog GT 1 S4 (fill g 0 (M0 hV rfl hE rfl hS rfl l k n c ty D.length)) (m0 hV rfl hE rfl hS rfl l k n c ty x (lvals D) D.length) (EndsM tys fn (endsQ (cBool.enc true) .none)) := fun u d hf go => by
    refine Runs.of_outNP tys_ok mixed 4 [0, 1, 2, 7] (s4 hV rfl hE rfl hS rfl l k n c ty x (lvals D) D.length (rofT hV hE hS D).1 u d g) ?_ (i1 hV rfl hE rfl hS rfl l k n c ty _ _ _ _ _) (by kernel_rfl) fun g => ?_
    · rw [hV1, hV1, lfDec_vals, dtn (l := opT hV D x) rfl, ndDec_vals]
      exact ⟨by omega, Nat.le_refl _, rfl, hp, roomLf _ hm, by omega, Nat.le_refl _, rfl, rfl, hm, hD, congrArg hsS hr, by omega, Nat.le_refl _, rfl, hp, roomLf _ hm, by omega, Nat.le_refl _, rfl, rfl, hm, hD, hx, hp, hap, by rw [nvals_len]; omega, Nat.le_refl _, rfl, rfl, by unfold boundN; omega, hk, hx, by rw [hf], trivial⟩
    · rw [suf_4]
      exact go g
  have no' : ∀ (u : B32) (d : Bool) (i : Nat) (g : Nat → SV) (hi : i < D.length), (D.getD i zl).lab ≠ x → ∀ {Post : Ex → List SV → List Blk → Prop}, (∀ g, Post .normal (fill g 0 (M2 hV rfl hE rfl hS rfl l k n c ty D.length d ((i + 1 : Nat) : Int))) (m1 hV rfl hE rfl hS rfl l k n c ty x (lvals D) D.length u)) →
      RunsF Tryd.prog GT 1 L (fill g 0 (M2 hV rfl hE rfl hS rfl l k n c ty D.length d (i : Int))) (m1 hV rfl hE rfl hS rfl l k n c ty x (lvals D) D.length u) Post := fun u d i g hi hne Post h => by
    obtain ⟨c1, c2⟩ := dst.ld_llab D hi
    exact Runs.of_outX tys_ok mixed (no hV rfl hE rfl hS rfl l k n c ty x (lvals D) D.length u d i ((i + 1 : Nat) : Int) _ g) ⟨decide_eq_true (by omega), by omega, by omega, c1, c2, by rw [← Bool.not_eq_true, eqL_iff]; exact fun e => hne (to_inj e), by rw [IntKind.wrap_i64]; omega, trivial⟩ (i2 hV rfl hE rfl hS rfl l k n c ty _ _ _ _ _ _) rfl fun g => h g
  by_cases hex : ∃ z ∈ D, z.lab = x
  · obtain ⟨z0, hz0, e0⟩ := hex
    have f0 := b2 z0 hz0 e0
    refine head _ _ f0 fun g => ?_
    refine Runs.seq (Runs.seq (Runs.of_outX tys_ok mixed (a1 hV rfl hE rfl hS rfl l k n c ty x (lvals D) D.length _ true g) trivial (i2 hV rfl hE rfl hS rfl l k n c ty _ _ _ _ _ _) rfl fun g => ?_))
    refine Runs.block ?_
    refine Runs.loopX (fun (i : Nat) => M2 hV rfl hE rfl hS rfl l k n c ty D.length true (i : Int)) (fun _ => m1 hV rfl hE rfl hS rfl l k n c ty x (lvals D) D.length (leafV z0).hash) (fun i => i ≤ D.length ∧ ∀ j, j < i → (D.getD j zl).lab ≠ x) (fun i => D.length - i) ?_ 0 ⟨Nat.zero_le _, fun j hj => absurd hj (by omega)⟩ g
    rintro i g ⟨hi, hall⟩
    rcases Nat.lt_or_ge i D.length with h | h
    · by_cases hq : (D.getD i zl).lab = x
      · obtain ⟨c1, c2⟩ := dst.ld_llab D h
        obtain ⟨d1, d2⟩ := dst.ld_leaf D h
        have f1 := b2 (D.getD i zl) (getD_mem h _) hq
        rw [f0] at f1
        have eh : (leafV z0).hash = (leafV (D.getD i zl)).hash := congrArg Prod.fst f1
        refine Runs.of_outN tys_ok mixed [0] (hit hV rfl hE rfl hS rfl l k n c ty x (lvals D) D.length _ i _ _ (leafV (D.getD i zl)) g) ⟨decide_eq_true (by omega), by omega, by omega, c1, c2, by rw [hq]; exact eqL_refl _, by omega, by omega, d1, d2, hD.at h, rfl, by rw [eh]; exact eqL_refl _, trivial⟩ (by kernel_rfl) rfl fun g => ?_
        show EndsM _ _ _ _ _ _
        exact EndsM.ret (zr g _) rfl
      · refine no' _ _ i g h hq fun g => ?_
        exact ⟨i + 1, g, rfl, rfl, ⟨by omega, fun j hj => (by
          rcases Nat.lt_or_ge j i with h' | h'
          · exact hall j h'
          · obtain rfl : j = i := by omega
            exact hq)⟩, by omega⟩
    · exfalso
      obtain ⟨j, hj, rfl⟩ := List.mem_iff_getElem.1 hz0
      refine hall j (by omega) ?_
      rw [getD_lt hj]
      exact e0
  · have hall : ∀ z ∈ D, z.lab ≠ x := fun z hz e => hex ⟨z, hz, e⟩
    refine head _ _ (b3 hall) fun g => ?_
    refine Runs.seq (Runs.seq (Runs.of_outX tys_ok mixed (a1 hV rfl hE rfl hS rfl l k n c ty x (lvals D) D.length _ false g) trivial (i2 hV rfl hE rfl hS rfl l k n c ty _ _ _ _ _ _) rfl fun g => ?_))
    refine Runs.block ?_
    refine Runs.loopX (fun (i : Nat) => M2 hV rfl hE rfl hS rfl l k n c ty D.length false (i : Int)) (fun _ => m1 hV rfl hE rfl hS rfl l k n c ty x (lvals D) D.length zB) (fun i => i ≤ D.length) (fun i => D.length - i) ?_ 0 (Nat.zero_le _) g
    rintro i g hi
    rcases Nat.lt_or_ge i D.length with h | h
    · refine no' _ _ i g h (hall _ (getD_mem h _)) fun g => ?_
      exact ⟨i + 1, g, rfl, rfl, by omega, by omega⟩
    · refine Runs.of_outX tys_ok mixed (out hV rfl hE rfl hS rfl l k n c ty x (lvals D) D.length _ false i g) ⟨decide_eq_false (by omega), trivial⟩ (i1 hV rfl hE rfl hS rfl l k n c ty _ _ _ _ _) rfl fun g => ?_
      show RunsF _ _ _ _ _ _ _
      exact Runs.of_outN tys_ok mixed [0] (fin hV rfl hE rfl hS rfl l k n c ty x (lvals D) D.length g) ⟨eqL_refl _, trivial⟩ (by kernel_rfl) rfl fun g => EndsM.ret (zr g _) rfl
theorem run (l : List Lf) (k : Int) (n c : Nat) (ty : TypeId) (x : B32) (hn : l.length = n) (h0 : 0 < n) (hm : n ≤ 4000000) (hc : n ≤ c) (hok : AllL l) (hx : BOk x) :
    RunsF Tryd.prog GT 1 body (startT fn [.o (.a (.sld 0 0 0 n c)), .o (.a (int1 .i64 k)), cB32.enc x]) [⟨false, ty, .prv (lvals l)⟩] (EndsM tys fn (endsQ (cBool.enc true) .none)) := by
  have hl : (lvals l).length = n * 64 := by rw [← hn]; exact lvals_len l
  have hY : ((lvals l).drop (0 + 0)).take (n * 64) = lvals l := dtw hl
  refine Runs.of_outNP tys_ok mixed 3 [0, 1, 2] (s0 hV rfl hE rfl hS rfl l k n c ty x) ?_ (i0 hV rfl hE rfl hS rfl l k n c ty _ _ _) (by kernel_rfl) fun g => ?_
  · rw [hY, lfDec_vals]
    exact ⟨by omega, hc, rfl, hn, hm, h0, trivial⟩
  rw [suf_3, hY, lfDec_vals]
  have hlen := dstA_len l n
  have hne := dstA_pos l n h0
  have hD : AllL (dstA l n) := fun z hz => hok z (dstA_mem l n (by omega) z hz)
  have hd : rndD (dstA l n) (dstA l n).length = false := ne_dup (dstA_ne l n) _ (Nat.le_refl _)
  generalize dstA l n = D at *
  have hp := List.length_pos_iff.2 hne
  cases hq : (k.tmod 2 == 0) with
  | false =>
    exact Runs.seq (Runs.of_outX tys_ok mixed (kA hV rfl hE rfl hS rfl l k n c ty x (lvals D) D.length g) ⟨decide_eq_true (by omega), hq, trivial⟩ (i0 hV rfl hE rfl hS rfl l k n c ty _ _ _) rfl fun g => rest l k n c ty D hD hne hd (by omega) x hx g)
  | true =>
    obtain ⟨q1, q2⟩ := modU1 k (show D.length ≤ 4000000 by omega) hp
    have hi64 : IntKind.u64.wrap (D.length : Int) = D.length := by rw [IntKind.wrap_u64]; omega
    generalize ((IntKind.u64.wrap k).tmod (IntKind.u64.wrap D.length)).toNat = q at *
    obtain ⟨c1, c2⟩ := dst.ld_llab D q2
    refine Runs.seq (Runs.of_outX tys_ok mixed (kB hV rfl hE rfl hS rfl l k n c ty x (lvals D) D.length (IntKind.u64.wrap k) (IntKind.u64.wrap D.length) q q _ g) ⟨decide_eq_true (by omega), hq, rfl, rfl, by rw [hi64]; omega, by rw [← q1], by rw [IntKind.wrap_i64]; omega, by omega, by omega, c1, c2, trivial⟩ (i0 hV rfl hE rfl hS rfl l k n c ty _ _ _) rfl fun g => ?_)
    exact rest l k n c ty D hD hne hd (by omega) _ (hD.at q2).1 g
end lbak.w
end Go.Proofs.YtdccehmekkcheaaDoor

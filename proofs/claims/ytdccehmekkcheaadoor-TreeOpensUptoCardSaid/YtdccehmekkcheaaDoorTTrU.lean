/- Packages tree, beaconref11: the node over nodes: contracts of both sides. -/
import Derived.Test.YtdccehmekkcheaaDoorTTrT
namespace Go.Proofs.YtdccehmekkcheaaDoor
open Go Go.Eng Go.RowKit
set_option linter.unusedVariables false
set_option linter.unusedSimpArgs false
set_option maxRecDepth 100000
theorem dtA (l : List Nd) (k : Nat) : ((nvals l).drop (0 + 0)).take (k * 65) = nvals (l.take k) := by rw [Nat.add_zero, List.drop_zero, nvals_take]
theorem dtB {l : List Nd} {n : Nat} (hn : l.length = n) (k : Nat) : ((nvals l).drop (0 + k * 65)).take ((n - k) * 65) = nvals (l.drop k) := by
  rw [Nat.zero_add, nvals_drop, List.take_of_length_le (by rw [nvals_len, List.length_drop, hn]; exact Nat.le_refl _)]
theorem ld_node {l : List Nd} {n : Nat} (hn : l.length = n) {i : Nat} (hi : i < n) : 0 + offI 0 (i : Int) 65 + 65 ≤ (nvals l).length ∧ SV.o (.g (takeV (nvals l) (0 + offI 0 (i : Int) 65) 65)) = cNd.enc (l.getD i zn) := by
  have hl : (nvals l).length = n * 65 := by rw [← hn]; exact nvals_len l
  have hb : i * 65 + 65 ≤ n * 65 := by have := Nat.mul_le_mul_right 65 (show i + 1 ≤ n by omega); omega
  exact ⟨by rw [offs, hl]; omega, by rw [offs]; exact ld_nd l (by omega)⟩
theorem allOk_take {l : List Nd} (h : AllOk l) (k : Nat) : AllOk (l.take k) := fun x hx => h x (List.mem_of_mem_take hx)
theorem allOk_drop {l : List Nd} (h : AllOk l) (k : Nat) : AllOk (l.drop k) := fun x hx => h x (List.mem_of_mem_drop hx)
theorem parts_ok {l : List Nd} {n k : Nat} (hn : l.length = n) (hok : AllOk l) (hap : apartV l = true) (hk : k ≤ n) :
    (((nvals l).drop (0 + 0)).take (k * 65) = nvals (ndDec (((nvals l).drop (0 + 0)).take (k * 65))) ∧ ndDec (((nvals l).drop (0 + 0)).take (k * 65)) = l.take k ∧ (l.take k).length = k ∧ AllOk (l.take k) ∧ apartV (l.take k) = true) ∧
    (((nvals l).drop (0 + k * 65)).take ((n - k) * 65) = nvals (ndDec (((nvals l).drop (0 + k * 65)).take ((n - k) * 65))) ∧ ndDec (((nvals l).drop (0 + k * 65)).take ((n - k) * 65)) = l.drop k ∧ (l.drop k).length = n - k ∧ AllOk (l.drop k) ∧ apartV (l.drop k) = true) := by
  have hA := (ap_iff hok).1 hap
  rw [dtA, dtB hn, ndDec_vals, ndDec_vals]
  exact ⟨⟨rfl, rfl, by rw [List.length_take]; omega, allOk_take hok k, (ap_iff (allOk_take hok k)).2 (ap_take hA k)⟩, ⟨rfl, rfl, by rw [List.length_drop, hn], allOk_drop hok k, (ap_iff (allOk_drop hok k)).2 (ap_drop hA k)⟩⟩
namespace tjn
theorem all (H : Nd → Nd → B32) (hH : H = hV) : ∀ N, N ≤ boundN → IH H N
  | 0, _ => fun l n c ty hn h => absurd h (by omega)
  | N + 1, hN => by
    have ih := all H hH N (by omega)
    intro l n c ty hn hlt h1 hc hok hap
    by_cases e1 : n = 1
    · obtain ⟨a1, a2⟩ := ld_node hn (show 0 < n by omega)
      refine Runs.of_outX tys_ok mixed (one H N ih l n c ty _) ⟨by rw [beq_iff_eq]; omega, by omega, by omega, a1, a2, trivial⟩ (ids _ _ _) rfl fun g => EndsM.ret (zr _ _ _ g) ?_
      rw [join_one H (by omega)]
      rfl
    · have hA := (ap_iff hok).1 hap
      have hs := halves hA (by omega)
      have k0 := hs.k0
      have kl := hs.kl
      have c256 := hs.c256
      have hY := dtn hn
      have ok0 := hok.at (show 0 < l.length by omega)
      have hl : (nvals l).length = n * 65 := by rw [← hn]; exact nvals_len l
      obtain ⟨a1, a2⟩ := ld_off l hn (show 0 < n by omega)
      obtain ⟨⟨q1, q2, q3, q4, q5⟩, r1, r2, r3, r4, r5⟩ := parts_ok hn hok hap (show splK l (topC l) ≤ n by omega)
      have hk1 : splK l (topC l) * 65 ≤ n * 65 := Nat.mul_le_mul_right _ (by omega)
      have hk2 : (n - splK l (topC l)) * 65 = n * 65 - splK l (topC l) * 65 := Nat.sub_mul _ _ _
      refine Runs.of_outX tys_ok mixed (two H N ih l n c ty (splK l (topC l)) (splK l (topC l) * 65) (topC l : Nat) (l.getD 0 zn).pre (fstV (l.getD 0 zn).pre (topC l)) (H (joinV H (l.take (splK l (topC l)))) (joinV H (l.drop (splK l (topC l))))) (joinV H (l.take (splK l (topC l)))) (joinV H (l.drop (splK l (topC l)))))
        ⟨by rw [← Bool.not_eq_true, beq_iff_eq]; omega, by omega, hc, by rw [hY, ndDec_vals], by rw [hY, ndDec_vals]; exact hn, by omega, by omega, by rw [hY, ndDec_vals]; exact hok, by rw [hY, ndDec_vals]; exact hap, by rw [hY, ndDec_vals, Nat.zero_add, Nat.zero_add],
          by omega, by omega, a1, a2, ok0.1, by omega, by omega, rfl,
          by omega, by omega, q1, by rw [q2]; exact q3, by omega, by omega, by rw [q2]; exact q4, by rw [q2]; exact q5, by rw [q2],
          by omega, by omega, r1, by rw [r2]; exact r3, by omega, by omega, by rw [r2]; exact r4, by rw [r2]; exact r5, by rw [r2],
          by omega, by omega, ?_, trivial⟩ (ids _ _ _) rfl fun g => EndsM.ret (zr _ _ _ g) ?_
      · rw [dt (n := 133) rfl, sha_of (by show 133 ≤ _; omega), hH]
        rfl
      · rw [join_two H hA (by omega)]
        rfl
end tjn
namespace rov
theorem all (H : Nd → Nd → B32) (hH : H = hV) : ∀ N, N ≤ boundN → IH H N
  | 0, _ => fun l n c ty hn h => absurd h (by omega)
  | N + 1, hN => by
    have ih := all H hH N (by omega)
    intro l n c ty hn hlt h1 hc hok hap
    by_cases e1 : n = 1
    · obtain ⟨a1, a2⟩ := ld_node hn (show 0 < n by omega)
      refine Runs.of_outX tys_ok mixed (one H N ih l n c ty _) ⟨by rw [beq_iff_eq]; omega, by omega, by omega, a1, a2, trivial⟩ (ids _ _ _) rfl fun g => EndsM.ret (zr _ _ _ g) ?_
      rw [join_one H (by omega)]
      rfl
    · have hA := (ap_iff hok).1 hap
      have hs := halves hA (by omega)
      have k0 := hs.k0
      have kl := hs.kl
      have c256 := hs.c256
      have hY := dtn hn
      have ok0 := hok.at (show 0 < l.length by omega)
      have ok1 := hok.at (show n - 1 < l.length by omega)
      have hl : (nvals l).length = n * 65 := by rw [← hn]; exact nvals_len l
      have hHk : ∀ a b, BOk (H a b) := fun a b => by rw [hH]; exact hV_ok a b
      obtain ⟨a1, a2⟩ := ld_off l hn (show 0 < n by omega)
      obtain ⟨b1, b2⟩ := ld_off l hn (show n - 1 < n by omega)
      have hw : IntKind.i64.wrap ((n : Int) - 1) = ((n - 1 : Nat) : Int) := by unfold boundN at hN; rw [IntKind.wrap_i64]; omega
      obtain ⟨⟨q1, q2, q3, q4, q5⟩, r1, r2, r3, r4, r5⟩ := parts_ok hn hok hap (show splK l (topC l) ≤ n by omega)
      have hk1 : splK l (topC l) * 65 ≤ n * 65 := Nat.mul_le_mul_right _ (by omega)
      have hk2 : (n - splK l (topC l)) * 65 = n * 65 - splK l (topC l) * 65 := Nat.sub_mul _ _ _
      have ht : ((topC l : Nat) : Int).toNat = topC l := rfl
      have okx := (join_good H hHk (ap_take hA (splK l (topC l))) (by rw [← List.length_pos_iff, q3]; omega)).2.1
      have oky := (join_good H hHk (ap_drop hA (splK l (topC l))) (by rw [← List.length_pos_iff, r3]; omega)).2.1
      refine Runs.of_outX tys_ok mixed (two H N ih l n c ty (splK l (topC l)) (splK l (topC l) * 65) ((n - 1 : Nat) : Int) (topC l : Nat) (l.getD 0 zn).pre (l.getD (n - 1) zn).pre (fstV (l.getD 0 zn).pre (topC l)) (H (joinV H (l.take (splK l (topC l)))) (joinV H (l.drop (splK l (topC l))))) (joinV H (l.take (splK l (topC l)))) (joinV H (l.drop (splK l (topC l)))))
        ⟨by rw [← Bool.not_eq_true, beq_iff_eq]; omega, by omega, by omega, a1, a2, hw, by omega, by omega, b1, b2, ok0.1, ok1.1, by omega, by omega, ?_,
          by omega, hc, by rw [hY, ndDec_vals], by rw [hY, ndDec_vals]; exact hn, by omega, by omega, by omega, by rw [hY, ndDec_vals]; exact hok, by rw [hY, ndDec_vals, ht]; exact mono_halves hs, by rw [hY, ndDec_vals, ht]; omega, by rw [hY, ndDec_vals, ht, Nat.zero_add, Nat.zero_add],
          ok0.1, by omega, by omega, rfl,
          by omega, by omega, q1, by rw [q2]; exact q3, by omega, by omega, by rw [q2]; exact q4, by rw [q2]; exact q5, by rw [q2],
          by omega, by omega, r1, by rw [r2]; exact r3, by omega, by omega, by rw [r2]; exact r4, by rw [r2]; exact r5, by rw [r2],
          by omega, by omega, by omega, by rw [dt (n := 133) rfl]; exact innB_byt okx oky, ?_, trivial⟩ (ids _ _ _) rfl fun g => EndsM.ret (zr _ _ _ g) ?_
      · have : min (256 : Int).toNat (comV (l.getD 0 zn).pre (l.getD (n - 1) zn).pre) = topC l := by
          have hc := com_le (l.getD 0 zn).pre (l.getD (n - 1) zn).pre
          have e : topC l = comV (l.getD 0 zn).pre (l.getD (n - 1) zn).pre := by unfold topC; rw [hn]
          rw [e]
          show min 256 _ = _
          omega
        rw [this]
      · rw [dt (n := 133) rfl, hH]
        rfl
      · rw [join_two H hA (by omega)]
        rfl
end rov
end Go.Proofs.YtdccehmekkcheaaDoor

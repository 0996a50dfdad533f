/- Around, Without: what they answer. Plain. -/
import Derived.Test.YtdccehmekkcheaaDoorTArG
namespace Go.Proofs.YtdccehmekkcheaaDoor
open Go Go.Eng Go.RowKit
set_option linter.unusedVariables false
set_option linter.unusedSimpArgs false
set_option maxRecDepth 100000
theorem dtb {l : List B32} {n : Nat} (hn : l.length = n) : ((wvals l).drop (0 + 0)).take (n * 32) = wvals l := by
  rw [Nat.add_zero, List.drop_zero, List.take_of_length_le (by rw [wvals_len]; omega)]
theorem AllB.at {l : List B32} (h : AllB l) {i : Nat} (hi : i < l.length) : BOk (l.getD i zB) := h _ (getD_mem hi _)
theorem AllB.filter {l : List B32} (h : AllB l) (p : B32 → Bool) : AllB (l.filter p) := fun x hx => h x (List.mem_filter.1 hx).1
theorem filt_succ {l : List B32} {i : Nat} (h : i < l.length) (p : B32 → Bool) : (l.take (i + 1)).filter p = bif p (l.getD i zB) then (l.take i).filter p ++ [l.getD i zB] else (l.take i).filter p := by
  rw [List.take_succ_eq_append_getElem h, List.filter_append, getD_lt h]
  cases hp : p l[i] with
  | true => rw [cond_true, List.filter_cons_of_pos hp]; rfl
  | false => rw [cond_false, List.filter_cons_of_neg (by rw [hp]; decide)]; simp
theorem any_succ {l : List B32} {i : Nat} (h : i < l.length) (p : B32 → Bool) : (l.take (i + 1)).any p = ((l.take i).any p || p (l.getD i zB)) := by
  rw [List.take_succ_eq_append_getElem h, List.any_append, getD_lt h]
  simp
theorem filt_bound {l : List B32} {p : B32 → Bool} : (l.filter p).length ≤ l.length := List.length_filter_le _ _
theorem roomL (n : Nat) (h : n ≤ 4000000) : Room Tryd.prog 24 n := by
  have h1 : (Tryd.prog.info? 24).map (·.bytes) = some 32 := by kernel_rfl
  cases hq : Tryd.prog.info? 24 with
  | none => rw [hq] at h1; cases h1
  | some j =>
    rw [hq] at h1
    have : j.bytes = 32 := by simpa using h1
    exact ⟨j, hq, by rw [this]; omega, by omega⟩
theorem oneB (b : B32) : ∀ v ∈ bvals b, v.oneCell' = true := fun v hv => by
  unfold bvals at hv
  obtain ⟨i, _, rfl⟩ := List.mem_map.1 hv
  rfl
theorem oneVs (l : List Nd) : ∀ v ∈ nvals l, v.oneCell' = true := fun v hv => by
  obtain ⟨x, _, hx⟩ := List.mem_flatMap.1 hv
  exact oneV x v hx
section
variable (H : Nd → Nd → B32)
theorem aro_nil (own : Bool) (f : Nat) (ks : List B32) : aroF H own f [] ks = [] := by cases f <;> rfl
theorem aro_fuel (own : Bool) : ∀ (f g : Nat) (l : List Nd) (ks : List B32), Ap l → l.length ≤ f → l.length ≤ g → aroF H own f l ks = aroF H own g l ks
  | 0, g, l, ks, _, hf, _ => by obtain rfl := List.eq_nil_of_length_eq_zero (Nat.le_zero.1 hf); rw [aro_nil, aro_nil]
  | f + 1, 0, l, ks, _, _, hg => by obtain rfl := List.eq_nil_of_length_eq_zero (Nat.le_zero.1 hg); rw [aro_nil, aro_nil]
  | f + 1, g + 1, l, ks, h, hf, hg => by
    rcases Nat.lt_or_ge l.length 2 with h2 | h2
    · rw [aroF, aroF]
      cases b0 : Nat.beq l.length 0 with
      | true => rfl
      | false =>
        have b1 : Nat.beq l.length 1 = true := by
          rw [← Bool.not_eq_true, Nat.beq_eq] at b0
          rw [Nat.beq_eq]; omega
        rw [b1]; rfl
    · have s := halves h h2
      have k0 := s.k0
      have kl := s.kl
      have a := aro_fuel own f g (l.take (splK l (topC l))) (ks.filter (holdsV (joinV H l))) (ap_take h _) (by rw [List.length_take]; omega) (by rw [List.length_take]; omega)
      have b := aro_fuel own f g (l.drop (splK l (topC l))) (ks.filter (holdsV (joinV H l))) (ap_drop h _) (by rw [List.length_drop]; omega) (by rw [List.length_drop]; omega)
      rw [aroF, aroF, a, b]
theorem wit_fuel (own : Bool) : ∀ (f g : Nat) (l : List Nd) (ks : List B32), Ap l → l.length ≤ f → l.length ≤ g → witF H own f l ks = witF H own g l ks
  | 0, g, l, ks, _, hf, _ => by obtain rfl := List.eq_nil_of_length_eq_zero (Nat.le_zero.1 hf); rw [wit_nil, wit_nil]
  | f + 1, 0, l, ks, _, _, hg => by obtain rfl := List.eq_nil_of_length_eq_zero (Nat.le_zero.1 hg); rw [wit_nil, wit_nil]
  | f + 1, g + 1, l, ks, h, hf, hg => by
    rcases Nat.lt_or_ge l.length 2 with h2 | h2
    · rw [witF, witF]
      cases b0 : Nat.beq l.length 0 with
      | true => rfl
      | false =>
        have b1 : Nat.beq l.length 1 = true := by
          rw [← Bool.not_eq_true, Nat.beq_eq] at b0
          rw [Nat.beq_eq]; omega
        rw [b1]; rfl
    · have s := halves h h2
      have k0 := s.k0
      have kl := s.kl
      have a := wit_fuel own f g (l.take (splK l (topC l))) ks (ap_take h _) (by rw [List.length_take]; omega) (by rw [List.length_take]; omega)
      have b := wit_fuel own f g (l.drop (splK l (topC l))) ks (ap_drop h _) (by rw [List.length_drop]; omega) (by rw [List.length_drop]; omega)
      rw [witF, witF, a, b]
theorem aroV_nil (own : Bool) (ks : List B32) : aroV H own [] ks = [] := aro_nil H own _ ks
theorem witV_nil (own : Bool) (ks : List B32) : witV H own [] ks = [] := wit_nil H own _ ks
theorem len0 {l : List B32} : Nat.beq l.length 0 = true ↔ l = [] := by rw [Nat.beq_eq, List.length_eq_zero_iff]
theorem len0f {l : List B32} (h : l ≠ []) : Nat.beq l.length 0 = false := by rw [← Bool.not_eq_true, len0]; exact h
theorem aroV_one {l : List Nd} (own : Bool) (ks : List B32) (h1 : 1 ≤ l.length) (hc : ks.filter (holdsV (joinV H l)) = [] ∨ (l.length = 1 ∧ own = true)) : aroV H own l ks = [joinV H l] := by
  unfold aroV
  obtain ⟨f, hf⟩ : ∃ f, l.length = f + 1 := ⟨l.length - 1, by omega⟩
  have b0 : Nat.beq l.length 0 = false := by rw [← Bool.not_eq_true, Nat.beq_eq]; omega
  have e : aroF H own l.length l ks = aroF H own (f + 1) l ks := by rw [← hf]
  rw [e, aroF, b0, cond_false]
  rcases hc with h | ⟨h, rfl⟩
  · rw [len0.2 h]; rfl
  · rw [h, show (Nat.beq 1 1 && true) = true from rfl, Bool.or_true, cond_true]
theorem aroV_gone {l : List Nd} (ks : List B32) (h1 : l.length = 1) (hc : ks.filter (holdsV (joinV H l)) ≠ []) : aroV H false l ks = [] := by
  unfold aroV
  rw [h1, aroF, h1, len0f hc]
  rfl
theorem aroV_two {l : List Nd} (h : Ap l) (h2 : 2 ≤ l.length) (own : Bool) (ks : List B32) (hc : ks.filter (holdsV (joinV H l)) ≠ []) :
    aroV H own l ks = aroV H own (l.take (splK l (topC l))) (ks.filter (holdsV (joinV H l))) ++ aroV H own (l.drop (splK l (topC l))) (ks.filter (holdsV (joinV H l))) := by
  obtain ⟨f, hf⟩ : ∃ f, l.length = f + 1 := ⟨l.length - 1, by omega⟩
  have s := halves h h2
  have k0 := s.k0
  have kl := s.kl
  have b0 : Nat.beq l.length 0 = false := by rw [← Bool.not_eq_true, Nat.beq_eq]; omega
  have b1 : Nat.beq l.length 1 = false := by rw [← Bool.not_eq_true, Nat.beq_eq]; omega
  have e : aroV H own l ks = aroF H own (f + 1) l ks := by unfold aroV; rw [← hf]
  rw [e, aroF, b0, b1, len0f hc, cond_false, Bool.false_and, Bool.false_or, cond_false, cond_false]
  unfold aroV
  rw [aro_fuel H own f _ _ _ (ap_take h _) (by rw [List.length_take]; omega) (Nat.le_refl _), aro_fuel H own f _ _ _ (ap_drop h _) (by rw [List.length_drop]; omega) (Nat.le_refl _)]
theorem witV_one {l : List Nd} (own : Bool) (ks : List B32) (h1 : 1 ≤ l.length) (hc : ks.any (holdsV (joinV H l)) = false ∨ (l.length = 1 ∧ own = true)) : witV H own l ks = [joinV H l] := by
  unfold witV
  obtain ⟨f, hf⟩ : ∃ f, l.length = f + 1 := ⟨l.length - 1, by omega⟩
  have b0 : Nat.beq l.length 0 = false := by rw [← Bool.not_eq_true, Nat.beq_eq]; omega
  have e : witF H own l.length l ks = witF H own (f + 1) l ks := by rw [← hf]
  rw [e, witF, b0, cond_false]
  rcases hc with h | ⟨h, rfl⟩
  · rw [h]; rfl
  · rw [h, show (Nat.beq 1 1 && true) = true from rfl, Bool.or_true, cond_true]
theorem witV_gone {l : List Nd} (ks : List B32) (h1 : l.length = 1) (hc : ks.any (holdsV (joinV H l)) = true) : witV H false l ks = [] := by
  unfold witV
  rw [h1, witF, h1, hc]
  rfl
theorem witV_two {l : List Nd} (h : Ap l) (h2 : 2 ≤ l.length) (own : Bool) (ks : List B32) (hc : ks.any (holdsV (joinV H l)) = true) :
    witV H own l ks = witV H own (l.take (splK l (topC l))) ks ++ witV H own (l.drop (splK l (topC l))) ks := by
  obtain ⟨f, hf⟩ : ∃ f, l.length = f + 1 := ⟨l.length - 1, by omega⟩
  have s := halves h h2
  have k0 := s.k0
  have kl := s.kl
  have b0 : Nat.beq l.length 0 = false := by rw [← Bool.not_eq_true, Nat.beq_eq]; omega
  have b1 : Nat.beq l.length 1 = false := by rw [← Bool.not_eq_true, Nat.beq_eq]; omega
  have e : witV H own l ks = witF H own (f + 1) l ks := by unfold witV; rw [← hf]
  rw [e, witF, b0, b1, hc, cond_false, Bool.false_and, Bool.not_true, Bool.false_or, cond_false, cond_false]
  unfold witV
  rw [wit_fuel H own f _ _ _ (ap_take h _) (by rw [List.length_take]; omega) (Nat.le_refl _), wit_fuel H own f _ _ _ (ap_drop h _) (by rw [List.length_drop]; omega) (Nat.le_refl _)]
variable (hH : ∀ a b, BOk (H a b))
include hH
theorem aroV_wit (own : Bool) {l : List Nd} (h : Ap l) (ks : List B32) : aroV H own l ks = witV H own l ks := aro_wit H hH own _ l ks ks h fun _ _ => Iff.rfl
theorem witV_spec (own : Bool) {l : List Nd} (h : Ap l) (h0 : l ≠ []) (ks : List B32) : Wit H own l l ks (witV H own l ks) := wit_spec H hH own h ks _ l (full_self H hH h h0) (Nat.le_refl _)
theorem witV_len (own : Bool) {l : List Nd} (h : Ap l) (ks : List B32) : (witV H own l ks).length ≤ l.length := by
  by_cases h0 : l = []
  · subst h0; rw [witV_nil]; exact Nat.le_refl _
  · exact (witV_spec H hH own h h0 ks).len
theorem aroV_len (own : Bool) {l : List Nd} (h : Ap l) (ks : List B32) : (aroV H own l ks).length ≤ l.length := by rw [aroV_wit H hH own h]; exact witV_len H hH own h ks
end
end Go.Proofs.YtdccehmekkcheaaDoor

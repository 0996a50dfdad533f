/- Leaves set anew: turned round, two exchanged. Plain. -/
import Derived.Test.YtdccehmekkcheaaDoorCTrPl
namespace Go.Proofs.YtdccehmekkcheaaDoor
open Go Go.Eng Go.RowKit
set_option linter.unusedVariables false
set_option linter.unusedSimpArgs false
theorem putL {L : List Lf} {i : Nat} (h : i < L.length) (x : Lf) : putV (i * 64) x.vals (lvals L) = lvals (L.set i x) := by
  unfold putV
  rw [show (lvals L).take (i * 64) = lvals (L.take i) from flat_take Lf.vals_len L i, Lf.vals_len, show i * 64 + 64 = (i + 1) * 64 by omega, show (lvals L).drop ((i + 1) * 64) = lvals (L.drop (i + 1)) from flat_drop Lf.vals_len L (i + 1)]
  rw [List.set_eq_take_append_cons_drop, if_pos h, lvals_app]
  rfl
def revA (l : List Lf) : Nat → List Lf
  | 0 => l
  | j + 1 => (revA l j).set j (l.getD (l.length - 1 - j) zl)
theorem revA_len (l : List Lf) : ∀ j, (revA l j).length = l.length
  | 0 => rfl
  | j + 1 => by rw [revA, List.length_set, revA_len l j]
theorem revA_get (l : List Lf) : ∀ j i, i < l.length → (revA l j).getD i zl = if i < j then l.getD (l.length - 1 - i) zl else l.getD i zl
  | 0, i, h => by rw [if_neg (by omega)]; rfl
  | j + 1, i, h => by
    have hl := revA_len l j
    rw [revA, List.getD_eq_getElem?_getD, List.getElem?_set]
    by_cases e : j = i
    · subst e
      rw [if_pos rfl, if_pos (by omega), if_pos (by omega)]
      rfl
    · rw [if_neg e, ← List.getD_eq_getElem?_getD, revA_get l j i h]
      by_cases h1 : i < j
      · rw [if_pos h1, if_pos (by omega)]
      · rw [if_neg h1, if_neg (by omega)]
theorem revA_all (l : List Lf) : revA l l.length = l.reverse := by
  apply List.ext_getElem
  · rw [revA_len, List.length_reverse]
  · intro i h1 h2
    rw [revA_len] at h1
    have := revA_get l l.length i h1
    rw [if_pos h1] at this
    rw [getD_lt (by rw [revA_len]; exact h1), getD_lt (by omega)] at this
    rw [this, List.getElem_reverse]
theorem rev_perm (l : List Lf) : (revA l l.length).Perm l := by rw [revA_all]; exact List.reverse_perm l
theorem swap_perm {L : List Lf} {q : Nat} (h0 : 0 < L.length) (h : q < L.length) : ((L.set 0 (L.getD q zl)).set q (L.getD 0 zl)).Perm L := by
  rw [getD_lt h, getD_lt h0]
  exact List.set_set_perm h0 h
end Go.Proofs.YtdccehmekkcheaaDoor

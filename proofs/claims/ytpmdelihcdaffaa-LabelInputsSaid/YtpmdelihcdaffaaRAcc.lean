/- Package beaconref07: Account: its walk. -/
import Derived.Test.YtpmdelihcdaffaaAcc
namespace Go.Proofs.Ytpmdelihcdaffaa
open Go Go.Eng Go.RowKit
set_option linter.unusedVariables false
set_option linter.unusedSimpArgs false
set_option maxRecDepth 100000

theorem racc_walk (s : ByteArray) (w : World) (hs : s.size ≤ 9223372036854775807) :
    Calls Try.prog 7 #[.string s] w fun e w' => e = .returned (.bool (accOk (bytesI s))) ∧ Below w.heap.size w w' := by
  go_enter Try.func7, Try.ntmps7
  go_wp2
  go_loop [3] (fun i => ∃ pos : Nat, i = .int .i64 pos ∧ pos ≤ s.size ∧ ∀ k, k < pos → okB ((bytesI s).getD k 0) = true) (fun i => s.size - (intOf i).toNat)
  case atStart => exact ⟨0, rfl, by omega, fun k hk => by omega⟩
  case round =>
    obtain ⟨pos, rfl, hp0, hall⟩ := hrel
    go_wp2
    all_goals first
      | (have hp : pos < s.size := by assumption
         have hg : okB ((s[pos]'hp).toNat : Int) = true := by
          unfold okB
          simp only [Bool.or_eq_true, Bool.and_eq_true, decide_eq_true_eq]
          try simp only [Bool.not_eq_true', Bool.not_eq_false', decide_eq_true_eq, decide_eq_false_iff_not, beq_iff_eq, beq_eq_false_iff_ne, ne_eq] at *
          omega
         rw [show ((pos : Int) + 1) = ((pos + 1 : Nat) : Int) by omega]
         refine ⟨⟨pos + 1, rfl, by omega, fun k hk => ?_⟩, ?_⟩
         · by_cases e : k = pos
           · rw [e, bytes_at s pos hp]; exact hg
           · exact hall k (by omega)
         · simp [intOf]; omega)
      | (have hp : pos < s.size := by assumption
         have hg : okB ((s[pos]'hp).toNat : Int) = false := by
          cases hb : okB ((s[pos]'hp).toNat : Int) with
          | false => rfl
          | true =>
            unfold okB at hb
            simp only [Bool.or_eq_true, Bool.and_eq_true, decide_eq_true_eq] at hb
            try simp only [Bool.not_eq_true', Bool.not_eq_false', decide_eq_true_eq, decide_eq_false_iff_not, beq_iff_eq, beq_eq_false_iff_ne, ne_eq] at *
            omega
         have h2 := acc_bad hp (by rw [bytes_at s pos hp]; exact hg)
         go_ret
         rw [h2]
         exact ⟨rfl, Below.refl _ _⟩)
      | (have hp : ¬ pos < s.size := by assumption
         have ha := acc_all (s := s) fun k hk => hall k (by omega)
         have e2 : decide ((s.size : Int) ≤ 32) = decide (s.size ≤ 32) := by
          by_cases h0 : s.size ≤ 32
          · rw [decide_eq_true h0, decide_eq_true (by omega)]
          · rw [decide_eq_false h0, decide_eq_false (by omega)]
         first
         | (have e1 : decide (1 ≤ s.size) = true := decide_eq_true (by omega)
            go_ret
            rw [ha, e1, ← e2]
            exact ⟨rfl, Below.refl _ _⟩)
         | (have e1 : decide (1 ≤ s.size) = false := decide_eq_false (by omega)
            go_ret
            rw [ha, e1]
            exact ⟨rfl, Below.refl _ _⟩))
theorem racc_ok {G : Glob} (s : ByteArray) (hs : s.size ≤ 9223372036854775807) : FnOk Try.prog G 7 [.o (.a (.v (.string s)))] (.o (.a (bool1 (accOk (bytesI s))))) := fun w β hg => racc_walk s w hs
def racc_con {G : Glob} : Con Try.prog G := Con.of 7 Try.f7 Try.func7 (by kernel_rfl) (by kernel_rfl)
  (fun args => match args with | [.o (.a (.v (.string s)))] => some (.o (.a (bool1 (accOk (bytesI s)))), [s.size ≤ 9223372036854775807]) | _ => none)
  (fun args r c h => by
    split at h <;> cases h
    exact ⟨rfl, fun hc => racc_ok _ hc.1⟩)
end Go.Proofs.Ytpmdelihcdaffaa

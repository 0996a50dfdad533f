/- The law of pieces: its content; slices of slices as arguments. -/
import Derived.Test.YtpmdelihcdaffaaDoorLPie
import Derived.Test.YtpmdelihcdaffaaDoorDoorUp
import Derived.Deep.Matrix
namespace Go.Proofs.YtpmdelihcdaffaaDoor
open Go Go.Eng Go.ChangeShapes Go.WideShapes Go.ChangeAt Go.RowKit
set_option linter.unusedVariables false
set_option maxRecDepth 100000

theorem gs_heap {W : World} (hg : GlobOk Gs W) : ∀ g cs, Gs g = some cs → heapGlob W g = some cs :=
  heapGlob_le hg fun g cs h => by
    unfold Gs at h
    split at h <;> cases h
    exact ⟨k256L.map (Value.int .u32), by rw [List.map_map]; rfl⟩
theorem pie_ok {W : World} (hg : GlobOk Gs W) (gb ob n c : Nat) (X : Nat → SArg) (hX : ∀ i, i < n → W.cell? ⟨gb, ob + i, none⟩ = some (X i).val ∧ (X i).ok .u8 W) (hT : (cat X n).length ≤ 1048576) (hn : n ≤ 1048576) :
    Calls Tryd.prog 3 #[.slice (some ⟨gb, ob, none⟩) n c] W fun e W' => e = .returned (.bool true) ∧ Below W.heap.size W W' := by
  have mono : ∀ k i, (cat X i).length ≤ (cat X (i + k)).length := by
    intro k
    induction k with
    | zero => intro i; exact Nat.le_refl _
    | succ k ih => intro i; refine Nat.le_trans (ih i) ?_; show _ ≤ (cat X (i + k) ++ _).length; rw [List.length_append]; omega
  exact law_calls tys_ok Tryd.func3 (c := lpie.body) (by kernel_rfl) (l := []) (args := [lpie.sl (some ⟨gb, ob, none⟩) n c]) (r := cBool.enc true) (heapGlob_ok W) (fun _ => ⟨0, 0, 0⟩) (fun i b h => by cases h) (fun x hx k hk => by
    simp only [List.mem_cons, List.not_mem_nil, or_false] at hx
    subst hx; cases hk) rfl (lpie.walk (gs_heap hg) gb ob n c X hX (fun i hi => by have := mono (n - i) i; rw [show i + (n - i) = n by omega] at this; omega) hn)
theorem pie_nil {W : World} (hg : GlobOk Gs W) (p : Option Addr) :
    Calls Tryd.prog 3 #[.slice p 0 0] W fun e W' => e = .returned (.bool true) ∧ Below W.heap.size W W' :=
  law_calls tys_ok Tryd.func3 (c := lpie.body) (by kernel_rfl) (l := []) (args := [lpie.sl p 0 0]) (r := cBool.enc true) (heapGlob_ok W) (fun _ => ⟨0, 0, 0⟩) (fun i b h => by cases h) (fun x hx k hk => by
    simp only [List.mem_cons, List.not_mem_nil, or_false] at hx
    subst hx; cases hk) rfl (lpie.walkN (gs_heap hg) p)

/-- A row's slice, as an argument of the executor. -/
theorem sarg_of_row {W : World} {kd : IntKind} {A : Option Addr} {L C : Nat} {Z : List Int} (hl : L ≤ C) (hm : C ≤ maxLen) (hz : Z.length = C) (hw : ∀ n ∈ Z, (Lit.int kd n).wf = true) (hnil : A = none → C = 0)
    (hcell : ∀ a', A = some a' → ∀ c, c < C → W.cell? (a'.add c) = some (.int kd (Z.getD c 0))) : ∃ x : SArg, Value.slice A L C = x.val ∧ x.ok kd W ∧ x.ints = Z.take L := by
  by_cases h0 : C = 0
  · subst h0
    have : L = 0 := by omega
    subst this
    exact ⟨.none A, rfl, trivial, by rw [List.take_zero]; rfl⟩
  cases A with
  | none => exact absurd (hnil rfl) h0
  | some a =>
    have hcell := hcell a rfl
    obtain ⟨ab, ao, spot⟩ := a
    have hspot : spot = none := by simpa [Addr.add] using World.cell?_spot (hcell 0 (by omega))
    subst hspot
    have hc0 := hcell 0 (by omega)
    rw [Addr.add_eq] at hc0
    unfold World.cell? at hc0
    cases hh : W.heap[ab]? with
    | none => simp [hh] at hc0
    | some o =>
      cases o with
      | cells D ty fr =>
        have hget : ∀ i, i < Z.length → D.toList[ao + i]? = some (.int kd (Z.getD i 0)) := fun i hi => by
          have := hcell i (by omega)
          rw [Addr.add_eq] at this
          simpa [World.cell?, hh] using this
        have hsz : ao + Z.length ≤ D.toList.length := by
          have := hget (Z.length - 1) (by omega)
          have h1 : ao + (Z.length - 1) < D.toList.length := by
            rcases Nat.lt_or_ge (ao + (Z.length - 1)) D.toList.length with h' | h'
            · exact h'
            · rw [List.getElem?_eq_none h'] at this; cases this
          omega
        have hmid : (D.toList.drop ao).take Z.length = intV kd Z := by
          apply List.ext_getElem?
          intro j
          rcases Nat.lt_or_ge j Z.length with hj | hj
          · rw [List.getElem?_take_of_lt hj, List.getElem?_drop, hget j hj]
            simp [intV, List.getD, hj]
          · rw [List.getElem?_eq_none (by rw [List.length_take]; omega), List.getElem?_eq_none (by rw [intV_length]; omega)]
        refine ⟨.win (Z.take L) L C ty ⟨ab, ao, C⟩, ?_, ⟨?_, hl, rfl, hm, fun y hy => hw y (List.mem_of_mem_take hy), fr, D.toList.take ao, intV kd (Z.drop L) ++ D.toList.drop (ao + Z.length), ?_, ?_⟩, rfl⟩
        · simp [SArg.val, Loc.at]
        · rw [List.length_take]; omega
        · rw [← List.append_assoc (intV kd (Z.take L)), ← intV_append, List.take_append_drop, ← hmid, ← List.drop_drop, List.take_append_drop, List.take_append_drop]
          simpa using hh
        · show (D.toList.take ao).length = ao
          rw [List.length_take]; omega
      | _ => simp [hh] at hc0
theorem bulkAll_append {H : Type} : ∀ (a b : List (DataW H)), Rows.uptoBulkAll (a ++ b) = Rows.uptoBulkAll a + Rows.uptoBulkAll b
  | [], b => by simp [Rows.uptoBulkAll]
  | x :: r, b => by simp only [List.cons_append, Rows.uptoBulkAll, bulkAll_append r b]; omega
theorem cat_bulk {H : Type} {X : Nat → SArg} {f : Nat → DataW H} : ∀ n, (∀ r, r < n → (X r).ints.length ≤ Rows.uptoBulk (f r)) → (cat X n).length ≤ Rows.uptoBulkAll ((List.range n).map f)
  | 0, _ => by simp [cat]
  | n + 1, h => by
    have h1 := cat_bulk n fun r hr => h r (by omega)
    have h2 := h n (by omega)
    rw [List.range_succ, List.map_append, bulkAll_append]
    simp only [cat, List.length_append, List.map_cons, List.map_nil, Rows.uptoBulkAll]
    omega
theorem row_bulk {H : Type} {A : Option Addr} {L C : Nat} {Z : List Int} (hl : L ≤ C) (hz : Z.length = C) (hnil : A = none → C = 0) : (Z.take L).length ≤ Rows.uptoBulk (Deep.intRow (H := H) .u8 A L Z) := by
  cases A with
  | none =>
    have := hnil rfl
    rw [List.length_take]; omega
  | some a =>
    have := bulk_length (lits (H := H) .u8 (Z.take L))
    have e : (lits (H := H) .u8 (Z.take L)).length = (Z.take L).length := by unfold lits; rw [List.length_map]
    simp only [Deep.intRow, Rows.uptoBulk]
    omega
end Go.Proofs.YtpmdelihcdaffaaDoor

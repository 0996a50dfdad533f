/- Package wire: Account: its walk (a range over a text). -/
import Derived.Test.YthlmepolmemejaaDoorDTy
import Derived.LoopTactic
import Derived.Laws.RangeString
import Derived.Laws.Strings
import Derived.Laws.Strings2
import Derived.Laws.Strings3
import Derived.Laws.RangeAny
namespace Go.Proofs.YthlmepolmemejaaDoor
open Go Go.Eng Go.RowKit
set_option linter.unusedVariables false
set_option linter.unusedSimpArgs false
set_option maxRecDepth 100000
def okB (n : Int) : Bool := (decide (97 ≤ n) && decide (n ≤ 122)) || (decide (48 ≤ n) && decide (n ≤ 57)) || decide (n = 46) || decide (n = 95) || decide (n = 45)
def accOk (xs : List Int) : Bool := xs.all okB && (decide (1 ≤ xs.length) && decide (xs.length ≤ 32))
theorem loop_eq (bs : ByteArray) : ∀ (n i : Nat) (r : List UInt8), bs.size - i = n → ByteArray.toList.loop bs i r = r.reverse ++ bs.data.toList.drop i
  | 0, i, r, h => by
    unfold ByteArray.toList.loop
    have hs : bs.size = bs.data.toList.length := rfl
    rw [if_neg (by omega), List.drop_eq_nil_of_le (by omega), List.append_nil]
  | n + 1, i, r, h => by
    unfold ByteArray.toList.loop
    have hs : bs.size = bs.data.toList.length := rfl
    have hi : i < bs.data.toList.length := by omega
    have hg : bs.get! i = bs.data.toList[i] := by
      show bs.data[i]! = _
      rw [getElem!_pos bs.data i (by simpa using hi)]
      simp
    rw [if_pos (by omega), loop_eq bs n (i + 1) _ (by omega), List.drop_eq_getElem_cons hi, hg]
    simp
theorem toList_data (bs : ByteArray) : bs.toList = bs.data.toList := by
  unfold ByteArray.toList
  rw [loop_eq bs bs.size 0 [] (by omega)]
  simp
theorem text_empty (s : ByteArray) : s.toList.isEmpty = decide (s.size = 0) := by
  have hs : s.size = s.data.toList.length := rfl
  rw [toList_data, hs]
  cases s.data.toList <;> simp
theorem bytes_at (s : ByteArray) (pos : Nat) (h : pos < s.size) : (bytesI s).getD pos 0 = ((s[pos]'h).toNat : Int) := by
  have h' : pos < s.data.toList.length := h
  unfold bytesI
  rw [List.getD, List.getElem?_map, List.getElem?_eq_getElem h']
  rfl
theorem dec_ok {s : ByteArray} {pos : Nat} (h : pos < s.size) (ho : okB ((Utf8.decode s pos).1 : Int) = true) : (Utf8.decode s pos).2 = 1 ∧ okB ((bytesI s).getD pos 0) = true := by
  by_cases ha : (s[pos]'h).toNat < 128
  · rw [decode_ascii s pos h ha] at ho ⊢
    exact ⟨rfl, by rw [bytes_at s pos h]; exact ho⟩
  · have := (decode_high s pos h (by omega)).1
    unfold okB at ho
    simp only [Bool.or_eq_true, Bool.and_eq_true, decide_eq_true_eq] at ho
    omega
theorem dec_bad {s : ByteArray} {pos : Nat} (h : pos < s.size) (ho : okB ((Utf8.decode s pos).1 : Int) = false) : okB ((bytesI s).getD pos 0) = false := by
  rw [bytes_at s pos h]
  by_cases ha : (s[pos]'h).toNat < 128
  · rw [decode_ascii s pos h ha] at ho
    exact ho
  · cases hb : okB ((s[pos]'h).toNat : Int) with
    | false => rfl
    | true =>
      unfold okB at hb
      simp only [Bool.or_eq_true, Bool.and_eq_true, decide_eq_true_eq] at hb
      omega
theorem acc_bad {s : ByteArray} {pos : Nat} (h : pos < s.size) (ho : okB ((bytesI s).getD pos 0) = false) : accOk (bytesI s) = false := by
  have hl : pos < (bytesI s).length := by rw [bytesI_length]; exact h
  have : (bytesI s).all okB = false := by
    rw [← Bool.not_eq_true, List.all_eq_true]
    intro hall
    have := hall _ (List.getElem_mem hl)
    rw [List.getD, List.getElem?_eq_getElem hl] at ho
    rw [Option.getD_some, this] at ho
    cases ho
  unfold accOk
  rw [this]; rfl
theorem acc_all {s : ByteArray} (h : ∀ k, k < s.size → okB ((bytesI s).getD k 0) = true) : accOk (bytesI s) = (decide (1 ≤ s.size) && decide (s.size ≤ 32)) := by
  have : (bytesI s).all okB = true := by
    rw [List.all_eq_true]
    intro x hx
    obtain ⟨k, hk, rfl⟩ := List.mem_iff_getElem.1 hx
    have := h k (by rw [← bytesI_length]; exact hk)
    rw [List.getD, List.getElem?_eq_getElem hk] at this
    exact this
  unfold accOk
  rw [this, bytesI_length]; rfl
theorem acc_walk (s : ByteArray) (w : World) :
    Calls Tryd.prog 18 #[.string s] w fun e w' => e = .returned (.bool (accOk (bytesI s))) ∧ ∃ pos, w' = w.iter s pos := by
  go_enter Tryd.func18, Tryd.ntmps18
  go_wp2
  go_loopw [] (fun wr => ∃ pos : Nat, wr = w.iter s pos ∧ pos ≤ s.size ∧ ∀ k, k < pos → okB ((bytesI s).getD k 0) = true) (fun wr => s.size - wr.iterPos w.heap.size)
  case atStart => exact ⟨0, rfl, by omega, fun k hk => by omega⟩
  case round =>
    obtain ⟨pos, rfl, hp0, hall⟩ := hrel
    by_cases hp : pos < s.size
    · have hnx : ∀ ty, (Instr.next (.pointer (some ⟨w.heap.size, 0, none⟩)) true ty).run Tryd.prog (w.iter s pos) = _ := fun ty => run_next_any w s pos ty hp
      go_wp2
      all_goals first
        | (have hg : okB ((Utf8.decode s pos).1 : Int) = true := by
            unfold okB
            simp only [Bool.or_eq_true, Bool.and_eq_true, decide_eq_true_eq]
            try simp only [beq_iff_eq, beq_eq_false_iff_ne, ne_eq] at *
            omega
           obtain ⟨h1, h2⟩ := dec_ok hp hg
           rw [h1]
           refine ⟨⟨pos + 1, rfl, by omega, fun k hk => ?_⟩, ?_⟩
           · by_cases e : k = pos
             · rw [e]; exact h2
             · exact hall k (by omega)
           · simp; omega)
        | (have hg : okB ((Utf8.decode s pos).1 : Int) = false := by
            cases hb : okB ((Utf8.decode s pos).1 : Int) with
            | false => rfl
            | true =>
              unfold okB at hb
              simp only [Bool.or_eq_true, Bool.and_eq_true, decide_eq_true_eq] at hb
              try simp only [beq_iff_eq, beq_eq_false_iff_ne, ne_eq] at *
              omega
           have h2 := acc_bad hp (dec_bad hp hg)
           go_ret
           rw [h2]
           exact ⟨rfl, _, rfl⟩)
    · have hnx : ∀ ty, (Instr.next (.pointer (some ⟨w.heap.size, 0, none⟩)) true ty).run Tryd.prog (w.iter s pos) = _ := fun ty => run_next_end w s pos ty hp
      go_wp2
      all_goals
        have ha := acc_all (s := s) fun k hk => hall k (by omega)
        go_ret
        rw [ha]
      · rename_i he
        have : s.toList.isEmpty = true := by rw [he]; rfl
        rw [text_empty, decide_eq_true_eq] at this
        rw [this]
        exact ⟨rfl, _, rfl⟩
      · refine ⟨?_, _, rfl⟩
        rw [text_empty]
        have e1 : (!decide (s.size = 0)) = decide (1 ≤ s.size) := by
          by_cases h0 : s.size = 0
          · rw [h0]; rfl
          · rw [decide_eq_false h0, decide_eq_true (by omega)]; rfl
        have e2 : decide ((s.size : Int) ≤ 32) = decide (s.size ≤ 32) := by
          by_cases h0 : s.size ≤ 32
          · rw [decide_eq_true h0, decide_eq_true (by omega)]
          · rw [decide_eq_false h0, decide_eq_false (by omega)]
        rw [e1, e2]
        rfl
theorem acc_ok {G : Glob} (s : ByteArray) : FnOk Tryd.prog G 18 [.o (.a (.v (.string s)))] (.o (.a (bool1 (accOk (bytesI s))))) := fun w β hg =>
  (acc_walk s w).mono fun e w' ⟨he, pos, hw⟩ => ⟨he, by rw [hw]; exact (Below.refl _ _).alloc (Nat.le_refl _) _⟩
def acc_con {G : Glob} : Con Tryd.prog G := Con.of 18 Tryd.f18 Tryd.func18 (by kernel_rfl) (by kernel_rfl)
  (fun args => match args with | [.o (.a (.v (.string s)))] => some (.o (.a (bool1 (accOk (bytesI s)))), []) | _ => none)
  (fun args r c h => by
    split at h <;> cases h
    exact ⟨rfl, fun _ => acc_ok _⟩)
end Go.Proofs.YthlmepolmemejaaDoor

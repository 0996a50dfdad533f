/- Contracts of callees that are handed a slice over a row that they only read. -/
import Derived.Test.YtmfobbdgmedhdaaCod
namespace Go.Eng
open Go Go.RowKit
set_option linter.unusedVariables false

theorem FnMem.of_runs {P : Program} {T : Ty} (hT : T.ok P) {f : FuncId} {fn : Func} (hf : P.funcs[f]? = some fn) {c : Code} (hb : fn.body = some c) {args : List SV} {blks : List Blk} {r : SV}
    (hrun : Runs P c (startT fn args) blks (Ends T fn r)) (hr : r.ids = []) (hargs : ((args.all fun x => x.ids.all fun k => Nat.blt k blks.length) && (blks.all fun b => !b.own)) = true) : FnMem P f args blks r := by
  intro N w0 β w hmem
  rw [Bool.and_eq_true] at hargs
  have hown : ∀ (k : Nat) (b : Blk), blks[k]? = some b → b.own = false := fun k b hb => by
    have := List.all_eq_true.1 hargs.2 b (List.mem_of_getElem? hb)
    simpa using this
  have hm0 : MemR w.heap.size w (fun k => blks[k]?) β w := by
    refine ⟨Below.refl _ _, Nat.le_refl _, fun k b hb => ?_, fun j k b c hj hk ho => ?_, hmem.ids⟩
    · obtain ⟨fr, h1, h2⟩ := hmem.blk k b hb
      exact ⟨fr, h1, fun ho => by rw [hown k b hb] at ho; cases ho⟩
    · rw [hown j b hj] at ho; cases ho
  have ha : ∀ x ∈ args, ∀ k ∈ x.ids, k < blks.length := fun x hx k hk => by
    have := List.all_eq_true.1 hargs.1 x hx
    have := List.all_eq_true.1 this k hk
    exact Nat.le_of_ble_eq_true this
  refine (runs_calls hT hf hb hrun hm0 ha).mono ?_
  rintro e w' ⟨β', rfl, hm'⟩
  exact ⟨congrArg Ending.returned (denS_congr r (by intro k hk; rw [hr] at hk; cases hk)), hm'⟩

/-- One argument: the slice of a whole row of n cells. -/
def conSlc {P : Program} {β : Type} (f : FuncId) (fn : Func) (hf : P.funcs[f]? = some fn) (h1 : (fn.name == "runtime.NumGoroutine") = false) (h2 : fn.body.isNone = false) (n : Nat) (cb : Cod β) (F : β → SV) (pre : β → Cst)
    (ids : ∀ b, (F b).ids = []) (run : ∀ b ty, Holds (pre b) → FnMem P f [.o (.a (.slc 0 0 n n))] [⟨false, ty, cb.row b⟩] (F b)) : Con P where
  f := f
  spec := fun m args => match args with
    | [.o (.a (.slc k 0 l c))] => if l = n ∧ c = n then match m k with
      | some b => match cb.dec (.o (.g b.cells)) with
        | some b => some (F b, pre b)
        | none => none
      | _ => none
      else none
    | _ => none
  ok := fun m args r c N w0 β w h hc hmem => by
    refine .inl ⟨run_callFunc_go hf h1 h2 _ w, ?_⟩
    split at h <;> try cases h
    rename_i k l ca
    split at h <;> try cases h
    rename_i hlc
    obtain ⟨rfl, rfl⟩ := hlc
    split at h <;> try cases h
    rename_i blk hb
    split at h <;> try cases h
    rename_i b hcb
    have henc := cb.ok _ _ hcb
    have hrow := enc_row henc
    have hnil : idsAll blk.cells = [] := by
      have := cb.ids b
      rw [henc] at this
      exact this
    obtain ⟨fr, q1, q2⟩ := hmem.blk k blk hb
    have hm' : MemR N w0 (fun j => [(⟨false, blk.ty, cb.row b⟩ : Blk)][j]?) (fun _ => β k) w := by
      refine ⟨hmem.below, hmem.size, fun j b' hj => ?_, fun i j b1 b2 hi hj ho => ?_, fun j b' hj i hi => ?_⟩
      · cases j with
        | zero =>
          simp only [List.getElem?_cons_zero, Option.some.injEq] at hj
          subst hj
          refine ⟨fr, ?_, fun ho => by cases ho⟩
          rw [hrow, denAll_congr (β := β) blk.cells (fun k hk => by rw [hnil] at hk; cases hk)]
          exact q1
        | succ j => simp at hj
      · cases i with
        | zero => simp at hi; rw [← hi] at ho; cases ho
        | succ i => simp at hi
      · cases j with
        | zero =>
          simp only [List.getElem?_cons_zero, Option.some.injEq] at hj
          subst hj
          rw [hrow, hnil] at hi; cases hi
        | succ j => simp at hj
    refine (run b blk.ty hc N w0 (fun _ => β k) w hm').mono ?_
    rintro e w' ⟨rfl, hb'⟩
    exact ⟨congrArg Ending.returned (denS_congr _ (by intro j hj; rw [ids] at hj; cases hj)), hb'⟩
  closed := fun m args r c h => by
    split at h <;> try cases h
    split at h <;> try cases h
    split at h <;> try cases h
    split at h <;> try cases h
    exact ids _
  loc := fun m m' args h => by
    split
    · rename_i k l c
      rw [h (.o (.a (.slc k 0 l c))) (by simp) k (by simp [SV.ids, SV1.ids, Atom.ids])]
    · rfl
end Go.Eng

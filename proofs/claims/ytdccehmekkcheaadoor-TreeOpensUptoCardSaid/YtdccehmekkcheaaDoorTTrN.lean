/- Packages tree, beaconref11: nodes that are apart: contracts of both sides. -/
import Derived.Test.YtdccehmekkcheaaDoorTTrL
namespace Go.Proofs.YtdccehmekkcheaaDoor
open Go Go.Eng Go.RowKit
set_option linter.unusedVariables false
set_option linter.unusedSimpArgs false
set_option maxRecDepth 100000
theorem apN_false {l : List Nd} {i : Nat} (h : apN l i = false) : ∀ n, i ≤ n → apN l n = false
  | 0, hi => by obtain rfl : i = 0 := by omega
                exact h
  | 1, hi => by
    rcases Nat.lt_or_ge i 1 with h1 | h1
    · obtain rfl : i = 0 := by omega
      simp [apN] at h
    · obtain rfl : i = 1 := by omega
      exact h
  | n + 2, hi => by
    rcases Nat.lt_or_ge i (n + 2) with h1 | h1
    · rw [apN, apN_false h (n + 1) (by omega), Bool.false_and]
    · obtain rfl : i = n + 2 := by omega
      exact h
def AllOk (l : List Nd) : Prop := ∀ x ∈ l, NOk x
theorem AllOk.at {l : List Nd} (h : AllOk l) {i : Nat} (hi : i < l.length) : NOk (l.getD i zn) := h _ (getD_mem hi _)
def boundN : Nat := 4611686018427387904
theorem endsM_mono {T : Ty} {fn : Func} {Q Q' : SV → List Blk → Prop} (h : ∀ r m, Q r m → Q' r m) {e : Ex} {t : List SV} {m : List Blk} : EndsM T fn Q e t m → EndsM T fn Q' e t m := fun ⟨a, l, b, c⟩ => ⟨a, l, b, h _ _ c⟩
def runOutM {G : Glob} {P : Program} (Γ : Cons P G) (T : Ty) (fn : Func) (n : Nat) (blks : List Blk) (args : List SV) (orc : Orc) : Option (SV × Cst) :=
  match runFn Γ T fn n blks args orc with
  | some (r, _, cs) => some (r, cs)
  | none => none
theorem runs_of_out {G : Glob} {P : Program} {Γ : Cons P G} {T : Ty} (hT : T.ok P) (hm : P.follows .mixedOrders = true) {fn : Func} {c : Code} (hb : fn.body = some c) {n F : Nat} {orc : Orc} {args : List SV} {blks : List Blk} {r : SV} {cs : Cst}
    (h : runOutM Γ T fn n blks args orc = some (r, cs)) (hc : Holds cs) : RunsF P G F c (startT fn args) blks (EndsM T fn (endsQ r .none)) := by
  unfold runOutM at h
  split at h <;> try cases h
  rename_i h
  unfold runFn at h
  rw [hb] at h
  simp only at h
  split at h <;> try cases h
  · rename_i s cs2 he
    split at h <;> cases h
    rename_i l hl
    exact Runs.of_exec hT hm (tm' := s.tm) (mem' := s.mem) (orc' := s.orc) he hc (EndsM.fall hl rfl)
  · rename_i s cs2 he
    split at h <;> cases h
    rename_i l hl
    exact Runs.of_exec hT hm (tm' := s.tm) (mem' := s.mem) (orc' := s.orc) he hc (EndsM.ret hl rfl)
theorem runs_of_out1 {G : Glob} {P : Program} {Γ : Cons P G} {T : Ty} (hT : T.ok P) (hm : P.follows .mixedOrders = true) {fn : Func} {c : Code} (hb : fn.body = some c) {n F : Nat} {orc : Orc} {args : List SV} {r : SV} {cs : Cst}
    (h : runOut Γ T fn n args orc = some (r, cs)) (hc : Holds cs) : RunsF P G F c (startT fn args) [] (EndsM T fn (endsQ r .none)) := runs_of_out hT hm hb (blks := []) h hc
namespace tap
theorem nil (a : Option Addr) : runOut Γ tys fn 100 [.o (.a (.v (.slice a 0 0)))] [] = some (cBool.enc true, []) := by kernel_rfl
theorem run (l : List Nd) (n c : Nat) (ty : TypeId) (hn : l.length = n) (hm : n < boundN) (hok : AllOk l) : RunsF Tryd.prog GT 1 body (startT fn [.o (.a (.sld 0 0 0 n c))]) [⟨false, ty, .prv (nvals l)⟩] (EndsM tys fn (endsQ (cBool.enc (apartV l)) .none)) := by
  unfold boundN at hm
  have hl : (nvals l).length = n * 65 := by rw [← hn]; exact nvals_len l
  have hfalse : ∀ j, j < n → apN l (j + 1) = false → apartV l = false := fun j hj h => apN_false h _ (by omega)
  have ldx : ∀ j, j < n → 0 ≤ (j : Int) ∧ (j : Int) < n ∧ 0 + offI 0 (j : Int) 65 + 65 ≤ (nvals l).length ∧ SV.o (.g (takeV (nvals l) (0 + offI 0 (j : Int) 65) 65)) = cNd.enc (l.getD j zn) := fun j hj => by
    have hb : j * 65 + 65 ≤ n * 65 := by have := Nat.mul_le_mul_right 65 (show j + 1 ≤ n by omega); omega
    refine ⟨by omega, by omega, by rw [offs, hl]; omega, by rw [offs]; exact ld_nd l (by omega)⟩
  refine Runs.of_outXP tys_ok mixed 1 (s0 l n c ty) trivial (ids0 l n c ty) rfl fun g => ?_
  rw [suf_eq]
  refine Runs.seq (Runs.seq (Runs.of_outX tys_ok mixed (a1 l n c ty g) trivial (ids1 l n c ty 0) rfl fun g => ?_))
  refine Runs.block ?_
  refine Runs.loopX (fun (j : Nat) => M1 l n c ty (j : Int)) (fun _ => mem l n c ty) (fun j => j ≤ n ∧ apN l j = true) (fun j => n - j) ?_ 0 ⟨Nat.zero_le _, rfl⟩ g
  rintro j g ⟨hj, ha⟩
  by_cases hjn : j = n
  · refine Runs.of_outX tys_ok mixed (out l n c ty _ g) ⟨decide_eq_false (by omega), trivial⟩ (ids0 l n c ty) rfl fun g => ?_
    show RunsF _ _ _ _ _ _ _
    refine Runs.of_outX tys_ok mixed (fin l n c ty g) trivial (idsZ l n c ty _) rfl fun g => EndsM.ret (zr l n c ty _ g) ?_
    have : apartV l = true := by unfold apartV; rw [hn, ← hjn]; exact ha
    rw [this]
    rfl
  · obtain ⟨x1, x2, x3, x4⟩ := ldx j (by omega)
    have okx := hok.at (show j < l.length by omega)
    cases hg : goodV (l.getD j zn) with
    | false =>
      have hf : apartV l = false := hfalse j (by omega) (by
        cases j with
        | zero => rw [apN]; exact hg
        | succ j => rw [apN, hg, Bool.false_and, Bool.and_false])
      refine Runs.of_outX tys_ok mixed (bad l n c ty _ _ g) ⟨decide_eq_true (by omega), x1, x2, x3, x4, okx.1, by rw [hg], trivial⟩ (idsZ l n c ty _) rfl fun g => EndsM.ret (zr l n c ty _ g) ?_
      rw [hf]
      rfl
    | true =>
      cases j with
      | zero =>
        refine Runs.of_outX tys_ok mixed (stp0 l n c ty _ g) ⟨decide_eq_true x2, x1, x2, x3, x4, okx.1, by rw [hg], trivial⟩ (ids1 l n c ty _) rfl fun g => ?_
        exact ⟨1, g, rfl, rfl, ⟨by omega, by rw [apN]; exact hg⟩, by omega⟩
      | succ i =>
        obtain ⟨y1, y2, y3, y4⟩ := ldx i (by omega)
        have oky := hok.at (show i < l.length by omega)
        have hi : IntKind.i64.wrap (((i + 1 : Nat) : Int) - 1) = (i : Int) := by rw [IntKind.wrap_i64]; omega
        have ap2 : apN l (i + 2) = (goodV (l.getD (i + 1) zn) && nextV (l.getD i zn) (l.getD (i + 1) zn)) := by rw [apN, ha, Bool.true_and]
        cases hlt : ltV (l.getD i zn).pre (l.getD (i + 1) zn).pre with
        | false =>
          have hf : apartV l = false := hfalse (i + 1) (by omega) (by rw [ap2]; unfold nextV; rw [hlt, Bool.false_and, Bool.and_false])
          have hq : ¬ cmpV (l.getD i zn).pre (l.getD (i + 1) zn).pre < 0 := fun h => by rw [(cmpV_neg oky.1 okx.1).1 h] at hlt; cases hlt
          refine Runs.of_outX tys_ok mixed (lo l n c ty _ _ (cmpV (l.getD i zn).pre (l.getD (i + 1) zn).pre) _ _ g) ⟨decide_eq_true (by omega), x1, x2, x3, x4, okx.1, by rw [hg], decide_eq_true (by omega), hi, y1, y2, y3, y4, by omega, by omega, by omega, by omega, rfl, decide_eq_true (by omega), trivial⟩ (idsZ l n c ty _) rfl fun g => EndsM.ret (zr l n c ty _ g) ?_
          rw [hf]
          rfl
        | true =>
          have hq := (cmpV_neg oky.1 okx.1).2 hlt
          cases hc : decide (((comV (l.getD i zn).pre (l.getD (i + 1) zn).pre : Nat) : Int) ≥ if (l.getD (i + 1) zn).len < (l.getD i zn).len then (l.getD (i + 1) zn).len else (l.getD i zn).len) with
          | true =>
            have hf : apartV l = false := hfalse (i + 1) (by omega) (by
              rw [ap2]; unfold nextV
              rw [decide_eq_true_eq] at hc
              rw [decide_eq_false (by omega), Bool.and_false, Bool.and_false])
            refine Runs.of_outX tys_ok mixed (cl l n c ty _ _ (cmpV (l.getD i zn).pre (l.getD (i + 1) zn).pre) _ _ _ g) ⟨decide_eq_true (by omega), x1, x2, x3, x4, okx.1, by rw [hg], decide_eq_true (by omega), hi, y1, y2, y3, y4, by omega, by omega, by omega, by omega, rfl, decide_eq_false (by omega), oky.1, okx.1, rfl, hc, trivial⟩ (idsZ l n c ty _) rfl fun g => EndsM.ret (zr l n c ty _ g) ?_
            rw [hf]
            rfl
          | false =>
            refine Runs.of_outX tys_ok mixed (stp l n c ty _ _ (cmpV (l.getD i zn).pre (l.getD (i + 1) zn).pre) _ ((i + 2 : Nat) : Int) _ _ g) ⟨decide_eq_true (by omega), x1, x2, x3, x4, okx.1, by rw [hg], decide_eq_true (by omega), hi, y1, y2, y3, y4, by omega, by omega, by omega, by omega, rfl, decide_eq_false (by omega), oky.1, okx.1, rfl, hc, by rw [IntKind.wrap_i64]; omega, trivial⟩ (ids1 l n c ty _) rfl fun g => ?_
            refine ⟨i + 2, g, rfl, rfl, ⟨by omega, ?_⟩, by omega⟩
            rw [ap2, hg]; unfold nextV
            rw [decide_eq_false_iff_not] at hc
            rw [hlt, decide_eq_true (by omega)]
            rfl
def spec : List PArg → Option (SV × LEff × Cst)
  | [.winv _ vs n ty] => some (cBool.enc (apartV (ndDec vs)), .none, [vs = nvals (ndDec vs), (ndDec vs).length = n, n < boundN, AllOk (ndDec vs)])
  | [.val (.o (.a (.v (.slice a 0 0))))] => some (cBool.enc true, .none, [])
  | _ => none
noncomputable def con : Con Tryd.prog GT := Con.parts tys_ok 35 fn Tryd.func35 (by kernel_rfl) (c := body) (by kernel_rfl) [.winv 65] spec
  (fun ps r e p h hp => by
    unfold spec at h
    split at h <;> cases h
    · exact ⟨rfl, fun b hb => by simp only [locBlks, PArg.blk, List.append_nil, List.nil_append, List.mem_singleton] at hb; rw [hb]⟩
    · exact ⟨rfl, fun b hb => by simp [locBlks, PArg.blk] at hb⟩)
  (fun ps r e p cap h hp hi => by
    unfold spec at h
    split at h <;> cases h
    · rename_i s vs n ty
      obtain ⟨p1, p2, p3, p4, _⟩ := hp
      have q := run (ndDec vs) n (cap 0) ty p2 p3 p4
      rw [← p1] at q
      exact q
    · exact runs_of_out1 tys_ok mixed (by kernel_rfl) (nil _) trivial)
end tap
end Go.Proofs.YtdccehmekkcheaaDoor

/- Package sha2: one block of SHA-512: its loops, its contract. -/
import Derived.Test.YtpmdelihcdaffaaDoorS512A
namespace Go.Proofs.YtpmdelihcdaffaaDoor
open Go Go.Eng
set_option linter.unusedVariables false
set_option maxRecDepth 100000

theorem restL_get8 (R : Nat → Int) (i : Nat) (h : i < 80) : (restL R 0 80).getD (0 + i) 0 = R i := by rw [Nat.zero_add, restL_get R 80 0 i h, Nat.zero_add]
/-- The schedule of a block's words. -/
def Sched6 (ys : List Int) (W : Nat → Int) : Prop := (∀ t, t < 16 → wordV ((ys.drop (8 * t)).take 8) = W t) ∧ ∀ t, t < 64 → sched6 (W (t + 14)) (W (t + 1)) (W (t + 9)) (W t) = W (t + 16)
def rounds6 (h W : Nat → Int) : Nat → Nat → Int
  | 0 => h
  | t + 1 => round6 (rounds6 h W t) (k512L.getD t 0) (W t)
section
variable (h : Nat → Int) (ys : List Int) (n c : Nat) (ty : TypeId) (W : Nat → Int)
theorem dblk_loop1 (hn : 128 ≤ n) (hy : ys.length = n) (hc : n ≤ c) (hS : Sched6 ys W) (x : Nat → Int) {Post : Ex → List SV → List Blk → Prop} (hp : ∀ g x, (∀ j, j < 16 → x j = W j) → Post .normal (fill g 0 dblk.Mb) (dblk.mem h ys ty x)) (g : Nat → SV) :
    RunsF Tryd.prog G2 2 (.block 0 (.loop dblk.L1)) (fill g 0 (dblk.M1 n c 0)) (dblk.mem h ys ty x) Post := by
  refine Runs.block ?_
  refine Runs.loopX (fun (p : Nat × (Nat → Int)) => dblk.M1 n c p.1) (fun p => dblk.mem h ys ty p.2) (fun p => p.1 ≤ 16 ∧ ∀ j, j < p.1 → p.2 j = W j) (fun p => 16 - p.1) ?_ (0, x) ⟨Nat.zero_le _, fun j hj => by simp only at hj; omega⟩ g
  rintro ⟨t, x⟩ g ⟨ht, hx⟩
  simp only at ht hx
  by_cases hlt : t < 16
  · refine Runs.of_outX tys_ok mixed (dblk.step1 h ys n c ty x t (W t) g) ?_ (dblk.ids1 h ys n c ty _ _) rfl fun g' => ⟨(t + 1, putF (0 + t) [W t] x), g', rfl, rfl, ⟨hlt, fun j hj => ?_⟩, by simp only; omega⟩
    · refine ⟨decide_eq_true (by omega), ?_, ?_, by omega, by omega, by omega, ?_, by omega, ?_, hS.1 t hlt, by omega, by omega, by rw [restL_length]; omega, ?_, trivial⟩
      · rw [i64_small _ (by omega) (by omega)]; omega
      · rw [i64_small (8 * (t : Int)) (by omega) (by omega), i64_small _ (by omega) (by omega)]; omega
      · unfold advO
        rw [if_neg (by omega), Nat.zero_add, Nat.add_sub_cancel_left]
      · rw [List.length_take]; omega
      · rw [i64_small _ (by omega) (by omega)]; omega
    · simp only at hj ⊢
      rw [putF_one]
      by_cases e : j = 0 + t
      · rw [if_pos e, e, Nat.zero_add]
      · rw [if_neg e]; exact hx j (by omega)
  · obtain rfl : t = 16 := by omega
    exact Runs.of_outX tys_ok mixed (dblk.end1 h ys n c ty x 16 g) ⟨by decide, trivial⟩ (dblk.idsb h ys n c ty x) rfl fun g' => hp g' x hx
theorem dblk_loop2 (hS : Sched6 ys W) (x : Nat → Int) (hx0 : ∀ j, j < 16 → x j = W j) {Post : Ex → List SV → List Blk → Prop} (hp : ∀ g x, (∀ j, j < 80 → x j = W j) → Post .normal (fill g 0 dblk.Mb) (dblk.mem h ys ty x)) (g : Nat → SV) :
    RunsF Tryd.prog G2 2 (.block 2 (.loop dblk.L2)) (fill g 0 (dblk.M2 16)) (dblk.mem h ys ty x) Post := by
  refine Runs.block ?_
  refine Runs.loopX (fun (p : Nat × (Nat → Int)) => dblk.M2 (p.1 + 16)) (fun p => dblk.mem h ys ty p.2) (fun p => p.1 ≤ 64 ∧ ∀ j, j < p.1 + 16 → p.2 j = W j) (fun p => 64 - p.1) ?_ (0, x) ⟨Nat.zero_le _, fun j hj => hx0 j (by simpa using hj)⟩ g
  rintro ⟨t, x⟩ g ⟨ht, hx⟩
  simp only at ht hx
  by_cases hlt : t < 64
  · refine Runs.of_outX tys_ok mixed (dblk.step2 h ys 0 0 ty x t (W (t + 14)) (W (t + 1)) (W (t + 9)) (W t) (W (t + 16)) g) ?_ (dblk.ids2 h ys 0 0 ty _ _) rfl fun g' => ⟨(t + 1, putF (0 + (t + 16)) [W (t + 16)] x), g', rfl, rfl, ⟨hlt, fun j hj => ?_⟩, by simp only; omega⟩
    · have w : ∀ y : Int, 0 ≤ y → y < 100 → IntKind.i64.wrap y = y := fun y h0 h1 => i64_small y h0 (by omega)
      have l : ∀ e, e < 80 → 0 + e < (restL x 0 80).length := fun e he => by rw [restL_length]; omega
      have r : ∀ e, e < t + 16 → (restL x 0 80).getD (0 + e) 0 = W e := fun e he => by rw [restL_get8 x e (by omega)]; exact hx e he
      refine ⟨decide_eq_true (by omega), ?_, by omega, by omega, l _ (by omega), r _ (by omega), ?_, by omega, by omega, l _ (by omega), r _ (by omega), ?_, by omega, by omega, l _ (by omega), r _ (by omega), ?_, by omega, by omega, l _ (by omega), r _ (by omega), hS.2 t hlt, by omega, by omega, by rw [restL_length]; omega, ?_, trivial⟩
      · rw [w _ (by omega) (by omega)]; omega
      · rw [w _ (by omega) (by omega)]; omega
      · rw [w _ (by omega) (by omega)]; omega
      · rw [w _ (by omega) (by omega)]; omega
      · rw [w _ (by omega) (by omega)]; omega
    · simp only at hj ⊢
      rw [putF_one]
      by_cases e : j = 0 + (t + 16)
      · rw [if_pos e, e, Nat.zero_add]
      · rw [if_neg e]; exact hx j (by omega)
  · obtain rfl : t = 64 := by omega
    exact Runs.of_outX tys_ok mixed (dblk.end2 h ys 0 0 ty x 80 g) ⟨by decide, trivial⟩ (dblk.idsb h ys 0 0 ty x) rfl fun g' => hp g' x hx
theorem dblk_loop3 (x : Nat → Int) (hx : ∀ j, j < 80 → x j = W j) {Post : Ex → List SV → List Blk → Prop} (hp : ∀ g, Post .normal (fill g 0 (dblk.M13 (rounds6 h W 80))) (dblk.mem h ys ty x)) (g : Nat → SV) :
    RunsF Tryd.prog G2 2 (.block 4 (.loop dblk.L3)) (fill g 0 (dblk.M3 h 0)) (dblk.mem h ys ty x) Post := by
  refine Runs.block ?_
  refine Runs.loopX (fun (t : Nat) => dblk.M3 (rounds6 h W t) t) (fun t => dblk.mem h ys ty x) (fun t => t ≤ 80) (fun t => 80 - t) ?_ 0 (Nat.zero_le _) g
  intro t g ht
  by_cases hlt : t < 80
  · refine Runs.of_outX tys_ok mixed (dblk.step3 h ys 0 0 ty x (rounds6 h W t) t (k512L.getD t 0) (W t) g) ?_ (dblk.ids3 h ys 0 0 ty _ _ _) rfl fun g' => ⟨t + 1, g', rfl, rfl, hlt, by omega⟩
    refine ⟨decide_eq_true (by omega), by omega, by omega, by show 0 + t < 80; omega, by rw [Nat.zero_add], by omega, by omega, by rw [restL_length]; omega, by rw [restL_get8 x t hlt]; exact hx t hlt, ?_, trivial⟩
    rw [i64_small _ (by omega) (by omega)]; omega
  · obtain rfl : t = 80 := by omega
    exact Runs.of_outX tys_ok mixed (dblk.end3 h ys 0 0 ty x _ 80 g) ⟨by decide, trivial⟩ (dblk.ids13 h ys 0 0 ty x _) rfl hp
theorem dblk_loop4 (x s : Nat → Int) {Post : Ex → List SV → List Blk → Prop} (hp : ∀ g, Post .normal (fill g 0 (dblk.M4 s 8)) (dblk.mem (dblk.sumD h s 8) ys ty x)) (g : Nat → SV) :
    RunsF Tryd.prog G2 2 (.block 6 (.loop dblk.L4)) (fill g 0 (dblk.M4 s 0)) (dblk.mem (dblk.sumD h s 0) ys ty x) Post := by
  refine Runs.block ?_
  refine Runs.loopX (fun (t : Nat) => dblk.M4 s t) (fun t => dblk.mem (dblk.sumD h s t) ys ty x) (fun t => t ≤ 8) (fun t => 8 - t) ?_ 0 (Nat.zero_le _) g
  intro t g ht
  by_cases hlt : t < 8
  · exact Runs.of_outX tys_ok mixed (tab_get (dblk.tab4 h ys 0 0 ty x s g) t hlt) trivial (dblk.ids4 h ys 0 0 ty x s _) rfl fun g' => ⟨t + 1, g', rfl, rfl, hlt, by omega⟩
  · obtain rfl : t = 8 := by omega
    exact Runs.of_outX tys_ok mixed (dblk.end4 h ys 0 0 ty x s g) trivial (dblk.ids4 h ys 0 0 ty x s 8) rfl hp
/-- The hash's words behind a block. -/
def comp6 (h W : Nat → Int) (i : Nat) : Int := addD (h i) (rounds6 h W 80 i)
theorem dblk_res (x s : Nat → Int) (g : Nat → SV) : eRes tys (fill g 0 (dblk.M4 s 8)) (fun k => (dblk.mem (dblk.sumD h s 8) ys ty x)[k]?) dblk.fn.results.toList = some [] := by kernel_rfl
theorem dblk_row (x s : Nat → Int) : (dblk.mem (dblk.sumD h s 8) ys ty x)[0]? = some ⟨true, 61, rowD (fun i => addD (h i) (s i))⟩ := by kernel_rfl
theorem dblk_run (hn : 128 ≤ n) (hy : ys.length = n) (hc : n ≤ c) (hS : Sched6 ys W) : RunsF Tryd.prog G2 2 dblk.body (startT dblk.fn [.o (.a (.ptr 0 0)), .o (.a (.sld 1 0 0 n c))]) [⟨true, 61, rowD h⟩, ⟨false, ty, .pre .u8 ys⟩] (EndsM tys dblk.fn (endsQ (.t []) (.upd 61 (rowD (comp6 h W))))) := by
  rw [dblk.body_eq]
  refine Runs.seq (Runs.of_outX tys_ok mixed (dblk.pre0 h ys n c ty W) trivial (dblk.ids0 h ys n c ty _) rfl fun g => ?_)
  refine Runs.seq (Runs.seq (Runs.of_outX tys_ok mixed (dblk.pre1 h ys n c ty _ g) trivial (dblk.ids1 h ys n c ty _ 0) rfl ?_))
  refine dblk_loop1 h ys n c ty W hn hy hc hS _ fun g x hx => ?_
  refine Runs.seq (Runs.seq (Runs.of_outX tys_ok mixed (dblk.pre2 h ys n c ty x g) trivial (dblk.ids2 h ys n c ty x 16) rfl ?_))
  refine dblk_loop2 h ys ty W hS x hx fun g x hx => ?_
  refine Runs.seq (Runs.of_outX tys_ok mixed (dblk.pre3 h ys n c ty x g) trivial (dblk.ids13 h ys n c ty x h) rfl fun g => ?_)
  refine Runs.seq (Runs.seq (Runs.of_outX tys_ok mixed (dblk.pre4 h ys n c ty x h g) trivial (dblk.ids3 h ys n c ty x h 0) rfl ?_))
  refine dblk_loop3 h ys ty W x hx fun g => ?_
  refine Runs.seq (Runs.of_outX tys_ok mixed (dblk.pre5 h ys n c ty x _ g) trivial (dblk.ids4 h ys n c ty x _ 0) rfl ?_)
  refine dblk_loop4 h ys ty x _ fun g => ?_
  exact EndsM.fall (dblk_res h ys ty x _ g) ⟨rfl, dblk_row h ys ty x _⟩
end
/-! ### The schedule of a block -/
def sch6 (ys : List Int) (t : Nat) : Int :=
  if h : t < 16 then wordV ((ys.drop (8 * t)).take 8)
  else sched6 (sch6 ys (t - 2)) (sch6 ys (t - 15)) (sch6 ys (t - 7)) (sch6 ys (t - 16))
termination_by t
decreasing_by all_goals omega
theorem sch6_sched (ys : List Int) : Sched6 ys (sch6 ys) := by
  refine ⟨fun t ht => ?_, fun t ht => ?_⟩
  · conv => rhs; rw [sch6]
    rw [dif_pos ht]
  · conv => rhs; rw [sch6]
    rw [dif_neg (by omega)]
    rfl
theorem sched6_unique {ys : List Int} {W W' : Nat → Int} (h : Sched6 ys W) (h' : Sched6 ys W') : ∀ t, t < 80 → W t = W' t := by
  intro t
  induction t using Nat.strongRecOn with
  | _ t ih =>
    intro ht
    rcases Nat.lt_or_ge t 16 with h1 | h1
    · rw [← h.1 t h1, ← h'.1 t h1]
    · obtain ⟨s, rfl⟩ : ∃ s, t = s + 16 := ⟨t - 16, by omega⟩
      rw [← h.2 s (by omega), ← h'.2 s (by omega), ih (s + 14) (by omega) (by omega), ih (s + 1) (by omega) (by omega), ih (s + 9) (by omega) (by omega), ih s (by omega) (by omega)]
theorem rounds6_congr {h W W' : Nat → Int} : ∀ t, (∀ j, j < t → W j = W' j) → rounds6 h W t = rounds6 h W' t
  | 0, _ => rfl
  | t + 1, e => by rw [rounds6, rounds6, rounds6_congr t fun j hj => e j (by omega), e t (by omega)]
/-- A block taken. -/
def blkD (h : E8) (ys : List Int) : E8 := E8.mk' (comp6 h.at (sch6 ys))
def rowE (h : E8) : List Atom := h.to.map (int1 .u64)
theorem rowD_E (h : E8) : rowD h.at = rowE h := by kernel_rfl
theorem rowE_ids (h : E8) : idsAll (rowE h) = [] := idsAll_ints _ _
theorem dblk_runS (h : E8) (ys : List Int) (n c : Nat) (ty : TypeId) (hn : 128 ≤ n) (hy : ys.length = n) (hc : n ≤ c) : RunsF Tryd.prog G2 2 dblk.body (startT dblk.fn [.o (.a (.ptr 0 0)), .o (.a (.sld 1 0 0 n c))]) [⟨true, 61, rowE h⟩, ⟨false, ty, .pre .u8 ys⟩] (EndsM tys dblk.fn (endsQ (.t []) (.upd 61 (rowE (blkD h ys))))) := by
  have hr := dblk_run h.at ys n c ty (sch6 ys) hn hy hc (sch6_sched ys)
  rw [rowD_E] at hr
  have e : rowD (comp6 h.at (sch6 ys)) = rowE (blkD h ys) := by
    rw [← rowD_E]
    unfold rowD blkD
    simp only [E8.at_mk _ 0 (by omega), E8.at_mk _ 1 (by omega), E8.at_mk _ 2 (by omega), E8.at_mk _ 3 (by omega), E8.at_mk _ 4 (by omega), E8.at_mk _ 5 (by omega), E8.at_mk _ 6 (by omega), E8.at_mk _ 7 (by omega)]
  rw [e] at hr
  exact hr
def eOf (cs : List Atom) : Option E8 := match intsOf .u64 cs with
  | some a => E8.of a
  | none => none
theorem eOf_row {cs : List Atom} {h : E8} (e : eOf cs = some h) : cs = rowE h := by
  unfold eOf at e
  split at e <;> try cases e
  rename_i a ha
  unfold rowE
  rw [E8.of_to _ _ e, intsOf_spec ha]
def dblk_spec : List PArg → Option (SV × LEff × Cst)
  | [.row true ty cs, .win .u8 ys n wty] => if Nat.beq ty 61 then match eOf cs with
      | some h => some (.t [], .upd 61 (rowE (blkD h ys)), [128 ≤ n])
      | none => none
    else none
  | _ => none
theorem dblk_specE {ps : List PArg} {q : SV × LEff × Cst} (h : dblk_spec ps = some q) : ∃ H ys n wty, ps = [.row true 61 (rowE H), .win .u8 ys n wty] ∧ q = (.t [], .upd 61 (rowE (blkD H ys)), [128 ≤ n]) := by
  unfold dblk_spec at h
  split at h <;> try cases h
  split at h <;> try cases h
  rename_i hty
  split at h <;> cases h
  rename_i H hH
  rw [eOf_row hH, Nat.eq_of_beq_eq_true hty]
  exact ⟨H, _, _, _, rfl, rfl⟩
noncomputable def dblk_con : Con Tryd.prog G2 := Con.parts tys_ok 34 dblk.fn Tryd.func34 (by kernel_rfl) (c := dblk.body) (by kernel_rfl) [.rowW, .win .u8] dblk_spec
  (fun ps r e p h _ => by
    obtain ⟨H, ys, n, wty, rfl, hq⟩ := dblk_specE h
    cases hq
    refine ⟨(fun k hk => by cases hk), rowE_ids _, ⟨_, rfl, rfl, rfl⟩, (fun i b hib => ?_), fun kd ty xs o n c rest h => by cases h⟩
    cases i with
    | zero => cases hib; rfl
    | succ i => cases hib)
  (fun ps r e p cap h hp hi => by
    obtain ⟨H, ys, n, wty, rfl, hq⟩ := dblk_specE h
    cases hq
    exact dblk_runS H ys n _ wty hp.1 hi.2.1.1 hi.2.1.2)
end Go.Proofs.YtpmdelihcdaffaaDoor
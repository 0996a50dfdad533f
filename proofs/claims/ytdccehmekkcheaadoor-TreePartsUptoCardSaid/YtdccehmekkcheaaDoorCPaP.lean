/- Nodes under a prefix put under the node over them: the root stays. Plain. -/
import Derived.Test.YtdccehmekkcheaaDoorCBkP
namespace Go.Proofs.YtdccehmekkcheaaDoor
open Go Go.Eng Go.RowKit
set_option linter.unusedVariables false
set_option linter.unusedSimpArgs false
set_option maxRecDepth 100000
def pfN (x : B32) (q : Nat) : Nd := ⟨q, fstV x q, zB⟩
def prN (x : B32) (q : Nat) (n : Nd) : Bool := decide (q ≤ comV x n.pre)
theorem pf_holds {x : B32} (hx : BOk x) {q : Nat} (hq : q ≤ 256) (n : Nd) : holdsV (pfN x q) n.pre = prN x q n := by
  have hg : goodV (pfN x q) = true := (good_iff _).2 ⟨by show (0 : Int) ≤ (q : Int); omega, by show (q : Int) ≤ 256; omega, by show fstV (fstV x q) (q : Int).toNat = fstV x q; rw [fst_fst hx, Int.toNat_natCast, Nat.min_self]⟩
  unfold holdsV prN
  rw [hg, Bool.true_and]
  have h := com_fst hx q n.pre hq
  show decide ((q : Int) ≤ (comV (fstV x q) n.pre : Int)) = _
  rw [Bool.eq_iff_iff, decide_eq_true_eq, decide_eq_true_eq]
  omega
section
variable {H : Nd → Nd → B32}
theorem pa_len {U : List Nd} (hU : Ap U) (h0 : U ≠ []) (h256 : ∀ n ∈ U, n.len = 256) {q : Nat} (hq : q ≤ 256) (hc : ∀ n ∈ U, q ≤ comV (U.getD 0 zn).pre n.pre) : (q : Int) ≤ (joinV H U).len := by
  have hp := List.length_pos_iff.2 h0
  rcases Nat.lt_or_ge U.length 2 with h | h
  · rw [join_one H (by omega), h256 _ (getD_mem (by omega) _)]; omega
  · rw [(join_len H hU h).1]
    have := hc (U.getD (U.length - 1) zn) (getD_mem (by omega) _)
    unfold topC
    omega
theorem one_held {N : List Nd} (hA : Ap N) (h256 : ∀ n ∈ N, n.len = 256) {p : Nd} (hp : p ∈ N) : (N.filter fun n => holdsV p n.pre) = [p] := by
  have hpp : holdsV p p.pre = true := by rw [holds_iff (hA.good _ hp), com_self, h256 _ hp]; show (256 : Int).toNat ≤ 256; omega
  have hu : ∀ n ∈ N, holdsV p n.pre = true → n = p := fun n hn h => by
    have h1 := (holds_iff (hA.good _ hp) n.pre).1 h
    rw [h256 _ hp] at h1
    have h2 : comV p.pre n.pre = 256 := Nat.le_antisymm (com_le _ _) h1
    have h3 : holdsV n n.pre = true := by rw [holds_iff (hA.good _ hn), com_self, h256 _ hn]; show (256 : Int).toNat ≤ 256; omega
    exact held_one hA hn hp h3 h
  have hs := hA.pair
  clear h256
  induction N with
  | nil => cases hp
  | cons m r ih =>
    have hpw := List.pairwise_cons.1 hs
    have hAr : Ap r := hA.sub (List.sublist_cons_self _ _)
    rcases List.mem_cons.1 hp with rfl | hp
    · simp only [List.filter_cons, hpp, if_true, List.cons.injEq, true_and]
      refine List.filter_eq_nil_iff.2 fun n hn h => ?_
      have e := hu n (by simp [hn]) h
      subst e
      have := hpw.1 n hn
      rw [Next, lt_irrefl] at this
      cases this.1
    · have hmp : holdsV p m.pre = false := by
        rw [← Bool.not_eq_true]
        intro h
        have e := hu m (by simp) h
        subst e
        have := hpw.1 m hp
        rw [Next, lt_irrefl] at this
        cases this.1
      simp only [List.filter_cons, hmp, Bool.false_eq_true, if_false]
      exact ih hAr hp (fun n hn => hu n (by simp [hn])) hpw.2
theorem parts {N : List Nd} (hH : ∀ a b, BOk (H a b)) (hA : Ap N) (h256 : ∀ n ∈ N, n.len = 256) (h0 : N ≠ []) {q : Nat} (hq : q ≤ 256) :
    (N.filter (prN (N.getD 0 zn).pre q)) ≠ [] ∧ Ap (N.filter (prN (N.getD 0 zn).pre q)) ∧ Ap (joinV H (N.filter (prN (N.getD 0 zn).pre q)) :: N.filter (fun n => !prN (N.getD 0 zn).pre q n)) ∧
      joinV H (joinV H (N.filter (prN (N.getD 0 zn).pre q)) :: N.filter (fun n => !prN (N.getD 0 zn).pre q n)) = joinV H N := by
  obtain ⟨m, r, rfl⟩ : ∃ m r, N = m :: r := by
    cases N with
    | nil => exact absurd rfl h0
    | cons m r => exact ⟨m, r, rfl⟩
  have hg : (m :: r).getD 0 zn = m := rfl
  rw [hg]
  have hm : prN m.pre q m = true := decide_eq_true (by rw [com_self]; exact hq)
  have hUh : (m :: r).filter (prN m.pre q) = m :: r.filter (prN m.pre q) := List.filter_cons_of_pos hm
  have hUs : ((m :: r).filter (prN m.pre q)).Sublist (m :: r) := List.filter_sublist
  have hOs : ((m :: r).filter (fun n => !prN m.pre q n)).Sublist (m :: r) := List.filter_sublist
  have hU := hA.sub hUs
  have hO := hA.sub hOs
  have hU0 : (m :: r).filter (prN m.pre q) ≠ [] := by rw [hUh]; exact List.cons_ne_nil _ _
  have hUg : ((m :: r).filter (prN m.pre q)).getD 0 zn = m := by rw [hUh]; rfl
  have hmem : ∀ n ∈ (m :: r).filter (prN m.pre q), n ∈ m :: r ∧ q ≤ comV m.pre n.pre := fun n hn => by
    obtain ⟨a, b⟩ := List.mem_filter.1 hn
    exact ⟨a, of_decide_eq_true b⟩
  generalize hUe : (m :: r).filter (prN m.pre q) = U at *
  have hlen : (q : Int) ≤ (joinV H U).len := pa_len hU hU0 (fun n hn => h256 n (hmem n hn).1) hq fun n hn => by rw [hUg]; exact (hmem n hn).2
  obtain ⟨jg, jk, jp, jm⟩ := join_good H hH hU hU0
  rw [hUg] at jp jm
  have hOm : ∀ n ∈ (m :: r).filter (fun n => !prN m.pre q n), n ∈ m :: r ∧ comV m.pre n.pre < q := fun n hn => by
    obtain ⟨a, b⟩ := List.mem_filter.1 hn
    refine ⟨a, ?_⟩
    have b : prN m.pre q n = false := by simpa using b
    have := of_decide_eq_false b
    omega
  generalize hOe : (m :: r).filter (fun n => !prN m.pre q n) = O at *
  have hmk := hA.ok m (by simp)
  have hn : ∀ p ∈ O, Next (joinV H U) p := fun p hp => by
    obtain ⟨p1, p2⟩ := hOm p hp
    have hpr : p ∈ r := by
      rcases List.mem_cons.1 p1 with rfl | h
      · rw [com_self] at p2; omega
      · exact h
    have hnx := (List.pairwise_cons.1 hA.pair).1 p hpr
    obtain ⟨c1, c2, c3⟩ := lt_com hnx.1
    have hl : comV m.pre p.pre < (joinV H U).len.toNat := by have := jg.lo; omega
    have h256' := jg.hi
    obtain ⟨l1, l2⟩ := lt_of c1 (a := (joinV H U).pre) (b := p.pre) (fun j hj => by
      rw [jp, bit_fst hmk.1 _ (by omega), decide_eq_true (by omega), Bool.true_and]
      exact com_eq hj) (by rw [jp, bit_fst hmk.1 _ (by omega), decide_eq_true hl, Bool.true_and]; exact c2) c3
    exact ⟨l1, by rw [l2]; omega, by rw [l2, h256 p p1]; omega⟩
  have hP : Ap (joinV H U :: O) := ⟨fun n hn' => (List.mem_cons.1 hn').elim (fun e => e ▸ jg) (hO.good n), List.pairwise_cons.2 ⟨hn, hO.pair⟩, fun n hn' => (List.mem_cons.1 hn').elim (fun e => e ▸ jk) (hO.ok n)⟩
  refine ⟨hU0, hU, hP, cov_join H _ _ _ (Nat.le_refl _) hP hA (List.cons_ne_nil _ _) ⟨fun p hp => ?_, fun p hp => ?_, fun n hn' => ?_⟩⟩
  · rcases List.mem_cons.1 hp with rfl | hp
    · refine congrArg (joinV H) (hUe.symm.trans (List.filter_congr fun n hn' => ?_))
      rw [Bool.eq_iff_iff]
      constructor
      · intro h
        exact join_of_mem H hH hU (by rw [← hUe]; exact List.mem_filter.2 ⟨hn', h⟩)
      · intro h
        have := (join_holds H hH hU hU0 n.pre).1 h
        rw [hUg] at this
        exact decide_eq_true (by have := jg.lo; omega)
    · have hpN := (hOm p hp).1
      rw [one_held hA h256 hpN]
      exact (join_one H (l := [p]) rfl).symm
  · rcases List.mem_cons.1 hp with rfl | hp
    · obtain ⟨n, hn'⟩ := List.exists_mem_of_ne_nil U hU0
      exact ⟨n, (hmem n hn').1, join_of_mem H hH hU hn'⟩
    · have hpN := (hOm p hp).1
      refine ⟨p, hpN, ?_⟩
      have : p ∈ (m :: r).filter fun n => holdsV p n.pre := by rw [one_held hA h256 hpN]; simp
      exact (List.mem_filter.1 this).2
  · by_cases hh : prN m.pre q n = true
    · exact ⟨joinV H U, by simp, join_of_mem H hH hU (by rw [← hUe]; exact List.mem_filter.2 ⟨hn', hh⟩)⟩
    · refine ⟨n, List.mem_cons_of_mem _ (by rw [← hOe]; exact List.mem_filter.2 ⟨hn', by simpa using hh⟩), ?_⟩
      have : n ∈ (m :: r).filter fun k => holdsV n k.pre := by rw [one_held hA h256 hn']; simp
      exact (List.mem_filter.1 this).2
end
end Go.Proofs.YtdccehmekkcheaaDoor

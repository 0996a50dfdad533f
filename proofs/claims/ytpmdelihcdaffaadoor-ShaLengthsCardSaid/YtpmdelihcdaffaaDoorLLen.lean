/- The law of lengths: walked; its content. -/
import Derived.Test.YtpmdelihcdaffaaDoorLSums
namespace Go.Proofs.YtpmdelihcdaffaaDoor
open Go Go.Eng Go.RowKit
set_option linter.unusedVariables false
set_option linter.unusedSimpArgs false
set_option maxRecDepth 100000

namespace llen
noncomputable abbrev fn := Tryd.f8
noncomputable def body : Code := bodyOf fn
noncomputable def Γ : Cons Tryd.prog G2 := [awake_con.lift gs_g2, s256_con.lift gs_g2, r256_con.lift gs_g2, s512_con, r512_con]
noncomputable def T3 : Code := csuf 3 body
noncomputable def A4 : Code := cs1 (cs1 T3)
noncomputable def L1 : Code := cL (cB (cs2 (cs1 T3)))
noncomputable def A9 : Code := cs1 (cs1 (cs2 T3))
noncomputable def L2 : Code := cL (cB (cs2 (cs1 (cs2 T3))))
noncomputable def D : Code := cs2 (cs2 T3)
theorem T3_eq : csuf 3 body = .seq (.seq A4 (.block 0 (.loop L1))) (.seq (.seq A9 (.block 2 (.loop L2))) D) := by kernel_rfl
def M0 (c n : Int) (L : Nat) : List (Option SV) := maskL 55 0 [(0, (cInt .u8).enc c), (1, (cInt .u8).enc n), (5, .o (.a (.sld 0 0 0 L L)))]
def M1 (c n : Int) (L t : Nat) : List (Option SV) := maskL 55 0 [(0, (cInt .u8).enc c), (1, (cInt .u8).enc n), (5, .o (.a (.sld 0 0 0 L L))), (15, (cInt .i64).enc ((L : Nat) : Int)), (16, (cInt .i64).enc ((t : Nat) : Int))]
def M2 (L k : Nat) : List (Option SV) := maskL 55 0 [(5, .o (.a (.sld 0 0 0 L L))), (7, (cInt .i64).enc ((k : Nat) : Int))]
def mem (zs : List Int) : List Blk := [⟨true, 5, .run .u8 zs⟩]
theorem ids0 (c n : Int) (L : Nat) (zs : List Int) : idsIn (mem zs).length (M0 c n L) (mem zs) = true := by kernel_rfl
theorem ids1 (c n : Int) (L t : Nat) (zs : List Int) : idsIn (mem zs).length (M1 c n L t) (mem zs) = true := by kernel_rfl
theorem ids2 (L k : Nat) (zs : List Int) : idsIn (mem zs).length (M2 L k) (mem zs) = true := by kernel_rfl
theorem s0 (c n : Int) (N : Nat) : outX (mem (List.replicate (N + 40) 0)).length (M0 c n (N + 40)) (exec Γ tys 100 (cpre 3 body) ⟨startT fn [(cInt .u8).enc c, (cInt .u8).enc n], [], [(12, [.n ((N + 40 : Nat) : Int)])]⟩) = some (.normal, live (M0 c n (N + 40)), (M0 c n (N + 40)).length, mem (List.replicate (N + 40) 0), [IntKind.i64.wrap (IntKind.i64.wrap n + 40) = ((N + 40 : Nat) : Int), 0 ≤ ((N + 40 : Nat) : Int), ((N + 40 : Nat) : Int) ≤ ((N + 40 : Nat) : Int), Room Tryd.prog 5 (N + 40)]) := by kernel_rfl
theorem a4 (c n : Int) (L : Nat) (zs : List Int) (g : Nat → SV) : outX (mem zs).length (M1 c n L 0) (exec Γ tys 100 A4 ⟨fill g 0 (M0 c n L), mem zs, []⟩) = some (.normal, live (M1 c n L 0), (M1 c n L 0).length, mem zs, []) := by kernel_rfl
theorem step1 (c n : Int) (L t : Nat) (zs : List Int) (v : Int) (g : Nat → SV) : outX (mem (putI (0 + t) [v] 0 zs)).length (M1 c n L (t + 1)) (exec Γ tys 100 L1 ⟨fill g 0 (M1 c n L t), mem zs, [(17, [.b true]), (24, [.n v]), (25, [.dyn]), (26, [.n ((t + 1 : Nat) : Int)])]⟩) = some (.normal, live (M1 c n L (t + 1)), (M1 c n L (t + 1)).length, mem (putI (0 + t) [v] 0 zs), [decide ((t : Int) < (L : Int)) = true, IntKind.u8.wrap (c + IntKind.u8.wrap (t : Int)) = v, 0 ≤ (t : Int), (t : Int) < (L : Int), 0 + t + 1 ≤ zs.length, IntKind.i64.wrap ((t : Int) + 1) = ((t + 1 : Nat) : Int)]) := by kernel_rfl
theorem end1 (c n : Int) (L t : Nat) (zs : List Int) (g : Nat → SV) : outX (mem zs).length (M0 c n L) (exec Γ tys 100 L1 ⟨fill g 0 (M1 c n L t), mem zs, [(17, [.b false])]⟩) = some (.exit 0, live (M0 c n L), (M0 c n L).length, mem zs, [decide ((t : Int) < (L : Int)) = false]) := by kernel_rfl
theorem a9 (c n : Int) (L k : Nat) (zs : List Int) (g : Nat → SV) : outX (mem zs).length (M2 L k) (exec Γ tys 100 A9 ⟨fill g 0 (M0 c n L), mem zs, [(28, [.n (k : Int)])]⟩) = some (.normal, live (M2 L k), (M2 L k).length, mem zs, [IntKind.i64.wrap n = (k : Int)]) := by kernel_rfl
theorem step2 (L k : Nat) (zs : List Int) (A : B32) (D : B64) (g : Nat → SV) : outX (mem zs).length (M2 L (k + 1)) (exec Γ tys 100 L2 ⟨fill g 0 (M2 L k), mem zs, [(32, [.b true]), (38, [.s (cB32.enc A)]), (42, [.s (cB32.enc A)]), (43, [.b false]), (48, [.s (cB64.enc D)]), (52, [.s (cB64.enc D)]), (53, [.b false]), (34, [.n ((k + 1 : Nat) : Int)])]⟩) = some (.normal, live (M2 L (k + 1)), (M2 L (k + 1)).length, mem zs, [decide ((k : Int) < (L : Int)) = true, (0 : Int) ≤ 0, 0 ≤ (k : Int), (k : Int) ≤ (L : Int), 0 + k ≤ zs.length, k ≤ L, cB32.enc (finB (absorb S0 ((zs.drop 0).take k))) = cB32.enc A, (0 : Int) ≤ 0, 0 ≤ (k : Int), (k : Int) ≤ (L : Int), 0 + k ≤ zs.length, k ≤ L, k ≤ 140737488354000, ∀ y ∈ ((zs.drop 0).take k), Byt y, cB32.enc (refB ((zs.drop 0).take k)) = cB32.enc A, (!lcop.selfEq A.to) = false, (0 : Int) ≤ 0, 0 ≤ (k : Int), (k : Int) ≤ (L : Int), 0 + k ≤ zs.length, k ≤ L, cB64.enc (s512V ((zs.drop 0).take k)) = cB64.enc D, (0 : Int) ≤ 0, 0 ≤ (k : Int), (k : Int) ≤ (L : Int), 0 + k ≤ zs.length, k ≤ L, k ≤ 140737488354000, cB64.enc (s512V ((zs.drop 0).take k)) = cB64.enc D, (!lcop.selfEq D.to) = false, IntKind.i64.wrap ((k : Int) + 1) = ((k + 1 : Nat) : Int)]) := by kernel_rfl
theorem end2 (L k : Nat) (zs : List Int) (g : Nat → SV) : outX (mem zs).length (M2 L k) (exec Γ tys 100 L2 ⟨fill g 0 (M2 L k), mem zs, [(32, [.b false])]⟩) = some (.exit 2, live (M2 L k), (M2 L k).length, mem zs, [decide ((k : Int) < (L : Int)) = false]) := by kernel_rfl
noncomputable def fin (L k : Nat) (zs : List Int) (g : Nat → SV) : St := outS Γ tys 100 D ⟨fill g 0 (M2 L k), mem zs, []⟩
theorem d (L k : Nat) (zs : List Int) (g : Nat → SV) : exec Γ tys 100 D ⟨fill g 0 (M2 L k), mem zs, []⟩ = some (.ret, ⟨(fin L k zs g).tm, (fin L k zs g).mem, []⟩, []) := by kernel_rfl
theorem res (L k : Nat) (zs : List Int) (g : Nat → SV) : eRes tys (fin L k zs g).tm (fun k => (fin L k zs g).mem[k]?) fn.results.toList = some [.a (bool1 true)] := by kernel_rfl
theorem putI_byt {xs : List Int} (h : ∀ y ∈ xs, Byt y) (o : Nat) (v : Int) (hv : Byt v) (ho : o < xs.length) : ∀ y ∈ putI o [v] 0 xs, Byt y := by
  intro y hy
  rw [putI_spec o [v] xs (by simp only [List.length_singleton]; omega)] at hy
  simp only [List.mem_append, List.mem_singleton] at hy
  rcases hy with hy | rfl | hy
  · exact h y (List.mem_of_mem_take hy)
  · exact hv
  · exact h y (List.mem_of_mem_drop hy)
theorem walk (c n : Int) (N : Nat) (hn : n = (N : Int)) (hN : N < 256) : RunsF Tryd.prog G2 0 body (startT fn [(cInt .u8).enc c, (cInt .u8).enc n]) [] (EndsM tys fn (endsQ (cBool.enc true) .none)) := by
  have w1 : IntKind.i64.wrap n = n := i64_small _ (by omega) (by omega)
  refine Runs.of_outXP tys_ok mixed 3 (s0 c n N) ⟨by rw [w1, i64_small _ (by omega) (by omega)]; omega, by omega, by omega, room_u8 _ (by omega), trivial⟩ (ids0 c n _ _) rfl fun g => ?_
  rw [T3_eq]
  refine Runs.seq (Runs.seq (Runs.of_outX tys_ok mixed (a4 c n (N + 40) _ g) trivial (ids1 c n _ 0 _) rfl fun g => ?_))
  refine Runs.block ?_
  refine Runs.loopX (fun (x : Nat × List Int) => M1 c n (N + 40) x.1) (fun x => mem x.2) (fun x => x.1 ≤ N + 40 ∧ x.2.length = N + 40 ∧ ∀ y ∈ x.2, Byt y) (fun x => N + 40 - x.1) ?_ (0, List.replicate (N + 40) 0) ⟨Nat.zero_le _, List.length_replicate, fun y hy => by rw [(List.mem_replicate.1 hy).2]; exact ⟨by decide, by decide⟩⟩ g
  rintro ⟨t, zs⟩ g ⟨ht, hz, hb⟩
  simp only at ht hz hb
  by_cases hlt : t < N + 40
  · exact Runs.of_outX tys_ok mixed (step1 c n (N + 40) t zs _ g) ⟨decide_eq_true (by omega), rfl, by omega, by omega, by omega, i64n (by omega) (by omega), trivial⟩ (ids1 c n _ _ _) rfl fun g' => ⟨(t + 1, _), g', rfl, rfl, ⟨hlt, by rw [putI_length]; exact hz, putI_byt hb _ _ (by unfold Byt; rw [u8_wrap]; omega) (by omega)⟩, by simp only; omega⟩
  refine Runs.of_outX tys_ok mixed (end1 c n (N + 40) t zs g) ⟨decide_eq_false (by omega), trivial⟩ (ids0 c n _ _) rfl fun g => ?_
  refine Runs.seq (Runs.seq (Runs.of_outX tys_ok mixed (a9 c n (N + 40) N zs g) ⟨by rw [w1, hn], trivial⟩ (ids2 _ _ _) rfl fun g => ?_))
  refine Runs.block ?_
  refine Runs.loopX (fun (k : Nat) => M2 (N + 40) k) (fun _ => mem zs) (fun k => k ≤ N + 40) (fun k => N + 40 - k) ?_ N (by omega) g
  intro k g hk
  by_cases hlt2 : k < N + 40
  · have e0 : (zs.drop 0).take k = zs.take k := by rw [List.drop_zero]
    have hl : (zs.take k).length = k := by rw [List.length_take]; omega
    have hx := step2 (N + 40) k zs (refB (zs.take k)) (s512V (zs.take k)) g
    rw [e0] at hx
    have q : ∀ l : List Int, (!lcop.selfEq l) = false := fun l => by rw [lcop.selfEq_true]; rfl
    exact Runs.of_outX tys_ok mixed hx ⟨decide_eq_true (by omega), by decide, by omega, by omega, by omega, by omega, by rw [ref_eq _ (by omega)], by decide, by omega, by omega, by omega, by omega, by omega, fun y hy => hb y (List.mem_of_mem_take hy), rfl, q _, by decide, by omega, by omega, by omega, by omega, rfl, by decide, by omega, by omega, by omega, by omega, by omega, rfl, q _, i64n (by omega) (by omega), trivial⟩ (ids2 _ _ _) rfl fun g' => ⟨k + 1, g', rfl, rfl, hlt2, by omega⟩
  · refine Runs.of_outX tys_ok mixed (end2 (N + 40) k zs g) ⟨decide_eq_false (by omega), trivial⟩ (ids2 _ _ _) rfl fun g => ?_
    exact Runs.of_exec tys_ok mixed (d _ _ _ g) trivial (EndsM.ret (res _ _ _ g) rfl)
end llen
theorem wf_byt {n : Int} (h : (Lit.int .u8 n).wf = true) : Byt n := by
  simp [Lit.wf, IntKind.min, IntKind.max, IntKind.signed, IntKind.bits] at h
  exact ⟨h.1, by omega⟩
theorem lens_ok (c n : Int) (W : World) (hc : (Lit.int .u8 c).wf = true) (hn : (Lit.int .u8 n).wf = true) (hg : GlobOk G2 W) :
    Calls Tryd.prog 8 #[.int .u8 c, .int .u8 n] W fun e W' => e = .returned (.bool true) ∧ Below W.heap.size W W' := by
  have hb : Byt n := wf_byt hn
  exact law_calls tys_ok Tryd.func8 (c := llen.body) (by kernel_rfl) (l := []) (args := [(cInt .u8).enc c, (cInt .u8).enc n]) (r := cBool.enc true) hg (fun _ => ⟨0, 0, 0⟩) (fun i b h => by cases h) (fun x hx k hk => by simp only [List.mem_cons, List.not_mem_nil, or_false] at hx; rcases hx with rfl | rfl <;> cases hk) rfl (llen.walk c n n.toNat (by unfold Byt at hb; omega) (by unfold Byt at hb; omega))
end Go.Proofs.YtpmdelihcdaffaaDoor

/- Package sha2: Sum512: its value, its run, its contract. -/
import Derived.Test.YtpmdelihcdaffaaDoorS512C
import Derived.Test.YtpmdelihcdaffaaDoorRShaA
namespace Go.Proofs.YtpmdelihcdaffaaDoor
open Go Go.Eng Go.RowKit
set_option linter.unusedVariables false
set_option maxRecDepth 100000

/-! ### Only the first 128 bytes of a block matter -/
theorem sched_take {ys zs : List Int} (e : ys.take 128 = zs.take 128) {W : Nat → Int} (h : Sched6 ys W) : Sched6 zs W := by
  refine ⟨fun t ht => ?_, h.2⟩
  rw [← h.1 t ht]
  have f : ∀ l : List Int, (l.drop (8 * t)).take 8 = ((l.take 128).drop (8 * t)).take 8 := fun l => by
    rw [List.drop_take, List.take_take]
    congr 1
    omega
  rw [f zs, f ys, e]
theorem blkD_take {ys zs : List Int} (e : ys.take 128 = zs.take 128) (H : E8) : blkD H ys = blkD H zs := by
  unfold blkD
  have hu := sched6_unique (sched_take e (sch6_sched ys)) (sch6_sched zs)
  refine E8.ext_at fun i hi => ?_
  rw [E8.at_mk _ i hi, E8.at_mk _ i hi]
  unfold comp6
  rw [rounds6_congr 80 fun j hj => hu j hj]
/-- Blocks taken one after another. -/
def blocksD (H : E8) (xs : List Int) : Nat → E8
  | 0 => H
  | i + 1 => blkD (blocksD H xs i) (xs.drop (128 * i))
theorem blocksD_congr {xs zs : List Int} (H : E8) : ∀ i, (∀ j, j < i → (xs.drop (128 * j)).take 128 = (zs.drop (128 * j)).take 128) → blocksD H xs i = blocksD H zs i
  | 0, _ => rfl
  | i + 1, h => by
    rw [blocksD, blocksD, blocksD_congr H i fun j hj => h j (by omega)]
    exact blkD_take (h i (by omega)) _
def s512V (ys : List Int) : B64 := outD (blocksD initD (padR ys 128 16) ((padR ys 128 16).length / 128))

/-! ### The last bytes -/
theorem tail_eq (rest : List Int) (r at_ : Nat) (bt : Int) (hr : rest.length = r) (h : r + 1 ≤ at_) (h2 : at_ ≤ 248) :
    ((tailE (tailD rest r) at_ bt).drop 0).take (at_ + 8) = rest ++ ([128] ++ (List.replicate (at_ - 1 - r) 0 ++ lenB bt 8)) := by
  have h8 : app.sh8.map (byteAt bt) = lenB bt 8 := by kernel_rfl
  unfold tailE tailD
  rw [h8, List.drop_zero, putI_spec _ _ _ (by simp only [putI_length, List.length_replicate, lenB_length]; omega), putI_spec _ [128] _ (by simp only [putI_length, List.length_replicate, List.length_singleton]; omega), putI_spec _ rest _ (by rw [List.length_replicate]; omega)]
  have e0 : (List.replicate 256 (0 : Int)).take (0 + 0) ++ (rest ++ (List.replicate 256 0).drop (0 + 0 + rest.length)) = rest ++ List.replicate (256 - r) 0 := by
    rw [List.take_zero, List.nil_append, List.drop_replicate, hr]
    congr 2
    omega
  rw [e0]
  have e1 : (rest ++ List.replicate (256 - r) (0 : Int)).take (0 + (0 + r)) ++ ([128] ++ (rest ++ List.replicate (256 - r) 0).drop (0 + (0 + r) + [(128 : Int)].length)) = rest ++ ([128] ++ List.replicate (255 - r) 0) := by
    rw [List.take_left' (by omega), show 0 + (0 + r) + [(128 : Int)].length = rest.length + 1 by simp only [List.length_singleton]; omega, ← List.drop_drop, List.drop_left, List.drop_replicate]
    congr 3
    omega
  rw [e1]
  have hX : ((rest ++ ([128] ++ List.replicate (255 - r) (0 : Int))).take (0 + at_)).length = at_ := by
    simp only [List.length_take, List.length_append, List.length_singleton, List.length_replicate]
    omega
  rw [← List.append_assoc, List.take_left' (by rw [List.length_append, hX, lenB_length])]
  have e2 : (rest ++ ([128] ++ List.replicate (255 - r) (0 : Int))).take (0 + at_) = rest ++ ([128] ++ List.replicate (at_ - 1 - r) 0) := by
    rw [show 0 + at_ = rest.length + ([(128 : Int)].length + (at_ - 1 - r)) by simp only [List.length_singleton]; omega, List.take_length_add_append, List.take_length_add_append, List.take_replicate]
    congr 3
    omega
  rw [e2, List.append_assoc, List.append_assoc]
theorem lenB16 (bt : Int) : lenB bt 16 = List.replicate 8 0 ++ lenB bt 8 := by kernel_rfl
theorem rep_app (a b : Nat) : List.replicate a (0 : Int) ++ List.replicate b 0 = List.replicate (a + b) 0 := by rw [List.replicate_append_replicate]
theorem padR_tail (ys : List Int) (at_ : Nat) (h : (ys.length % 128 + 1 ≤ 112 ∧ at_ = 120) ∨ (112 < ys.length % 128 + 1 ∧ at_ = 248)) :
    (padR ys 128 16).drop (128 * (ys.length / 128)) = ys.drop (128 * (ys.length / 128)) ++ ([128] ++ (List.replicate (at_ - 1 - (ys.length - 128 * (ys.length / 128))) 0 ++ lenB (lenV ys.length) 8)) := by
  unfold padR
  rw [List.drop_append_of_le_length (by omega), lenB16, ← List.append_assoc (List.replicate _ _), rep_app]
  congr 4
  unfold padZ
  rcases h with ⟨h1, rfl⟩ | ⟨h1, rfl⟩ <;> omega
theorem padD_length (ys : List Int) (at_ : Nat) (h : (ys.length % 128 + 1 ≤ 112 ∧ at_ = 120) ∨ (112 < ys.length % 128 + 1 ∧ at_ = 248)) : (padR ys 128 16).length = 128 * (ys.length / 128) + at_ + 8 := by
  have e := congrArg List.length (padR_tail ys at_ h)
  have hle : ys.length ≤ (padR ys 128 16).length := by unfold padR; rw [List.length_append]; omega
  simp only [List.length_drop, List.length_append, List.length_singleton, List.length_replicate, lenB_length] at e
  rcases h with ⟨h1, rfl⟩ | ⟨h1, rfl⟩ <;> omega
/-- What the last one or two blocks come to. -/
def endD (H : E8) (zs : List Int) (l : Nat) (bt : Int) : E8 :=
  if 112 < l then blkD (blkD H (((tailE zs 248 bt).drop 0).take 256)) (((tailE zs 248 bt).drop 128).take 128) else blkD H (((tailE zs 120 bt).drop 0).take 128)
theorem s512_eq (ys : List Int) (rest : List Int) (hr : rest = ys.drop (128 * (ys.length / 128))) : outD (endD (blocksD initD ys (ys.length / 128)) (tailD rest (ys.length - 128 * (ys.length / 128))) (0 + (ys.length - 128 * (ys.length / 128)) + 1) (lenV ys.length)) = s512V ys := by
  subst hr
  unfold s512V endD
  have hl : (ys.drop (128 * (ys.length / 128))).length = ys.length - 128 * (ys.length / 128) := List.length_drop
  have hb : blocksD initD ys (ys.length / 128) = blocksD initD (padR ys 128 16) (ys.length / 128) := by
    refine blocksD_congr _ _ fun j hj => ?_
    unfold padR
    rw [List.drop_append_of_le_length (by omega), List.take_append_of_le_length (by rw [List.length_drop]; omega)]
  rw [hb]
  congr 1
  by_cases hc : 112 < 0 + (ys.length - 128 * (ys.length / 128)) + 1
  · have hh : (ys.length % 128 + 1 ≤ 112 ∧ 248 = 120) ∨ (112 < ys.length % 128 + 1 ∧ 248 = 248) := .inr ⟨by omega, rfl⟩
    rw [if_pos hc, padD_length ys 248 hh, show (128 * (ys.length / 128) + 248 + 8) / 128 = ys.length / 128 + 2 by omega]
    have ht := tail_eq _ _ 248 (lenV ys.length) hl (by omega) (by omega)
    rw [← padR_tail ys 248 hh] at ht
    show _ = blkD (blkD _ _) _
    have e1 := ht
    rw [show 248 + 8 = 256 from rfl] at e1
    rw [e1]
    congr 1
    have hL : (tailE (tailD (ys.drop (128 * (ys.length / 128))) (ys.length - 128 * (ys.length / 128))) 248 (lenV ys.length)).length = 256 := by
      unfold tailE tailD
      rw [putI_length, putI_length, putI_length, List.length_replicate]
    have e2 : tailE (tailD (ys.drop (128 * (ys.length / 128))) (ys.length - 128 * (ys.length / 128))) 248 (lenV ys.length) = (padR ys 128 16).drop (128 * (ys.length / 128)) := by
      rw [← e1, List.drop_zero, List.take_of_length_le (by omega)]
    rw [e2, List.drop_drop, List.take_of_length_le (by rw [List.length_drop, padD_length ys 248 hh]; omega), show 128 * (ys.length / 128) + 128 = 128 * (ys.length / 128 + 1) by omega]
  · have hh : (ys.length % 128 + 1 ≤ 112 ∧ 120 = 120) ∨ (112 < ys.length % 128 + 1 ∧ 120 = 248) := .inl ⟨by omega, rfl⟩
    rw [if_neg hc, padD_length ys 120 hh, show (128 * (ys.length / 128) + 120 + 8) / 128 = ys.length / 128 + 1 by omega]
    have ht := tail_eq _ _ 120 (lenV ys.length) hl (by omega) (by omega)
    rw [← padR_tail ys 120 hh] at ht
    show _ = blkD _ _
    rw [show 120 + 8 = 128 from rfl] at ht
    rw [ht]
/-! ### The run -/
namespace d512
section
variable {Post : Ex → List SV → List Blk → Prop}
theorem loop_run (ys : List Int) (n c : Nat) (ty : TypeId) (hy : ys.length = n) (hc : n ≤ c)
    (hp : ∀ g o, o ≤ 128 * (n / 128) → (n - 128 * (n / 128) = 0 ∨ o = 128 * (n / 128)) → Post .normal (fill g 0 (w.M1 o (n - 128 * (n / 128)) (c - 128 * (n / 128)) n)) (w.mem ys ty (blocksD initD ys (n / 128)))) (g : Nat → SV) :
    RunsF Tryd.prog G2 1 (.block 0 (.loop L)) (fill g 0 (w.M1 0 n c n)) (w.mem ys ty initD) Post := by
  refine Runs.block ?_
  refine Runs.loopX (fun (x : Nat × Nat) => w.M1 x.2 (n - 128 * x.1) (c - 128 * x.1) n) (fun x => w.mem ys ty (blocksD initD ys x.1)) (fun x => 128 * x.1 ≤ n ∧ x.2 ≤ 128 * x.1 ∧ (n - 128 * x.1 = 0 ∨ x.2 = 128 * x.1)) (fun x => n - 128 * x.1) ?_ (0, 0) ⟨Nat.zero_le _, Nat.zero_le _, .inr rfl⟩ g
  rintro ⟨i, o⟩ g ⟨hi, hol, ho⟩
  simp only at hi hol ho
  by_cases hlt : 128 ≤ n - 128 * i
  · obtain rfl : o = 128 * i := by omega
    refine Runs.of_outX tys_ok mixed (w.go ys ty (blocksD initD ys i) (128 * i) (n - 128 * i) (c - 128 * i) n g) ⟨decide_eq_true (by omega), by omega, by omega, hlt, by omega, by omega, by omega, trivial⟩ (w.ids1 ys ty _ _ _ _ _) rfl fun g' => ⟨(i + 1, advO (c - 128 * i) 128 (128 * i)), g', ?_, ?_, ⟨by simp only; omega, ?_, ?_⟩, by simp only; omega⟩
    · simp only
      rw [show n - 128 * i - 128 = n - 128 * (i + 1) by omega, show c - 128 * i - 128 = c - 128 * (i + 1) by omega]
    · simp only
      rw [List.take_of_length_le (by rw [List.length_drop]; omega)]
      rfl
    · simp only
      unfold advO
      by_cases h : c - 128 * i = 128
      · rw [if_pos h]; omega
      · rw [if_neg h]; omega
    · simp only
      unfold advO
      by_cases h : c - 128 * i = 128
      · left; omega
      · rw [if_neg h]; right; omega
  · obtain rfl : i = n / 128 := by omega
    exact Runs.of_outX tys_ok mixed (w.stop ys ty (blocksD initD ys (n / 128)) o (n - 128 * (n / 128)) (c - 128 * (n / 128)) n g) ⟨decide_eq_false (by omega), trivial⟩ (w.ids1 ys ty _ _ _ _ _) rfl fun g' => hp g' o hol ho
end
theorem tailD_length (rest : List Int) (m : Nat) : (tailD rest m).length = 256 := by
  unfold tailD
  rw [putI_length, putI_length, List.length_replicate]
theorem tailE_length (zs : List Int) (at_ : Nat) (bt : Int) : (tailE zs at_ bt).length = zs.length := by
  unfold tailE
  rw [putI_length]
theorem w.tail_run (ys : List Int) (ty : TypeId) (H : E8) (zs : List Int) (l n : Nat) (hz : zs.length = 256) (g : Nat → SV) :
    RunsF Tryd.prog G2 1 T7 (fill g 0 (w.M6 l n)) (w.memT ys ty H zs) (EndsM tys fn (endsQ (cB64.enc (outD (endD H zs l (lenV n)))) .none)) := by
  unfold endD
  by_cases hc : 112 < l
  · rw [if_pos hc]
    refine Runs.of_outXP tys_ok mixed 5 (w.s7b ys ty H zs l n (lenV n) g) ⟨decide_eq_true (by omega), by decide, by decide, by decide, by decide, by decide, by decide, rfl, by decide, by decide, by omega, by rw [tailE_length]; omega, by decide, by decide, by decide, by decide, by decide, by rw [tailE_length]; omega, by decide, by decide, by decide, by decide, by decide, trivial⟩ (w.ids15 ys ty _) rfl fun g' => ?_
    exact Runs.of_exec tys_ok mixed (w.d ys ty _ g') ⟨by decide, by decide, by decide, by decide, by decide, by decide, by decide, by decide, by decide, by decide, by decide, by decide, by decide, by decide, by decide, by decide, by decide, by decide, by decide, by decide, by decide, by decide, by decide, by decide, trivial⟩ (EndsM.ret (w.res ys ty _ g') rfl)
  · rw [if_neg hc]
    refine Runs.of_outXP tys_ok mixed 5 (w.s7a ys ty H zs l n (lenV n) g) ⟨decide_eq_false (by omega), by decide, by decide, by decide, by decide, by decide, by decide, rfl, by decide, by decide, by omega, by rw [tailE_length]; omega, by decide, by decide, by decide, by decide, by decide, trivial⟩ (w.ids15 ys ty _) rfl fun g' => ?_
    exact Runs.of_exec tys_ok mixed (w.d ys ty _ g') ⟨by decide, by decide, by decide, by decide, by decide, by decide, by decide, by decide, by decide, by decide, by decide, by decide, by decide, by decide, by decide, by decide, by decide, by decide, by decide, by decide, by decide, by decide, by decide, by decide, trivial⟩ (EndsM.ret (w.res ys ty _ g') rfl)
theorem w.run (ys : List Int) (n c : Nat) (ty : TypeId) (hy : ys.length = n) (hc : n ≤ c) : RunsF Tryd.prog G2 1 body (startT fn [.o (.a (.sld 0 0 0 n c))]) [⟨false, ty, .pre .u8 ys⟩] (EndsM tys fn (endsQ (cB64.enc (s512V ys)) .none)) := by
  refine Runs.of_outXP tys_ok mixed 3 (w.s1 ys ty n c) trivial (w.ids1 ys ty _ _ _ _ _) rfl fun g => ?_
  rw [T3_eq]
  refine Runs.seq (loop_run ys n c ty hy hc (fun g o hol ho => ?_) g)
  have hrest : (ys.drop o).take (n - 128 * (n / 128)) = ys.drop (128 * (n / 128)) := by
    rcases ho with h | rfl
    · rw [h, List.take_zero, List.drop_eq_nil_of_le (by omega)]
    · rw [List.take_of_length_le (by rw [List.length_drop]; omega)]
  refine Runs.seq (Runs.of_outX tys_ok mixed (w.s6 ys ty (blocksD initD ys (n / 128)) o (n - 128 * (n / 128)) (c - 128 * (n / 128)) n g) ⟨by decide, by decide, room_u8 _ (by decide), by omega, by omega, by rw [List.length_replicate]; omega, by decide, by omega, by rw [putI_length, List.length_replicate]; omega, trivial⟩ (w.ids6 ys ty _ _ _ _) rfl fun g' => ?_)
  have ht := w.tail_run ys ty (blocksD initD ys (n / 128)) (tailD ((ys.drop o).take (n - 128 * (n / 128))) (n - 128 * (n / 128))) (0 + (n - 128 * (n / 128)) + 1) n (tailD_length _ _) g'
  subst hy
  rw [s512_eq ys _ hrest] at ht
  exact ht
theorem n.tail_run (H : E8) (zs : List Int) (hz : zs.length = 256) (g : Nat → SV) :
    RunsF Tryd.prog G2 0 T7 (fill g 0 (n.M6 (0 + 0 + 1))) (n.memT H zs) (EndsM tys fn (endsQ (cB64.enc (outD (endD H zs (0 + 0 + 1) (lenV 0)))) .none)) := by
  unfold endD
  rw [if_neg (by decide)]
  refine Runs.of_outXP tys_ok mixed 5 (n.s7a none H zs (0 + 0 + 1) (lenV 0) g) ⟨decide_eq_false (by decide), by decide, by decide, by decide, by decide, by decide, by decide, rfl, by decide, by decide, by omega, by rw [tailE_length]; omega, by decide, by decide, by decide, by decide, by decide, trivial⟩ (n.ids15 _) rfl fun g' => ?_
  exact Runs.of_exec tys_ok mixed (n.d _ g') ⟨by decide, by decide, by decide, by decide, by decide, by decide, by decide, by decide, by decide, by decide, by decide, by decide, by decide, by decide, by decide, by decide, by decide, by decide, by decide, by decide, by decide, by decide, by decide, by decide, trivial⟩ (EndsM.ret (n.res _ g') rfl)
theorem n.run (a : Option Addr) : RunsF Tryd.prog G2 0 body (startT fn [.o (.a (.v (.slice a 0 0)))]) [] (EndsM tys fn (endsQ (cB64.enc (s512V [])) .none)) := by
  refine Runs.of_outXP tys_ok mixed 3 (n.s1 a) trivial (n.ids1 a _) rfl fun g => ?_
  rw [T3_eq]
  refine Runs.seq (Runs.block ?_)
  refine Runs.loop (fun (x : Nat × (Nat → SV)) => (fill x.2 0 (n.M1 a), n.mem initD)) (fun _ => True) (fun x => x.1) ?_ (0, g) trivial
  rintro ⟨_, g⟩ _
  refine Runs.of_outX tys_ok mixed (n.stop a initD g) trivial (n.ids1 a _) rfl fun g => ?_
  refine Runs.seq (Runs.of_outX tys_ok mixed (n.s6 a initD g) ⟨by decide, by decide, room_u8 _ (by decide), by decide, by rw [List.length_replicate]; decide, by decide, by decide, by rw [putI_length, List.length_replicate]; decide, trivial⟩ (n.ids6 a _ _ _) rfl fun g' => ?_)
  have ht := n.tail_run initD (tailD [] 0) (tailD_length _ _) g'
  have e := s512_eq [] [] rfl
  exact (congrArg (fun v => RunsF Tryd.prog G2 0 T7 (fill g' 0 (n.M6 (0 + 0 + 1))) (n.memT initD (tailD [] 0)) (EndsM tys fn (endsQ (cB64.enc v) .none))) e).mp ht
end d512
def s512_spec : List PArg → Option (SV × LEff × Cst)
  | [.win .u8 ys n ty] => some (cB64.enc (s512V ys), .none, [])
  | [.val (.o (.a (.v (.slice _ 0 0))))] => some (cB64.enc (s512V []), .none, [])
  | _ => none
noncomputable def s512_con : Con Tryd.prog G2 := Con.parts tys_ok 21 d512.fn Tryd.func21 (by kernel_rfl) (c := d512.body) (by kernel_rfl) [.win .u8] s512_spec
  (fun ps r e p h hp => by
    unfold s512_spec at h
    split at h <;> cases h
    · exact ⟨cB64.ids _, fun b hb => by simp only [locBlks, PArg.blk, List.append_nil, List.mem_singleton] at hb; rw [hb]⟩
    · exact ⟨cB64.ids _, fun b hb => by cases hb⟩)
  (fun ps r e p cap h hp hi => by
    unfold s512_spec at h
    split at h <;> cases h
    · exact d512.w.run _ _ _ _ hi.1.1 hi.1.2
    · exact d512.n.run _)
end Go.Proofs.YtpmdelihcdaffaaDoor

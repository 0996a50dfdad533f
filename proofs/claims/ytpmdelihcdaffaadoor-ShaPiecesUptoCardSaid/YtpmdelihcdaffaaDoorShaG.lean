/- Package sha2: Write walked, with its contract. -/
import Derived.Test.YtpmdelihcdaffaaDoorShaF
namespace Go.Proofs.YtpmdelihcdaffaaDoor
open Go Go.Eng
set_option linter.unusedVariables false
set_option maxRecDepth 100000

namespace wr
noncomputable abbrev fn := Tryd.f13
noncomputable def body : Code := bodyOf fn
noncomputable def A : Code := cs1 body
noncomputable def L : Code := cL (cB (cs2 body))
theorem body_eq : body = .seq A (.block 0 (.loop L)) := by kernel_rfl
noncomputable def Γ : Cons Tryd.prog Gs := [sblk_con]
def mem (H : Hs) (ty : TypeId) (ys : List Int) : List Blk := [⟨true, 51, hsRow H⟩, ⟨false, ty, .pre .u8 ys⟩]
def M (o n c : Nat) : List (Option SV) := maskL 48 0 [(0, .o (.a (.ptr 0 0))), (1, .o (.a (.sld 1 0 o n c)))]
noncomputable def t0 (n c : Nat) : List SV := startT fn [.o (.a (.ptr 0 0)), .o (.a (.sld 1 0 0 n c))]
theorem ids (H : Hs) (ty : TypeId) (ys : List Int) (o n c : Nat) : idsIn (mem H ty ys).length (M o n c) (mem H ty ys) = true := by kernel_rfl
theorem pre (H : Hs) (ty : TypeId) (ys : List Int) (n c : Nat) : outX (mem H ty ys).length (M 0 n c) (exec Γ tys 100 A ⟨t0 n c, mem H ty ys, []⟩) = some (.normal, live (M 0 n c), (M 0 n c).length, mem H ty ys, []) := by kernel_rfl
def zsOf (ys : List Int) (o n a : Nat) : List Int := ((ys.drop o).take n).take (Nat.min n (64 - a))
def orc (a k : Nat) (n' : Int) (o2 n2 c2 : Nat) (d : Bool) : Orc := [(10, [.b true]), (16, [.n (a : Int)]), (21, [.ds (.o (.a (.sld 0 8 a (64 - a) (64 - a))))]), (23, [.n (k : Int)]), (30, [.n n']), (35, [.s (.o (.a (.sld 1 0 o2 n2 c2)))]), (39, [.b d])]
def cst (H : Hs) (ys : List Int) (o n c a k : Nat) (n' : Int) (o2 n2 c2 : Nat) (d : Bool) : Cst := [decide (0 < (n : Int)) = true, IntKind.i64.wrap (H.n.tmod 64) = (a : Int),
  0 ≤ (a : Int), (a : Int) ≤ 64, ((64 : Nat) : Int) ≤ ((64 : Nat) : Int), SV.o (.a (.sld 0 8 (advO 64 (a : Int).toNat 0) (64 - (a : Int).toNat) (64 - (a : Int).toNat))) = .o (.a (.sld 0 8 a (64 - a) (64 - a))),
  o + n ≤ ys.length, a + Nat.min n (64 - a) ≤ 64, ((Nat.min n (64 - a) : Nat) : Int) = (k : Int), IntKind.u64.wrap (H.n + IntKind.u64.wrap (k : Int)) = n',
  0 ≤ (k : Int), (k : Int) ≤ (n : Int), (n : Int) ≤ (c : Int), SV.o (.a (.sld 1 0 (advO c (k : Int).toNat o) ((n : Int).toNat - (k : Int).toNat) (c - (k : Int).toNat))) = .o (.a (.sld 1 0 o2 n2 c2)),
  (IntKind.i64.wrap ((a : Int) + (k : Int)) == 64) = d]
theorem step0 (H : Hs) (ty : TypeId) (ys : List Int) (o n c : Nat) (g : Nat → SV) (a k : Nat) (n' : Int) (o2 n2 c2 : Nat) : outX (mem (chunkS H a (zsOf ys o n a) n') ty ys).length (M o2 n2 c2) (exec Γ tys 100 L ⟨fill g 0 (M o n c), mem H ty ys, orc a k n' o2 n2 c2 false⟩) =
    some (.normal, live (M o2 n2 c2), (M o2 n2 c2).length, mem (chunkS H a (zsOf ys o n a) n') ty ys, cst H ys o n c a k n' o2 n2 c2 false) := by kernel_rfl
theorem step1 (H : Hs) (ty : TypeId) (ys : List Int) (o n c : Nat) (g : Nat → SV) (a k : Nat) (n' : Int) (o2 n2 c2 : Nat) : outX (mem (blkS (chunkS H a (zsOf ys o n a) n')) ty ys).length (M o2 n2 c2) (exec Γ tys 100 L ⟨fill g 0 (M o n c), mem H ty ys, orc a k n' o2 n2 c2 true⟩) =
    some (.normal, live (M o2 n2 c2), (M o2 n2 c2).length, mem (blkS (chunkS H a (zsOf ys o n a) n')) ty ys, cst H ys o n c a k n' o2 n2 c2 true) := by kernel_rfl
theorem stop (H : Hs) (ty : TypeId) (ys : List Int) (o n c : Nat) (g : Nat → SV) : outX (mem H ty ys).length (M o n c) (exec Γ tys 100 L ⟨fill g 0 (M o n c), mem H ty ys, [(10, [.b false])]⟩) =
    some (.exit 0, live (M o n c), (M o n c).length, mem H ty ys, [decide (0 < (n : Int)) = false]) := by kernel_rfl
theorem res (H : Hs) (ty : TypeId) (ys : List Int) (o n c : Nat) (g : Nat → SV) : eRes tys (fill g 0 (M o n c)) (fun k => (mem H ty ys)[k]?) fn.results.toList = some [] := by kernel_rfl
-- a nil slice
noncomputable def z0 (H : Hs) (a : Option Addr) : St := ⟨startT fn [.o (.a (.ptr 0 0)), .o (.a (.v (.slice a 0 0)))], [⟨true, 51, hsRow H⟩], []⟩
noncomputable def z1 (H : Hs) (a : Option Addr) : St := outS Γ tys 100 body (z0 H a)
theorem zex (H : Hs) (a : Option Addr) : exec Γ tys 100 body (z0 H a) = some (.normal, ⟨(z1 H a).tm, (z1 H a).mem, []⟩, []) := by kernel_rfl
theorem zres (H : Hs) (a : Option Addr) : eRes tys (z1 H a).tm (fun k => (z1 H a).mem[k]?) fn.results.toList = some [] := by kernel_rfl
theorem zrow (H : Hs) (a : Option Addr) : (z1 H a).mem[0]? = some ⟨true, 51, hsRow H⟩ := by kernel_rfl
-- a nil hash
noncomputable def y1 (ty : TypeId) (ys : List Int) (n c : Nat) : St := outS Γ tys 100 body ⟨startT fn [.o (.a (.v (.pointer none))), .o (.a (.sld 0 0 0 n c))], [⟨false, ty, .pre .u8 ys⟩], []⟩
theorem yex (ty : TypeId) (ys : List Int) (n c : Nat) : exec Γ tys 100 body ⟨startT fn [.o (.a (.v (.pointer none))), .o (.a (.sld 0 0 0 n c))], [⟨false, ty, .pre .u8 ys⟩], []⟩ = some (.ret, ⟨(y1 ty ys n c).tm, (y1 ty ys n c).mem, []⟩, []) := by kernel_rfl
theorem yres (ty : TypeId) (ys : List Int) (n c : Nat) : eRes tys (y1 ty ys n c).tm (fun k => (y1 ty ys n c).mem[k]?) fn.results.toList = some [] := by kernel_rfl
noncomputable def x1 (a : Option Addr) : St := outS Γ tys 100 body ⟨startT fn [.o (.a (.v (.pointer none))), .o (.a (.v (.slice a 0 0)))], [], []⟩
theorem xex (a : Option Addr) : exec Γ tys 100 body ⟨startT fn [.o (.a (.v (.pointer none))), .o (.a (.v (.slice a 0 0)))], [], []⟩ = some (.ret, ⟨(x1 a).tm, (x1 a).mem, []⟩, []) := by kernel_rfl
theorem xres (a : Option Addr) : eRes tys (x1 a).tm (fun k => (x1 a).mem[k]?) fn.results.toList = some [] := by kernel_rfl
end wr
theorem wr_step (H : Hs) (ty : TypeId) (ys : List Int) (o n c : Nat) (g : Nat → SV) (h0 : 0 ≤ H.n) (hn : 0 < n) (hc : n ≤ c) (hy : o + n ≤ ys.length) {Post : Ex → List SV → List Blk → Prop}
    (hp : ∀ H' o2 n2 c2 g', 0 ≤ H'.n → n2 ≤ c2 → n2 < n → o2 + n2 ≤ ys.length → absorb H' ((ys.drop o2).take n2) = absorb H ((ys.drop o).take n) → Post .normal (fill g' 0 (wr.M o2 n2 c2)) (wr.mem H' ty ys)) :
    RunsF Tryd.prog Gs 2 wr.L (fill g 0 (wr.M o n c)) (wr.mem H ty ys) Post := by
  obtain ⟨a, ha⟩ : ∃ a : Nat, (a : Int) = H.n % 64 := ⟨(H.n % 64).toNat, by omega⟩
  have ha64 : a < 64 := by omega
  obtain ⟨k, hk⟩ : ∃ k, k = Nat.min n (64 - a) := ⟨_, rfl⟩
  have hkn : k ≤ n := by rw [hk]; exact Nat.min_le_left _ _
  have hka : k ≤ 64 - a := by rw [hk]; exact Nat.min_le_right _ _
  have hk0 : 0 < k := by
    rw [hk]
    exact Nat.lt_min.2 ⟨hn, by omega⟩
  have hzl : (wr.zsOf ys o n a).length = k := by
    unfold wr.zsOf
    rw [← hk, List.length_take, List.length_take, List.length_drop]
    omega
  obtain ⟨o2, ho2⟩ : ∃ o2, o2 = advO c k o := ⟨_, rfl⟩
  have hrest : (ys.drop o).take n = wr.zsOf ys o n a ++ (ys.drop o2).take (n - k) := by
    unfold wr.zsOf
    rw [← hk, ho2]
    have e : (ys.drop o).take n = ((ys.drop o).take n).take k ++ ((ys.drop o).take n).drop k := (List.take_append_drop k _).symm
    have e2 : ((ys.drop o).take n).drop k = (ys.drop (advO c k o)).take (n - k) := by
      rw [List.drop_take, List.drop_drop]
      unfold advO
      by_cases hck : c = k
      · rw [if_pos hck]
        have : n - k = 0 := by omega
        rw [this, List.take_zero, List.take_zero]
      · rw [if_neg hck]
    rw [e2] at e
    exact e
  have hlen2 : o2 + (n - k) ≤ ys.length := by
    rw [ho2]
    unfold advO
    split <;> omega
  have hcs : ∀ d, (IntKind.i64.wrap ((a : Int) + (k : Int)) == 64) = d → Holds (wr.cst H ys o n c a k (IntKind.u64.wrap (H.n + (k : Int))) o2 (n - k) (c - k) d) := fun d hd => by
    refine ⟨decide_eq_true (by omega), ?_, by omega, by omega, by omega, ?_, hy, ?_, by rw [hk], ?_, by omega, by omega, by omega, ?_, hd, trivial⟩
    · rw [Int.tmod_eq_emod_of_nonneg h0, IntKind.wrap_i64]; omega
    · show SV.o (.a (.sld 0 8 (advO 64 a 0) (64 - a) (64 - a))) = _
      unfold advO
      rw [if_neg (by omega), Nat.zero_add]
    · rw [← hk]; omega
    · rw [u64_wrap, u64_wrap, u64_wrap]; omega
    · show SV.o (.a (.sld 1 0 (advO c k o) (n - k) (c - k))) = _
      rw [ho2]
  have hch := absorb_chunk (wr.zsOf ys o n a) H a h0 ha (by omega) (by omega)
  rw [hzl] at hch
  by_cases hd : a + k = 64
  · rw [if_pos hd] at hch
    refine Runs.of_outX tys_ok mixed (wr.step1 H ty ys o n c g a k _ o2 (n - k) (c - k)) (hcs true (by rw [IntKind.wrap_i64, beq_iff_eq]; omega)) (wr.ids _ _ _ _ _ _) rfl (fun g' => hp _ o2 (n - k) (c - k) g' ?_ (by omega) (by omega) hlen2 ?_)
    · show 0 ≤ IntKind.u64.wrap _
      rw [u64_wrap]; omega
    · rw [hrest, absorb_append, hch]
  · rw [if_neg hd] at hch
    refine Runs.of_outX tys_ok mixed (wr.step0 H ty ys o n c g a k _ o2 (n - k) (c - k)) (hcs false (by rw [IntKind.wrap_i64, beq_eq_false_iff_ne]; omega)) (wr.ids _ _ _ _ _ _) rfl (fun g' => hp _ o2 (n - k) (c - k) g' ?_ (by omega) (by omega) hlen2 ?_)
    · show 0 ≤ IntKind.u64.wrap _
      rw [u64_wrap]; omega
    · rw [hrest, absorb_append, hch]
theorem wr_loop (H : Hs) (ty : TypeId) (ys : List Int) (n c : Nat) (g : Nat → SV) (h0 : 0 ≤ H.n) (hc : n ≤ c) (hy : ys.length = n) {Post : Ex → List SV → List Blk → Prop}
    (hp : ∀ o n c g', Post .normal (fill g' 0 (wr.M o n c)) (wr.mem (absorb H ys) ty ys)) :
    RunsF Tryd.prog Gs 2 (.block 0 (.loop wr.L)) (fill g 0 (wr.M 0 n c)) (wr.mem H ty ys) Post := by
  refine Runs.block ?_
  refine Runs.loopX (fun (x : Hs × Nat × Nat × Nat) => wr.M x.2.1 x.2.2.1 x.2.2.2) (fun x => wr.mem x.1 ty ys) (fun x => 0 ≤ x.1.n ∧ x.2.2.1 ≤ x.2.2.2 ∧ x.2.1 + x.2.2.1 ≤ ys.length ∧ absorb x.1 ((ys.drop x.2.1).take x.2.2.1) = absorb H ys) (fun x => x.2.2.1) ?_ (H, 0, n, c) ⟨h0, hc, by simp only; omega, by simp only [List.drop_zero]; rw [List.take_of_length_le (by omega)]⟩ g
  rintro ⟨H1, o, n1, c1⟩ g1 ⟨i0, i1, i2, i3⟩
  simp only at i0 i1 i2 i3
  by_cases hn : 0 < n1
  · exact wr_step H1 ty ys o n1 c1 g1 i0 hn i1 i2 fun H' o2 n2 c2 g' j0 j1 j2 j3 j4 => ⟨(H', o2, n2, c2), g', rfl, rfl, ⟨j0, j1, j3, j4.trans i3⟩, j2⟩
  · obtain rfl : n1 = 0 := by omega
    rw [List.take_zero] at i3
    have i3 : H1 = absorb H ys := i3
    subst i3
    exact Runs.of_outX tys_ok mixed (wr.stop _ ty ys o 0 c1 g1) ⟨by decide, trivial⟩ (wr.ids _ _ _ _ _ _) rfl (hp _ _ _)
theorem wr_run (H : Hs) (ty : TypeId) (ys : List Int) (n c : Nat) (h0 : 0 ≤ H.n) (hc : n ≤ c) (hy : ys.length = n) :
    RunsF Tryd.prog Gs 2 wr.body (startT wr.fn [.o (.a (.ptr 0 0)), .o (.a (.sld 1 0 0 n c))]) (wr.mem H ty ys) (EndsM tys wr.fn (endsQ (.t []) (.upd 51 (hsRow (absorb H ys))))) := by
  rw [wr.body_eq]
  refine Runs.seq (Runs.of_outX tys_ok mixed (wr.pre H ty ys n c) trivial (wr.ids _ _ _ _ _ _) rfl fun g => ?_)
  exact wr_loop H ty ys n c g h0 hc hy fun o n c g' => EndsM.fall (wr.res _ ty ys o n c g') ⟨rfl, rfl⟩
def wr_spec : List PArg → Option (SV × LEff × Cst)
  | [.row true ty cs, .win .u8 ys n wty] => if Nat.beq ty 51 then match hsOf cs with
      | some H => some (.t [], .upd 51 (hsRow (absorb H ys)), [0 ≤ H.n])
      | none => none
    else none
  | [.row true ty cs, .val (.o (.a (.v (.slice _ 0 0))))] => if Nat.beq ty 51 then match hsOf cs with
      | some H => some (.t [], .upd 51 (hsRow H), [0 ≤ H.n])
      | none => none
    else none
  | [.val (.o (.a (.v (.pointer none)))), .win .u8 ys n wty] => some (.t [], .none, [])
  | [.val (.o (.a (.v (.pointer none)))), .val (.o (.a (.v (.slice _ 0 0))))] => some (.t [], .none, [])
  | _ => none
theorem wr_specE {ps : List PArg} {q : SV × LEff × Cst} (h : wr_spec ps = some q) : (∃ H ys n wty, ps = [.row true 51 (hsRow H), .win .u8 ys n wty] ∧ q = (.t [], .upd 51 (hsRow (absorb H ys)), [0 ≤ H.n])) ∨
    (∃ H a, ps = [.row true 51 (hsRow H), .val (.o (.a (.v (.slice a 0 0))))] ∧ q = (.t [], .upd 51 (hsRow H), [0 ≤ H.n])) ∨
    (∃ ys n wty, ps = [.val (.o (.a (.v (.pointer none)))), .win .u8 ys n wty] ∧ q = (.t [], .none, [])) ∨ (∃ a, ps = [.val (.o (.a (.v (.pointer none)))), .val (.o (.a (.v (.slice a 0 0))))] ∧ q = (.t [], .none, [])) := by
  unfold wr_spec at h
  split at h
  · split at h <;> try cases h
    rename_i hty
    split at h <;> cases h
    rename_i H hH
    rw [hsOf_row hH, Nat.eq_of_beq_eq_true hty]
    exact .inl ⟨H, _, _, _, rfl, rfl⟩
  · split at h <;> try cases h
    rename_i hty
    split at h <;> cases h
    rename_i H hH
    rw [hsOf_row hH, Nat.eq_of_beq_eq_true hty]
    exact .inr (.inl ⟨H, _, rfl, rfl⟩)
  · cases h; exact .inr (.inr (.inl ⟨_, _, _, rfl, rfl⟩))
  · cases h; exact .inr (.inr (.inr ⟨_, rfl, rfl⟩))
  · cases h
noncomputable def wr_con : Con Tryd.prog Gs := Con.parts tys_ok 13 wr.fn Tryd.func13 (by kernel_rfl) (c := wr.body) (by kernel_rfl) [.rowW, .win .u8] wr_spec
  (fun ps r e p h _ => by
    rcases wr_specE h with ⟨H, ys, n, wty, rfl, hq⟩ | ⟨H, a, rfl, hq⟩ | ⟨ys, n, wty, rfl, hq⟩ | ⟨a, rfl, hq⟩ <;> cases hq
    · refine ⟨(fun k hk => by cases hk), hsRow_ids _, ⟨_, rfl, rfl, rfl⟩, (fun i b hib => ?_), fun kd ty xs o n c rest h => by cases h⟩
      cases i with
      | zero => cases hib; rfl
      | succ i => cases hib
    · exact ⟨(fun k hk => by cases hk), hsRow_ids _, ⟨_, rfl, rfl, rfl⟩, (fun i b hib => by cases hib), fun kd ty xs o n c rest h => by cases h⟩
    · exact ⟨rfl, fun b hb => by simp only [locBlks, PArg.blk, List.append_nil, List.nil_append, List.mem_singleton] at hb; rw [hb]⟩
    · exact ⟨rfl, fun b hb => by cases hb⟩)
  (fun ps r e p cap h hp hi => by
    rcases wr_specE h with ⟨H, ys, n, wty, rfl, hq⟩ | ⟨H, a, rfl, hq⟩ | ⟨ys, n, wty, rfl, hq⟩ | ⟨a, rfl, hq⟩ <;> cases hq
    · exact wr_run H wty ys n _ hp.1 hi.2.1.2 hi.2.1.1
    · exact Runs.of_exec tys_ok mixed (wr.zex H a) trivial (EndsM.fall (wr.zres H a) ⟨rfl, wr.zrow H a⟩)
    · exact Runs.of_exec tys_ok mixed (wr.yex wty ys n _) trivial (EndsM.ret (wr.yres wty ys n _) rfl)
    · exact Runs.of_exec tys_ok mixed (wr.xex a) trivial (EndsM.ret (wr.xres a) rfl))
end Go.Proofs.YtpmdelihcdaffaaDoor

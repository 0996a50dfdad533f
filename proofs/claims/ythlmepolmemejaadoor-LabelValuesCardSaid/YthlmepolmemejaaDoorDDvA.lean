/- Lists of devices: values; wire.Devices, beaconref07.Devices: walks, contracts. -/
import Derived.Test.YthlmepolmemejaaDoorDTrK
import Derived.Test.YthlmepolmemejaaDoorDEngV
namespace Go.Proofs.YthlmepolmemejaaDoor
open Go Go.Eng Go.RowKit
set_option linter.unusedVariables false
set_option linter.unusedSimpArgs false
set_option maxRecDepth 100000
def bvDec : List Value → List B32
  | [] => []
  | v :: r => match cB32.dec (.o (.g ((v :: r.take 31).map Atom.v))) with
    | some n => n :: bvDec (r.drop 31)
    | none => []
  termination_by l => l.length
  decreasing_by simp only [List.length_drop, List.length_cons]; omega
theorem bvDec_vals : ∀ l : List B32, bvDec (wvals l) = l
  | [] => by rw [show wvals [] = [] from rfl, bvDec]
  | n :: r => by
    have e : wvals (n :: r) = bvals n ++ wvals r := by simp [wvals]
    rw [e]
    have e2 : bvals n ++ wvals r = .int .u8 n.b0 :: ((n.to.tail.map (Value.int .u8)) ++ wvals r) := rfl
    have hl : (n.to.tail.map (Value.int .u8)).length = 31 := rfl
    rw [e2, bvDec, List.take_append_of_le_length (by rw [hl]; omega), List.take_of_length_le (by rw [hl]; omega), List.drop_append, hl, Nat.sub_self, List.drop_zero, List.drop_eq_nil_of_le (by rw [hl]; omega), List.nil_append]
    have e3 : (Value.int .u8 n.b0 :: n.to.tail.map (Value.int .u8)).map Atom.v = cB32.row n := rfl
    rw [e3, cB32_dec]
    simp only
    rw [bvDec_vals r]
def AllB (l : List B32) : Prop := ∀ x ∈ l, BOk x
theorem AllB.at {l : List B32} (h : AllB l) {i : Nat} (hi : i < l.length) : BOk (l.getD i zB) := h _ (by
  rw [List.getD_eq_getElem?_getD, List.getElem?_eq_getElem hi]
  exact List.getElem_mem hi)
def devN (l : List B32) : Nat → Bool
  | 0 => true
  | 1 => true
  | i + 2 => devN l (i + 1) && ltV (l.getD i zB) (l.getD (i + 1) zB)
def devV (l : List B32) : Bool := devN l l.length && decide ((l.length : Int) ≤ 8)
theorem devN_false {l : List B32} {i : Nat} (h : devN l i = false) : ∀ n, i ≤ n → devN l n = false
  | 0, hi => by obtain rfl : i = 0 := by omega
                exact h
  | 1, hi => by
    rcases Nat.lt_or_ge i 1 with h1 | h1
    · obtain rfl : i = 0 := by omega
      simp [devN] at h
    · obtain rfl : i = 1 := by omega
      exact h
  | n + 2, hi => by
    rcases Nat.lt_or_ge i (n + 2) with h1 | h1
    · rw [devN, devN_false h (n + 1) (by omega), Bool.false_and]
    · obtain rfl : i = n + 2 := by omega
      exact h
def flatB (l : List B32) : List Int := l.flatMap B32.to
theorem flatB_len : ∀ l : List B32, (flatB l).length = l.length * 32
  | [] => rfl
  | x :: r => by
    have h := flatB_len r
    have e : flatB (x :: r) = x.to ++ flatB r := by simp [flatB]
    rw [e, List.length_append, h, List.length_cons, show x.to.length = 32 from rfl]
    omega
theorem flatB_at : ∀ (l : List B32) {i : Nat}, i < l.length → ((flatB l).drop (i * 32)).take 32 = (l.getD i zB).to
  | [], i, h => by simp at h
  | x :: r, 0, h => by
    have e : flatB (x :: r) = x.to ++ flatB r := by simp [flatB]
    rw [e, Nat.zero_mul, List.drop_zero, List.take_append_of_le_length (Nat.le_refl 32)]
    rfl
  | x :: r, i + 1, h => by
    have e : flatB (x :: r) = x.to ++ flatB r := by simp [flatB]
    have hl : x.to.length = 32 := rfl
    rw [e, List.drop_append, hl, List.drop_eq_nil_of_le (by omega), List.nil_append, show (i + 1) * 32 - 32 = i * 32 by omega, flatB_at r (by simpa using h)]
    rfl
theorem flatB_vals : ∀ l : List B32, wvals l = intV .u8 (flatB l)
  | [] => rfl
  | x :: r => by
    have e : flatB (x :: r) = x.to ++ flatB r := by simp [flatB]
    have e2 : wvals (x :: r) = bvals x ++ wvals r := by simp [wvals]
    rw [e, e2, flatB_vals r]
    unfold intV bvals
    rw [List.map_append]
theorem wv_pre (l : List B32) (β : Nat → Eng.Loc) (n : Nat) (C : List Value) (hC : (Row.prv (wvals l)).is β n C) : (Row.pre .u8 (flatB l)).is β n C := by
  obtain ⟨tail, hC⟩ := hC
  exact ⟨tail, by rw [← flatB_vals]; exact hC⟩
theorem offs32 (i : Nat) : 0 + offI 0 (i : Int) 32 = i * 32 := offs i 32
theorem offq (i : Nat) : offI 0 (i : Int) 32 = i * 32 := by have := offs32 i; omega
theorem wp64 (i : Nat) (h : i < 9223372036854775807) : IntKind.i64.wrap ((i : Int) + 1) = ((i + 1 : Nat) : Int) := by rw [IntKind.wrap_i64]; omega
theorem ld_dev (l : List B32) {i : Nat} (hi : i < l.length) : 0 + offI 0 (i : Int) 32 + 32 ≤ (wvals l).length ∧ SV.o (.g (takeV (wvals l) (0 + offI 0 (i : Int) 32) 32)) = cB32.enc (l.getD i zB) := by
  rw [offs32, wvals_len]
  refine ⟨by omega, ld_lab l hi⟩
namespace wdv
noncomputable abbrev fn := Tryd.f10
noncomputable def body : Code := bodyOf fn
noncomputable def A1 : Code := cs1 (cs1 (csuf 1 body))
noncomputable def L : Code := cL (cB (cs2 (cs1 (csuf 1 body))))
noncomputable def D : Code := cs2 (csuf 1 body)
theorem suf_eq : csuf 1 body = .seq (.seq A1 (.block 0 (.loop L))) D := by kernel_rfl
noncomputable def Γ : Cons Tryd.prog GT := [bcmp.con]
def MR (b : Bool) : List (Option SV) := maskL 28 0 [(2, .o (.a (.v (.bool b))))]
theorem zr (b : Bool) (g : Nat → SV) (mm : Nat → Option Blk) : eRes tys (fill g 0 (MR b)) mm fn.results.toList = some [.a (bool1 b)] := by kernel_rfl
namespace w
def m (l : List B32) (n c : Nat) (ty : TypeId) : List Blk := [⟨false, ty, .pre .u8 (flatB l)⟩]
def M0 (l : List B32) (n c : Nat) (ty : TypeId) : List (Option SV) := maskL 28 0 [(0, .o (.a (.sld 0 0 0 n c)))]
def M1 (l : List B32) (n c : Nat) (ty : TypeId) (i : Int) : List (Option SV) := maskL 28 0 [(0, .o (.a (.sld 0 0 0 n c))), (5, .o (.a (int1 .i64 n))), (6, .o (.a (int1 .i64 i)))]
theorem i0 (l : List B32) (n c : Nat) (ty : TypeId) : idsIn (m l n c ty ).length (M0 l n c ty ) (m l n c ty ) = true := by kernel_rfl
theorem i1 (l : List B32) (n c : Nat) (ty : TypeId) (i : Int) : idsIn (m l n c ty ).length (M1 l n c ty i) (m l n c ty ) = true := by kernel_rfl
theorem iR (l : List B32) (n c : Nat) (ty : TypeId) (b : Bool) : idsIn (m l n c ty ).length (MR b) (m l n c ty ) = true := by kernel_rfl
theorem s0 (l : List B32) (n c : Nat) (ty : TypeId) : outX (m l n c ty ).length (M0 l n c ty ) (exec Γ tys 300 (cpre 1 body) ⟨startT fn [.o (.a (.sld 0 0 0 n c))], m l n c ty , []⟩) = some (.normal, live (M0 l n c ty ), (M0 l n c ty ).length, m l n c ty , []) := by kernel_rfl
theorem a1 (l : List B32) (n c : Nat) (ty : TypeId) (g : Nat → SV) : outX (m l n c ty ).length (M1 l n c ty 0) (exec Γ tys 300 A1 ⟨fill g 0 (M0 l n c ty ), m l n c ty , []⟩) = some (.normal, live (M1 l n c ty 0), (M1 l n c ty 0).length, m l n c ty , []) := by kernel_rfl
theorem o (l : List B32) (n c : Nat) (ty : TypeId) (i : Int) (g : Nat → SV) : outX (m l n c ty ).length (M0 l n c ty ) (exec Γ tys 300 L ⟨fill g 0 (M1 l n c ty i), m l n c ty , [(7, [.b false])]⟩) = some ((.exit 0), live (M0 l n c ty ), (M0 l n c ty ).length, m l n c ty , [decide (i < n) = false]) := by kernel_rfl
theorem t0 (l : List B32) (n c : Nat) (ty : TypeId) (i' : Int) (g : Nat → SV) : outX (m l n c ty ).length (M1 l n c ty i') (exec Γ tys 300 L ⟨fill g 0 (M1 l n c ty 0), m l n c ty , [(7, [.b true]), (24, [.n i'])]⟩) = some (.normal, live (M1 l n c ty i'), (M1 l n c ty i').length, m l n c ty , [decide ((0 : Int) < n) = true, IntKind.i64.wrap (0 + 1) = i']) := by kernel_rfl
theorem t (l : List B32) (n c : Nat) (ty : TypeId) (i k r i' : Int) (g : Nat → SV) : outX (m l n c ty ).length (M1 l n c ty i') (exec Γ tys 300 L ⟨fill g 0 (M1 l n c ty i), m l n c ty , [(7, [.b true]), (10, [.b true]), (14, [.n k]), (21, [.s (.o (.a (int1 .i64 r)))]), (22, [.b false]), (24, [.n i'])]⟩) = some (.normal, live (M1 l n c ty i'), (M1 l n c ty i').length, m l n c ty , [decide (i < n) = true, decide (i > 0) = true, IntKind.i64.wrap (i - 1) = k, 0 ≤ k, k < n, (0 : Int) ≤ 0, (0 : Int) ≤ 32, (32 : Int) ≤ 32, 0 ≤ i, i < n, (0 : Int) ≤ 0, (0 : Int) ≤ 32, (32 : Int) ≤ 32, offI 0 k 32 + 32 ≤ (flatB l).length, 32 ≤ 32, offI 0 i 32 + 32 ≤ (flatB l).length, 32 ≤ 32, .o (.a (int1 .i64 (cmpI (((flatB l).drop (offI 0 k 32)).take 32) (((flatB l).drop (offI 0 i 32)).take 32)))) = SV.o (.a (int1 .i64 r)), decide (r ≥ 0) = false, IntKind.i64.wrap (i + 1) = i']) := by kernel_rfl
theorem bad (l : List B32) (n c : Nat) (ty : TypeId) (i k r : Int) (g : Nat → SV) : outX (m l n c ty ).length (MR false) (exec Γ tys 300 L ⟨fill g 0 (M1 l n c ty i), m l n c ty , [(7, [.b true]), (10, [.b true]), (14, [.n k]), (21, [.s (.o (.a (int1 .i64 r)))]), (22, [.b true])]⟩) = some (.ret, live (MR false), (MR false).length, m l n c ty , [decide (i < n) = true, decide (i > 0) = true, IntKind.i64.wrap (i - 1) = k, 0 ≤ k, k < n, (0 : Int) ≤ 0, (0 : Int) ≤ 32, (32 : Int) ≤ 32, 0 ≤ i, i < n, (0 : Int) ≤ 0, (0 : Int) ≤ 32, (32 : Int) ≤ 32, offI 0 k 32 + 32 ≤ (flatB l).length, 32 ≤ 32, offI 0 i 32 + 32 ≤ (flatB l).length, 32 ≤ 32, .o (.a (int1 .i64 (cmpI (((flatB l).drop (offI 0 k 32)).take 32) (((flatB l).drop (offI 0 i 32)).take 32)))) = SV.o (.a (int1 .i64 r)), decide (r ≥ 0) = true]) := by kernel_rfl
theorem fin (l : List B32) (n c : Nat) (ty : TypeId) (b : Bool) (g : Nat → SV) : outX (m l n c ty ).length (MR b) (exec Γ tys 300 D ⟨fill g 0 (M0 l n c ty ), m l n c ty , [(27, [.b b])]⟩) = some (.ret, live (MR b), (MR b).length, m l n c ty , [decide ((n : Int) ≤ 8) = b]) := by kernel_rfl
theorem run0 (l : List B32) (n c : Nat) (ty : TypeId) (hn : l.length = n) (hb : n ≤ 4398046510976) (hok : AllB l) : RunsF Tryd.prog GT 1 body (startT fn [.o (.a (.sld 0 0 0 n c))]) (m l n c ty) (EndsM tys fn (endsQ (cBool.enc (devV l)) .none)) := by
  have hl : (flatB l).length = n * 32 := by rw [← hn]; exact flatB_len l
  refine Runs.of_outXP tys_ok mixed 1 (s0 l n c ty) trivial (i0 l n c ty) rfl fun g => ?_
  rw [suf_eq]
  refine Runs.seq (Runs.seq (Runs.of_outX tys_ok mixed (a1 l n c ty g) trivial (i1 l n c ty 0) rfl fun g => ?_))
  refine Runs.block ?_
  refine Runs.loopX (fun (i : Nat) => M1 l n c ty (i : Int)) (fun _ => m l n c ty) (fun i => i ≤ n ∧ devN l i = true) (fun i => n - i) ?_ 0 ⟨Nat.zero_le _, rfl⟩ g
  rintro i g ⟨hi, hd⟩
  by_cases hin : i = n
  · refine Runs.of_outX tys_ok mixed (o l n c ty (i : Int) g) ⟨decide_eq_false (by omega), trivial⟩ (i0 l n c ty) rfl fun g => ?_
    show RunsF _ _ _ _ _ _ _
    have e : devV l = decide ((n : Int) ≤ 8) := by unfold devV; rw [hn, ← hin, hd, Bool.true_and]
    rw [e]
    exact Runs.of_outX tys_ok mixed (fin l n c ty _ g) ⟨rfl, trivial⟩ (iR l n c ty _) rfl fun g => EndsM.ret (zr _ g _) rfl
  · cases i with
    | zero => exact Runs.of_outX tys_ok mixed (t0 l n c ty ((1 : Nat) : Int) g) ⟨decide_eq_true (by omega), rfl, trivial⟩ (i1 l n c ty _) rfl fun g => ⟨1, g, rfl, rfl, ⟨by omega, rfl⟩, by omega⟩
    | succ k =>
      have o1 := offq k
      have o2 := offq (k + 1)
      have f1 := flatB_at l (show k < l.length by omega)
      have f2 := flatB_at l (show k + 1 < l.length by omega)
      have hw : IntKind.i64.wrap (((k + 1 : Nat) : Int) - 1) = (k : Int) := by rw [IntKind.wrap_i64]; omega
      have hneg := cmpV_neg (hok.at (show k < l.length by omega)) (hok.at (show k + 1 < l.length by omega))
      have hk : devN l (k + 2) = ltV (l.getD k zB) (l.getD (k + 1) zB) := by rw [devN, hd, Bool.true_and]
      cases hlt : ltV (l.getD k zB) (l.getD (k + 1) zB) with
      | true =>
        have hc := hneg.2 hlt
        refine Runs.of_outX tys_ok mixed (t l n c ty ((k + 1 : Nat) : Int) (k : Int) (cmpV (l.getD k zB) (l.getD (k + 1) zB)) ((k + 2 : Nat) : Int) g) ⟨decide_eq_true (by omega), decide_eq_true (by omega), hw, by omega, by omega, by decide, by decide, by decide, by omega, by omega, by decide, by decide, by decide, by rw [o1, hl]; omega, Nat.le_refl _, by rw [o2, hl]; omega, Nat.le_refl _, by rw [o1, o2, f1, f2]; rfl, decide_eq_false (by omega), wp64 (k + 1) (by omega), trivial⟩ (i1 l n c ty _) rfl fun g => ⟨k + 2, g, rfl, rfl, ⟨by omega, by rw [hk]; exact hlt⟩, by omega⟩
      | false =>
        have hc : ¬ cmpV (l.getD k zB) (l.getD (k + 1) zB) < 0 := fun q => by rw [hneg.1 q] at hlt; cases hlt
        have e : devV l = false := by unfold devV; rw [devN_false (i := k + 2) (by rw [hk]; exact hlt) l.length (by omega), Bool.false_and]
        rw [e]
        exact Runs.of_outX tys_ok mixed (bad l n c ty ((k + 1 : Nat) : Int) (k : Int) (cmpV (l.getD k zB) (l.getD (k + 1) zB)) g) ⟨decide_eq_true (by omega), decide_eq_true (by omega), hw, by omega, by omega, by decide, by decide, by decide, by omega, by omega, by decide, by decide, by decide, by rw [o1, hl]; omega, Nat.le_refl _, by rw [o2, hl]; omega, Nat.le_refl _, by rw [o1, o2, f1, f2]; rfl, decide_eq_true (by omega), trivial⟩ (iR l n c ty _) rfl fun g => EndsM.ret (zr _ g _) rfl
theorem run (l : List B32) (n c : Nat) (ty : TypeId) (hn : l.length = n) (hb : n ≤ 4398046510976) (hok : AllB l) : RunsF Tryd.prog GT 1 body (startT fn [.o (.a (.sld 0 0 0 n c))]) [⟨false, ty, .prv (wvals l)⟩] (EndsM tys fn (endsQ (cBool.enc (devV l)) .none)) :=
  Runs.rowW 0 (.pre .u8 (flatB l)) rfl (wv_pre l) rfl (run0 l n c ty hn hb hok)
end w
namespace z
def M0 (a : Option Addr) : List (Option SV) := maskL 28 0 [(0, .o (.a (.v (.slice a 0 0))))]
def M1 (a : Option Addr) : List (Option SV) := maskL 28 0 [(0, .o (.a (.v (.slice a 0 0)))), (5, .o (.a (int1 .i64 0))), (6, .o (.a (int1 .i64 0)))]
theorem i0 (a : Option Addr) : idsIn (([] : List Blk)).length (M0 a) (([] : List Blk)) = true := by kernel_rfl
theorem i1 (a : Option Addr) : idsIn (([] : List Blk)).length (M1 a) (([] : List Blk)) = true := by kernel_rfl
theorem s0 (a : Option Addr) : outX (([] : List Blk)).length (M0 a) (exec Γ tys 300 (cpre 1 body) ⟨startT fn [.o (.a (.v (.slice a 0 0)))], ([] : List Blk), []⟩) = some (.normal, live (M0 a), (M0 a).length, ([] : List Blk), []) := by kernel_rfl
theorem a1 (a : Option Addr) (g : Nat → SV) : outX (([] : List Blk)).length (M1 a) (exec Γ tys 300 A1 ⟨fill g 0 (M0 a), ([] : List Blk), []⟩) = some (.normal, live (M1 a), (M1 a).length, ([] : List Blk), []) := by kernel_rfl
theorem o (a : Option Addr) (g : Nat → SV) : outX (([] : List Blk)).length (M0 a) (exec Γ tys 300 L ⟨fill g 0 (M1 a), ([] : List Blk), []⟩) = some ((.exit 0), live (M0 a), (M0 a).length, ([] : List Blk), []) := by kernel_rfl
theorem fin (a : Option Addr) (g : Nat → SV) : outX (([] : List Blk)).length (MR true) (exec Γ tys 300 D ⟨fill g 0 (M0 a), ([] : List Blk), []⟩) = some (.ret, live (MR true), (MR true).length, ([] : List Blk), []) := by kernel_rfl
theorem run (a : Option Addr) : RunsF Tryd.prog GT 0 body (startT fn [.o (.a (.v (.slice a 0 0)))]) [] (EndsM tys fn (endsQ (cBool.enc true) .none)) := by
  refine Runs.of_outXP tys_ok mixed 1 (s0 a) trivial (i0 a) rfl fun g => ?_
  rw [suf_eq]
  refine Runs.seq (Runs.seq (Runs.of_outX tys_ok mixed (a1 a g) trivial (i1 a) rfl fun g => ?_))
  refine Runs.block ?_
  refine Runs.loopX (fun (_ : Unit) => M1 a) (fun _ => []) (fun _ => True) (fun _ => 0) ?_ () trivial g
  rintro _ g _
  refine Runs.of_outX tys_ok mixed (o a g) trivial (i0 a) rfl fun g => ?_
  show RunsF _ _ _ _ _ _ _
  exact Runs.of_outX tys_ok mixed (fin a g) trivial (by kernel_rfl) rfl fun g => EndsM.ret (zr _ g _) rfl
end z
def spec : List PArg → Option (SV × LEff × Cst)
  | [.winv _ vs n ty] => some (cBool.enc (devV (bvDec vs)), .none, [vs = wvals (bvDec vs), (bvDec vs).length = n, n ≤ 4398046510976, AllB (bvDec vs)])
  | [.val (.o (.a (.v (.slice a 0 0))))] => some (cBool.enc true, .none, [])
  | _ => none
noncomputable def con : Con Tryd.prog GT := Con.parts tys_ok 10 fn Tryd.func10 (by kernel_rfl) (c := body) (by kernel_rfl) [.winv 32] spec
  (fun ps r e p h hp => by
    unfold spec at h
    split at h <;> cases h
    · exact ⟨rfl, fun b hb => by simp only [locBlks, PArg.blk, List.append_nil, List.mem_singleton] at hb; rw [hb]⟩
    · exact ⟨rfl, fun b hb => by simp [locBlks, PArg.blk] at hb⟩)
  (fun ps r e p cap h hp hi => by
    unfold spec at h
    split at h <;> cases h
    · rename_i s vs n ty
      obtain ⟨p1, p2, p3, p4, _⟩ := hp
      have q := w.run (bvDec vs) n (cap 0) ty p2 p3 p4
      rw [← p1] at q
      exact q
    · rename_i a
      exact z.run a)
end wdv
namespace rdv
noncomputable abbrev fn := Tryd.f13
noncomputable def body : Code := bodyOf fn
noncomputable def A1 : Code := cs1 (cs1 (csuf 1 body))
noncomputable def L : Code := cL (cB (cs2 (cs1 (csuf 1 body))))
noncomputable def D : Code := cs2 (csuf 1 body)
theorem suf_eq : csuf 1 body = .seq (.seq A1 (.block 0 (.loop L))) D := by kernel_rfl
noncomputable def Γ : Cons Tryd.prog GT := [blw.con]
def MR (b : Bool) : List (Option SV) := maskL 24 0 [(2, .o (.a (.v (.bool b))))]
theorem zr (b : Bool) (g : Nat → SV) (mm : Nat → Option Blk) : eRes tys (fill g 0 (MR b)) mm fn.results.toList = some [.a (bool1 b)] := by kernel_rfl
namespace w
def m (l : List B32) (n c : Nat) (ty : TypeId) : List Blk := [⟨false, ty, .prv (wvals l)⟩]
def M0 (l : List B32) (n c : Nat) (ty : TypeId) : List (Option SV) := maskL 24 0 [(0, .o (.a (.sld 0 0 0 n c)))]
def M1 (l : List B32) (n c : Nat) (ty : TypeId) (i : Int) : List (Option SV) := maskL 24 0 [(0, .o (.a (.sld 0 0 0 n c))), (3, .o (.a (int1 .i64 i)))]
theorem i0 (l : List B32) (n c : Nat) (ty : TypeId) : idsIn (m l n c ty ).length (M0 l n c ty ) (m l n c ty ) = true := by kernel_rfl
theorem i1 (l : List B32) (n c : Nat) (ty : TypeId) (i : Int) : idsIn (m l n c ty ).length (M1 l n c ty i) (m l n c ty ) = true := by kernel_rfl
theorem iR (l : List B32) (n c : Nat) (ty : TypeId) (b : Bool) : idsIn (m l n c ty ).length (MR b) (m l n c ty ) = true := by kernel_rfl
theorem s0 (l : List B32) (n c : Nat) (ty : TypeId) : outX (m l n c ty ).length (M0 l n c ty ) (exec Γ tys 300 (cpre 1 body) ⟨startT fn [.o (.a (.sld 0 0 0 n c))], m l n c ty , []⟩) = some (.normal, live (M0 l n c ty ), (M0 l n c ty ).length, m l n c ty , []) := by kernel_rfl
theorem a1 (l : List B32) (n c : Nat) (ty : TypeId) (g : Nat → SV) : outX (m l n c ty ).length (M1 l n c ty 1) (exec Γ tys 300 A1 ⟨fill g 0 (M0 l n c ty ), m l n c ty , []⟩) = some (.normal, live (M1 l n c ty 1), (M1 l n c ty 1).length, m l n c ty , []) := by kernel_rfl
theorem o (l : List B32) (n c : Nat) (ty : TypeId) (i : Int) (g : Nat → SV) : outX (m l n c ty ).length (M0 l n c ty ) (exec Γ tys 300 L ⟨fill g 0 (M1 l n c ty i), m l n c ty , [(7, [.b false])]⟩) = some ((.exit 0), live (M0 l n c ty ), (M0 l n c ty ).length, m l n c ty , [decide (i < n) = false]) := by kernel_rfl
theorem t (l : List B32) (n c : Nat) (ty : TypeId) (i k i' : Int) (x y : B32) (g : Nat → SV) : outX (m l n c ty ).length (M1 l n c ty i') (exec Γ tys 300 L ⟨fill g 0 (M1 l n c ty i), m l n c ty , [(7, [.b true]), (9, [.n i']), (12, [.n k]), (14, [.ds (cB32.enc x)]), (18, [.ds (cB32.enc y)]), (19, [.s (cBool.enc true)])]⟩) = some (.normal, live (M1 l n c ty i'), (M1 l n c ty i').length, m l n c ty , [decide (i < n) = true, IntKind.i64.wrap (i - 1) = k, 0 ≤ k, k < n, 0 + offI 0 k 32 + 32 ≤ (wvals l).length, SV.o (.g (takeV (wvals l) (0 + offI 0 k 32) 32)) = cB32.enc x, 0 ≤ i, i < n, 0 + offI 0 i 32 + 32 ≤ (wvals l).length, SV.o (.g (takeV (wvals l) (0 + offI 0 i 32) 32)) = cB32.enc y, BOk x, BOk y, cBool.enc (ltV x y) = cBool.enc true, IntKind.i64.wrap (i + 1) = i']) := by kernel_rfl
theorem bad (l : List B32) (n c : Nat) (ty : TypeId) (i k : Int) (x y : B32) (g : Nat → SV) : outX (m l n c ty ).length (MR false) (exec Γ tys 300 L ⟨fill g 0 (M1 l n c ty i), m l n c ty , [(7, [.b true]), (12, [.n k]), (14, [.ds (cB32.enc x)]), (18, [.ds (cB32.enc y)]), (19, [.s (cBool.enc false)])]⟩) = some (.ret, live (MR false), (MR false).length, m l n c ty , [decide (i < n) = true, IntKind.i64.wrap (i - 1) = k, 0 ≤ k, k < n, 0 + offI 0 k 32 + 32 ≤ (wvals l).length, SV.o (.g (takeV (wvals l) (0 + offI 0 k 32) 32)) = cB32.enc x, 0 ≤ i, i < n, 0 + offI 0 i 32 + 32 ≤ (wvals l).length, SV.o (.g (takeV (wvals l) (0 + offI 0 i 32) 32)) = cB32.enc y, BOk x, BOk y, cBool.enc (ltV x y) = cBool.enc false]) := by kernel_rfl
theorem fin (l : List B32) (n c : Nat) (ty : TypeId) (b : Bool) (g : Nat → SV) : outX (m l n c ty ).length (MR b) (exec Γ tys 300 D ⟨fill g 0 (M0 l n c ty ), m l n c ty , [(23, [.b b])]⟩) = some (.ret, live (MR b), (MR b).length, m l n c ty , [decide ((n : Int) ≤ 8) = b]) := by kernel_rfl
theorem run (l : List B32) (n c : Nat) (ty : TypeId) (hn : l.length = n) (hb : n ≤ 4398046510976) (hok : AllB l) : RunsF Tryd.prog GT 1 body (startT fn [.o (.a (.sld 0 0 0 n c))]) (m l n c ty) (EndsM tys fn (endsQ (cBool.enc (devV l)) .none)) := by
  have ld : ∀ i, i < n → 0 ≤ (i : Int) ∧ (i : Int) < n ∧ 0 + offI 0 (i : Int) 32 + 32 ≤ (wvals l).length ∧ SV.o (.g (takeV (wvals l) (0 + offI 0 (i : Int) 32) 32)) = cB32.enc (l.getD i zB) := fun i hi => by
    obtain ⟨a, b⟩ := ld_dev l (show i < l.length by omega)
    exact ⟨by omega, by omega, a, b⟩
  refine Runs.of_outXP tys_ok mixed 1 (s0 l n c ty) trivial (i0 l n c ty) rfl fun g => ?_
  rw [suf_eq]
  refine Runs.seq (Runs.seq (Runs.of_outX tys_ok mixed (a1 l n c ty g) trivial (i1 l n c ty 1) rfl fun g => ?_))
  refine Runs.block ?_
  refine Runs.loopX (fun (i : Nat) => M1 l n c ty ((i + 1 : Nat) : Int)) (fun _ => m l n c ty) (fun i => i ≤ n ∧ (i < n → devN l (i + 1) = true) ∧ devN l i = true) (fun i => n - i) ?_ 0 ⟨Nat.zero_le _, fun _ => rfl, rfl⟩ g
  rintro k g ⟨hi, hd, hd0⟩
  by_cases hin : n ≤ k + 1
  · refine Runs.of_outX tys_ok mixed (o l n c ty ((k + 1 : Nat) : Int) g) ⟨decide_eq_false (by omega), trivial⟩ (i0 l n c ty) rfl fun g => ?_
    show RunsF _ _ _ _ _ _ _
    have hdn : devN l n = true := by
      by_cases h : k < n
      · rw [show n = k + 1 by omega]; exact hd h
      · rw [show n = k by omega]; exact hd0
    have e : devV l = decide ((n : Int) ≤ 8) := by unfold devV; rw [hn, hdn, Bool.true_and]
    rw [e]
    exact Runs.of_outX tys_ok mixed (fin l n c ty _ g) ⟨rfl, trivial⟩ (iR l n c ty _) rfl fun g => EndsM.ret (zr _ g _) rfl
  · have hd := hd (by omega)
    obtain ⟨x1, x2, x3, x4⟩ := ld k (by omega)
    obtain ⟨y1, y2, y3, y4⟩ := ld (k + 1) (by omega)
    have hw : IntKind.i64.wrap (((k + 1 : Nat) : Int) - 1) = (k : Int) := by rw [IntKind.wrap_i64]; omega
    have b1 := hok.at (show k < l.length by omega)
    have b2 := hok.at (show k + 1 < l.length by omega)
    have hk : devN l (k + 2) = ltV (l.getD k zB) (l.getD (k + 1) zB) := by rw [devN, hd, Bool.true_and]
    cases hlt : ltV (l.getD k zB) (l.getD (k + 1) zB) with
    | true => exact Runs.of_outX tys_ok mixed (t l n c ty ((k + 1 : Nat) : Int) (k : Int) ((k + 2 : Nat) : Int) _ _ g) ⟨decide_eq_true (by omega), hw, x1, x2, x3, x4, y1, y2, y3, y4, b1, b2, by rw [hlt], wp64 (k + 1) (by omega), trivial⟩ (i1 l n c ty _) rfl fun g => ⟨k + 1, g, rfl, rfl, ⟨by omega, fun _ => by rw [hk]; exact hlt, hd⟩, by omega⟩
    | false =>
      have e : devV l = false := by unfold devV; rw [devN_false (i := k + 2) (by rw [hk]; exact hlt) l.length (by omega), Bool.false_and]
      rw [e]
      exact Runs.of_outX tys_ok mixed (bad l n c ty ((k + 1 : Nat) : Int) (k : Int) _ _ g) ⟨decide_eq_true (by omega), hw, x1, x2, x3, x4, y1, y2, y3, y4, b1, b2, by rw [hlt], trivial⟩ (iR l n c ty _) rfl fun g => EndsM.ret (zr _ g _) rfl
end w
namespace z
def M0 (a : Option Addr) : List (Option SV) := maskL 24 0 [(0, .o (.a (.v (.slice a 0 0))))]
def M1 (a : Option Addr) : List (Option SV) := maskL 24 0 [(0, .o (.a (.v (.slice a 0 0)))), (3, .o (.a (int1 .i64 1)))]
theorem i0 (a : Option Addr) : idsIn (([] : List Blk)).length (M0 a) (([] : List Blk)) = true := by kernel_rfl
theorem i1 (a : Option Addr) : idsIn (([] : List Blk)).length (M1 a) (([] : List Blk)) = true := by kernel_rfl
theorem s0 (a : Option Addr) : outX (([] : List Blk)).length (M0 a) (exec Γ tys 300 (cpre 1 body) ⟨startT fn [.o (.a (.v (.slice a 0 0)))], ([] : List Blk), []⟩) = some (.normal, live (M0 a), (M0 a).length, ([] : List Blk), []) := by kernel_rfl
theorem a1 (a : Option Addr) (g : Nat → SV) : outX (([] : List Blk)).length (M1 a) (exec Γ tys 300 A1 ⟨fill g 0 (M0 a), ([] : List Blk), []⟩) = some (.normal, live (M1 a), (M1 a).length, ([] : List Blk), []) := by kernel_rfl
theorem o (a : Option Addr) (g : Nat → SV) : outX (([] : List Blk)).length (M0 a) (exec Γ tys 300 L ⟨fill g 0 (M1 a), ([] : List Blk), []⟩) = some ((.exit 0), live (M0 a), (M0 a).length, ([] : List Blk), []) := by kernel_rfl
theorem fin (a : Option Addr) (g : Nat → SV) : outX (([] : List Blk)).length (MR true) (exec Γ tys 300 D ⟨fill g 0 (M0 a), ([] : List Blk), []⟩) = some (.ret, live (MR true), (MR true).length, ([] : List Blk), []) := by kernel_rfl
theorem run (a : Option Addr) : RunsF Tryd.prog GT 0 body (startT fn [.o (.a (.v (.slice a 0 0)))]) [] (EndsM tys fn (endsQ (cBool.enc true) .none)) := by
  refine Runs.of_outXP tys_ok mixed 1 (s0 a) trivial (i0 a) rfl fun g => ?_
  rw [suf_eq]
  refine Runs.seq (Runs.seq (Runs.of_outX tys_ok mixed (a1 a g) trivial (i1 a) rfl fun g => ?_))
  refine Runs.block ?_
  refine Runs.loopX (fun (_ : Unit) => M1 a) (fun _ => []) (fun _ => True) (fun _ => 0) ?_ () trivial g
  rintro _ g _
  refine Runs.of_outX tys_ok mixed (o a g) trivial (i0 a) rfl fun g => ?_
  show RunsF _ _ _ _ _ _ _
  exact Runs.of_outX tys_ok mixed (fin a g) trivial (by kernel_rfl) rfl fun g => EndsM.ret (zr _ g _) rfl
end z
def spec : List PArg → Option (SV × LEff × Cst)
  | [.winv _ vs n ty] => some (cBool.enc (devV (bvDec vs)), .none, [vs = wvals (bvDec vs), (bvDec vs).length = n, n ≤ 4398046510976, AllB (bvDec vs)])
  | [.val (.o (.a (.v (.slice a 0 0))))] => some (cBool.enc true, .none, [])
  | _ => none
noncomputable def con : Con Tryd.prog GT := Con.parts tys_ok 13 fn Tryd.func13 (by kernel_rfl) (c := body) (by kernel_rfl) [.winv 32] spec
  (fun ps r e p h hp => by
    unfold spec at h
    split at h <;> cases h
    · exact ⟨rfl, fun b hb => by simp only [locBlks, PArg.blk, List.append_nil, List.mem_singleton] at hb; rw [hb]⟩
    · exact ⟨rfl, fun b hb => by simp [locBlks, PArg.blk] at hb⟩)
  (fun ps r e p cap h hp hi => by
    unfold spec at h
    split at h <;> cases h
    · rename_i s vs n ty
      obtain ⟨p1, p2, p3, p4, _⟩ := hp
      have q := w.run (bvDec vs) n (cap 0) ty p2 p3 p4
      unfold w.m at q
      rw [← p1] at q
      exact q
    · rename_i a
      exact z.run a)
end rdv
end Go.Proofs.YthlmepolmemejaaDoor

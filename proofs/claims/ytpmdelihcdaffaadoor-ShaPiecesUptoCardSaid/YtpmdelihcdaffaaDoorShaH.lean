/- Package sha2: Sum, Len, Copy, Sum256, with their contracts; nil hashes; that the law is awake. -/
import Derived.Test.YtpmdelihcdaffaaDoorShaG
import Derived.Test.YtpmdelihcdaffaaDoorShaW
namespace Go.Proofs.YtpmdelihcdaffaaDoor
open Go Go.Eng
set_option linter.unusedVariables false
set_option maxRecDepth 100000

theorem room_u8 (n : Nat) (h : n ≤ 140737488355328) : Room Tryd.prog 5 n := by
  have h1 : (Tryd.prog.info? 5).map (·.bytes) = some 1 := by kernel_rfl
  cases hq : Tryd.prog.info? 5 with
  | none => rw [hq] at h1; cases h1
  | some j =>
    rw [hq] at h1
    have : j.bytes = 1 := by simpa using h1
    exact ⟨j, hq, by rw [this]; omega, by omega⟩
/-! ### Sum -/
def padL (n : Int) : Nat := (IntKind.u64.wrap (1 + (IntKind.u64.wrap (119 - n.tmod 64)).tmod 64)).toNat
/-- What Sum writes behind what was taken. -/
def padV (n : Int) (L : Nat) : List Int := ((putI (0 + L) (app.sh8.map (byteAt (IntKind.u64.wrap (n * 8)))) 0 (putI 0 [128] 0 (List.replicate 72 0))).drop 0).take (L + 8)
def sumB (h : E8) : B32 := ⟨byteAt (IntKind.u64.wrap h.b0) 24, byteAt (IntKind.u64.wrap h.b0) 16, byteAt (IntKind.u64.wrap h.b0) 8, byteAt (IntKind.u64.wrap h.b0) 0, byteAt (IntKind.u64.wrap h.b1) 24, byteAt (IntKind.u64.wrap h.b1) 16, byteAt (IntKind.u64.wrap h.b1) 8, byteAt (IntKind.u64.wrap h.b1) 0, byteAt (IntKind.u64.wrap h.b2) 24, byteAt (IntKind.u64.wrap h.b2) 16, byteAt (IntKind.u64.wrap h.b2) 8, byteAt (IntKind.u64.wrap h.b2) 0, byteAt (IntKind.u64.wrap h.b3) 24, byteAt (IntKind.u64.wrap h.b3) 16, byteAt (IntKind.u64.wrap h.b3) 8, byteAt (IntKind.u64.wrap h.b3) 0, byteAt (IntKind.u64.wrap h.b4) 24, byteAt (IntKind.u64.wrap h.b4) 16, byteAt (IntKind.u64.wrap h.b4) 8, byteAt (IntKind.u64.wrap h.b4) 0, byteAt (IntKind.u64.wrap h.b5) 24, byteAt (IntKind.u64.wrap h.b5) 16, byteAt (IntKind.u64.wrap h.b5) 8, byteAt (IntKind.u64.wrap h.b5) 0, byteAt (IntKind.u64.wrap h.b6) 24, byteAt (IntKind.u64.wrap h.b6) 16, byteAt (IntKind.u64.wrap h.b6) 8, byteAt (IntKind.u64.wrap h.b6) 0, byteAt (IntKind.u64.wrap h.b7) 24, byteAt (IntKind.u64.wrap h.b7) 16, byteAt (IntKind.u64.wrap h.b7) 8, byteAt (IntKind.u64.wrap h.b7) 0⟩
def finB (H : Hs) : B32 := sumB (absorb H (padV H.n (padL H.n))).h
theorem padL_le (n : Int) (h : 0 ≤ n) : 1 ≤ padL n ∧ padL n ≤ 64 := by
  unfold padL
  rw [Int.tmod_eq_emod_of_nonneg h, u64_wrap, u64_wrap, Int.tmod_eq_emod_of_nonneg (by omega)]
  omega
namespace sum
noncomputable abbrev fn := Tryd.f14
noncomputable def body : Code := bodyOf fn
noncomputable def Γ : Cons Tryd.prog Gs := [app_con, wr_con]
noncomputable def s0 (own : Bool) (H : Hs) (L : Nat) : St := ⟨startT fn [.o (.a (.ptr 0 0))], [⟨own, 51, .lit (hsRow H)⟩], [(21, [.n (L : Int)])]⟩
noncomputable def e (own : Bool) (H : Hs) (L : Nat) : St := outS Γ tys 100 body (s0 own H L)
def cst (H : Hs) (L : Nat) : Cst := [IntKind.u64.wrap (1 + (IntKind.u64.wrap (119 - H.n.tmod 64)).tmod 64) = (L : Int), 0 ≤ (L : Int), (L : Int) ≤ 72, Room Tryd.prog 5 72, (0 : Int) ≤ 0, (0 : Int) < (L : Int), 1 ≤ 72, L ≤ 72, L + 8 ≤ 72, 0 + L + 8 ≤ 72,
  0 + (L + 8) ≤ (putI (0 + L) (app.sh8.map (byteAt (IntKind.u64.wrap (H.n * 8)))) 0 (putI 0 [128] 0 (List.replicate 72 0))).length, L + 8 ≤ 72, 0 ≤ H.n, 0 ≤ 32, 4 ≤ 32, 4 ≤ 32, 4 ≤ 32, 8 ≤ 32, 8 ≤ 32, 8 ≤ 32, 12 ≤ 32, 12 ≤ 32, 12 ≤ 32, 16 ≤ 32, 16 ≤ 32, 16 ≤ 32, 20 ≤ 32, 20 ≤ 32, 20 ≤ 32, 24 ≤ 32, 24 ≤ 32, 24 ≤ 32, 28 ≤ 32, 28 ≤ 32, 28 ≤ 32, 32 ≤ 32, 32 ≤ 32]
theorem ex (own : Bool) (H : Hs) (L : Nat) : exec Γ tys 100 body (s0 own H L) = some (.ret, ⟨(e own H L).tm, (e own H L).mem, (e own H L).orc⟩, cst H L) := by kernel_rfl
theorem res (own : Bool) (H : Hs) (L : Nat) : eRes tys (e own H L).tm (fun k => (e own H L).mem[k]?) fn.results.toList = some [.g ((sumB (absorb H (padV H.n L)).h).to.map (int1 .u8))] := by kernel_rfl
end sum
theorem sum_run (own : Bool) (H : Hs) (h0 : 0 ≤ H.n) : RunsF Tryd.prog Gs 1 sum.body (startT sum.fn [.o (.a (.ptr 0 0))]) [⟨own, 51, .lit (hsRow H)⟩] (EndsM tys sum.fn (endsQ (cB32.enc (finB H)) .none)) := by
  obtain ⟨h1, h2⟩ := padL_le H.n h0
  have hL : IntKind.u64.wrap (1 + (IntKind.u64.wrap (119 - H.n.tmod 64)).tmod 64) = ((padL H.n : Nat) : Int) := by
    unfold padL
    rw [Int.toNat_of_nonneg (by rw [u64_wrap]; omega)]
  refine Runs.of_exec tys_ok mixed (sum.ex own H (padL H.n)) ⟨hL, by omega, by omega, room_u8 72 (by omega), by decide, by omega, by decide, by omega, by omega, by omega, ?_, by omega, h0, ?_⟩ (EndsM.ret (sum.res own H (padL H.n)) rfl)
  · rw [putI_length, putI_length, List.length_replicate]; omega
  · refine ⟨?_, ?_, ?_, ?_, ?_, ?_, ?_, ?_, ?_, ?_, ?_, ?_, ?_, ?_, ?_, ?_, ?_, ?_, ?_, ?_, ?_, ?_, ?_, ?_, trivial⟩ <;> decide
def zeroB : B32 := ⟨0, 0, 0, 0, 0, 0, 0, 0, 0, 0, 0, 0, 0, 0, 0, 0, 0, 0, 0, 0, 0, 0, 0, 0, 0, 0, 0, 0, 0, 0, 0, 0⟩
def sum_spec : List PArg → Option (SV × LEff × Cst)
  | [.row false ty cs] => if Nat.beq ty 51 then match hsOf cs with
      | some H => some (cB32.enc (finB H), .none, [0 ≤ H.n])
      | none => none
    else none
  | [.val (.o (.a (.v (.pointer none))))] => some (cB32.enc zeroB, .none, [])
  | _ => none
/-- One argument: a hash that is read, or nil. -/
theorem row_specE {f : Hs → SV × LEff × Cst} {z : SV × LEff × Cst} {ps : List PArg} {q : SV × LEff × Cst} (h : (match ps with
  | [.row false ty cs] => if Nat.beq ty 51 then match hsOf cs with
      | some H => some (f H)
      | none => none
    else none
  | [.val (.o (.a (.v (.pointer none))))] => some z
  | _ => none) = some q) : (∃ H, ps = [.row false 51 (hsRow H)] ∧ q = f H) ∨ (ps = [.val (.o (.a (.v (.pointer none))))] ∧ q = z) := by
  split at h
  · split at h <;> try cases h
    rename_i hty
    split at h <;> cases h
    rename_i H hH
    rw [hsOf_row hH, Nat.eq_of_beq_eq_true hty]
    exact .inl ⟨H, rfl, rfl⟩
  · cases h
    exact .inr ⟨rfl, rfl⟩
  · cases h
namespace sum
noncomputable def ze : St := outS Γ tys 100 body ⟨startT fn [.o (.a (.v (.pointer none)))], [], []⟩
theorem zex : exec Γ tys 100 body ⟨startT fn [.o (.a (.v (.pointer none)))], [], []⟩ = some (.ret, ⟨ze.tm, ze.mem, []⟩, []) := by kernel_rfl
theorem zres : eRes tys ze.tm (fun k => ze.mem[k]?) fn.results.toList = some [.g (zeroB.to.map (int1 .u8))] := by kernel_rfl
end sum
noncomputable def sum_con : Con Tryd.prog Gs := Con.parts tys_ok 14 sum.fn Tryd.func14 (by kernel_rfl) (c := sum.body) (by kernel_rfl) [.row] sum_spec
  (fun ps r e p h hp => by
    rcases row_specE (f := fun H => (cB32.enc (finB H), .none, [0 ≤ H.n])) (z := (cB32.enc zeroB, .none, [])) h with ⟨H, rfl, hq⟩ | ⟨rfl, hq⟩
    · cases hq
      exact ⟨cB32.ids _, fun b hb => by simp only [locBlks, PArg.blk, List.append_nil, List.mem_singleton] at hb; rw [hb]⟩
    · cases hq
      exact ⟨cB32.ids _, fun b hb => by cases hb⟩)
  (fun ps r e p cap h hp hi => by
    rcases row_specE (f := fun H => (cB32.enc (finB H), .none, [0 ≤ H.n])) (z := (cB32.enc zeroB, .none, [])) h with ⟨H, rfl, hq⟩ | ⟨rfl, hq⟩
    · cases hq
      exact sum_run false H hp.1
    · cases hq
      exact Runs.of_exec tys_ok mixed sum.zex trivial (EndsM.ret sum.zres rfl))

/-! ### Len, Copy -/
namespace len
noncomputable abbrev fn := Tryd.f16
noncomputable def body : Code := bodyOf fn
noncomputable def e (H : Hs) : St := outS ([] : Cons Tryd.prog Gs) tys 100 body ⟨startT fn [.o (.a (.ptr 0 0))], [⟨false, 51, .lit (hsRow H)⟩], []⟩
theorem ex (H : Hs) : exec ([] : Cons Tryd.prog Gs) tys 100 body ⟨startT fn [.o (.a (.ptr 0 0))], [⟨false, 51, .lit (hsRow H)⟩], []⟩ = some (.ret, ⟨(e H).tm, (e H).mem, []⟩, []) := by kernel_rfl
theorem res (H : Hs) : eRes tys (e H).tm (fun k => (e H).mem[k]?) fn.results.toList = some [.a (int1 .u64 H.n)] := by kernel_rfl
noncomputable def ze : St := outS ([] : Cons Tryd.prog Gs) tys 100 body ⟨startT fn [.o (.a (.v (.pointer none)))], [], []⟩
theorem zex : exec ([] : Cons Tryd.prog Gs) tys 100 body ⟨startT fn [.o (.a (.v (.pointer none)))], [], []⟩ = some (.ret, ⟨ze.tm, ze.mem, []⟩, []) := by kernel_rfl
theorem zres : eRes tys ze.tm (fun k => ze.mem[k]?) fn.results.toList = some [.a (int1 .u64 0)] := by kernel_rfl
end len
def len_spec : List PArg → Option (SV × LEff × Cst)
  | [.row false ty cs] => if Nat.beq ty 51 then match hsOf cs with
      | some H => some ((cInt .u64).enc H.n, .none, [])
      | none => none
    else none
  | [.val (.o (.a (.v (.pointer none))))] => some ((cInt .u64).enc 0, .none, [])
  | _ => none
noncomputable def len_con : Con Tryd.prog Gs := Con.parts tys_ok 16 len.fn Tryd.func16 (by kernel_rfl) (c := len.body) (by kernel_rfl) [.row] len_spec
  (fun ps r e p h hp => by
    rcases row_specE (f := fun H => ((cInt .u64).enc H.n, .none, [])) (z := ((cInt .u64).enc 0, .none, [])) h with ⟨H, rfl, hq⟩ | ⟨rfl, hq⟩
    · cases hq
      exact ⟨rfl, fun b hb => by simp only [locBlks, PArg.blk, List.append_nil, List.mem_singleton] at hb; rw [hb]⟩
    · cases hq
      exact ⟨rfl, fun b hb => by cases hb⟩)
  (fun ps r e p cap h hp hi => by
    rcases row_specE (f := fun H => ((cInt .u64).enc H.n, .none, [])) (z := ((cInt .u64).enc 0, .none, [])) h with ⟨H, rfl, hq⟩ | ⟨rfl, hq⟩
    · cases hq
      exact Runs.of_exec tys_ok mixed (len.ex H) trivial (EndsM.ret (len.res H) rfl)
    · cases hq
      exact Runs.of_exec tys_ok mixed len.zex trivial (EndsM.ret len.zres rfl))
namespace copy
noncomputable abbrev fn := Tryd.f18
noncomputable def body : Code := bodyOf fn
noncomputable def e (H : Hs) : St := outS ([] : Cons Tryd.prog Gs) tys 100 body ⟨startT fn [.o (.a (.ptr 0 0))], [⟨false, 51, .lit (hsRow H)⟩], []⟩
theorem ex (H : Hs) : exec ([] : Cons Tryd.prog Gs) tys 100 body ⟨startT fn [.o (.a (.ptr 0 0))], [⟨false, 51, .lit (hsRow H)⟩], []⟩ = some (.ret, ⟨(e H).tm, (e H).mem, []⟩, []) := by kernel_rfl
theorem res (H : Hs) : eRes tys (e H).tm (fun k => (e H).mem[k]?) fn.results.toList = some [.a (.ptr 1 0)] := by kernel_rfl
theorem row (H : Hs) : (e H).mem[1]? = some ⟨true, 51, hsRow H⟩ := by kernel_rfl
noncomputable def ze : St := outS ([] : Cons Tryd.prog Gs) tys 100 body ⟨startT fn [.o (.a (.v (.pointer none)))], [], []⟩
theorem zex : exec ([] : Cons Tryd.prog Gs) tys 100 body ⟨startT fn [.o (.a (.v (.pointer none)))], [], []⟩ = some (.ret, ⟨ze.tm, ze.mem, []⟩, []) := by kernel_rfl
theorem zres : eRes tys ze.tm (fun k => ze.mem[k]?) fn.results.toList = some [.a (.v (.pointer none))] := by kernel_rfl
end copy
def copy_spec : List PArg → Option (SV × LEff × Cst)
  | [.row false ty cs] => if Nat.beq ty 51 then match hsOf cs with
      | some H => some (.o (.a (.ptr 0 0)), .new 51 (hsRow H), [])
      | none => none
    else none
  | [.val (.o (.a (.v (.pointer none))))] => some (.o (.a (.v (.pointer none))), .none, [])
  | _ => none
noncomputable def copy_con : Con Tryd.prog Gs := Con.parts tys_ok 18 copy.fn Tryd.func18 (by kernel_rfl) (c := copy.body) (by kernel_rfl) [.row] copy_spec
  (fun ps r e p h hp => by
    rcases row_specE (f := fun H => (.o (.a (.ptr 0 0)), .new 51 (hsRow H), [])) (z := (.o (.a (.v (.pointer none))), .none, [])) h with ⟨H, rfl, hq⟩ | ⟨rfl, hq⟩
    · cases hq
      exact ⟨hsRow_ids _, fun b hb => by simp only [locBlks, PArg.blk, List.append_nil, List.mem_singleton] at hb; rw [hb]⟩
    · cases hq
      exact ⟨rfl, fun b hb => by cases hb⟩)
  (fun ps r e p cap h hp hi => by
    rcases row_specE (f := fun H => (.o (.a (.ptr 0 0)), .new 51 (hsRow H), [])) (z := (.o (.a (.v (.pointer none))), .none, [])) h with ⟨H, rfl, hq⟩ | ⟨rfl, hq⟩
    · cases hq
      exact Runs.of_exec tys_ok mixed (copy.ex H) trivial (EndsM.ret (copy.res H) ⟨1, rfl, copy.row H⟩)
    · cases hq
      exact Runs.of_exec tys_ok mixed copy.zex trivial (EndsM.ret copy.zres rfl))

/-! ### Sum256 -/
namespace s256
noncomputable abbrev fn := Tryd.f17
noncomputable def body : Code := bodyOf fn
noncomputable def Γ : Cons Tryd.prog Gs := [new_con, wr_con, sum_con]
noncomputable def s0 (ys : List Int) (n c : Nat) (ty : TypeId) : St := ⟨startT fn [.o (.a (.sld 0 0 0 n c))], [⟨false, ty, .pre .u8 ys⟩], []⟩
noncomputable def e (ys : List Int) (n c : Nat) (ty : TypeId) : St := outS Γ tys 100 body (s0 ys n c ty)
theorem ex (ys : List Int) (n c : Nat) (ty : TypeId) : exec Γ tys 100 body (s0 ys n c ty) = some (.ret, ⟨(e ys n c ty).tm, (e ys n c ty).mem, []⟩, [0 + n ≤ ys.length, n ≤ c, (0 : Int) ≤ 0, 0 ≤ (absorb S0 ((ys.drop 0).take n)).n]) := by kernel_rfl
theorem res (ys : List Int) (n c : Nat) (ty : TypeId) : eRes tys (e ys n c ty).tm (fun k => (e ys n c ty).mem[k]?) fn.results.toList = some [.g ((finB (absorb S0 ((ys.drop 0).take n))).to.map (int1 .u8))] := by kernel_rfl
noncomputable def ze (a : Option Addr) : St := outS Γ tys 100 body ⟨startT fn [.o (.a (.v (.slice a 0 0)))], [], []⟩
theorem zex (a : Option Addr) : exec Γ tys 100 body ⟨startT fn [.o (.a (.v (.slice a 0 0)))], [], []⟩ = some (.ret, ⟨(ze a).tm, (ze a).mem, []⟩, [(0 : Int) ≤ 0, (0 : Int) ≤ 0]) := by kernel_rfl
theorem zres (a : Option Addr) : eRes tys (ze a).tm (fun k => (ze a).mem[k]?) fn.results.toList = some [.g ((finB S0).to.map (int1 .u8))] := by kernel_rfl
end s256
theorem s256_run (ys : List Int) (n c : Nat) (ty : TypeId) (hy : ys.length = n) (hc : n ≤ c) : RunsF Tryd.prog Gs 1 s256.body (startT s256.fn [.o (.a (.sld 0 0 0 n c))]) [⟨false, ty, .pre .u8 ys⟩] (EndsM tys s256.fn (endsQ (cB32.enc (finB (absorb S0 ys))) .none)) := by
  have e : (ys.drop 0).take n = ys := by rw [List.drop_zero, List.take_of_length_le (by omega)]
  have h := s256.res ys n c ty
  have h2 := absorb_nn ys S0 (by decide)
  have hx := s256.ex ys n c ty
  rw [e] at h hx
  exact Runs.of_exec tys_ok mixed hx ⟨by omega, hc, by decide, h2, trivial⟩ (EndsM.ret h rfl)
def s256_spec : List PArg → Option (SV × LEff × Cst)
  | [.win .u8 ys n ty] => some (cB32.enc (finB (absorb S0 ys)), .none, [])
  | [.val (.o (.a (.v (.slice _ 0 0))))] => some (cB32.enc (finB S0), .none, [])
  | _ => none
theorem win_specE {f : List Int → SV × LEff × Cst} {z : SV × LEff × Cst} {ps : List PArg} {q : SV × LEff × Cst} (h : (match ps with
  | [.win .u8 ys n ty] => some (f ys)
  | [.val (.o (.a (.v (.slice _ 0 0))))] => some z
  | _ => none) = some q) : (∃ ys n ty, ps = [.win .u8 ys n ty] ∧ q = f ys) ∨ (∃ a, ps = [.val (.o (.a (.v (.slice a 0 0))))] ∧ q = z) := by
  split at h
  · cases h; exact .inl ⟨_, _, _, rfl, rfl⟩
  · cases h; exact .inr ⟨_, rfl, rfl⟩
  · cases h
noncomputable def s256_con : Con Tryd.prog Gs := Con.parts tys_ok 17 s256.fn Tryd.func17 (by kernel_rfl) (c := s256.body) (by kernel_rfl) [.win .u8] s256_spec
  (fun ps r e p h hp => by
    rcases win_specE (f := fun ys => (cB32.enc (finB (absorb S0 ys)), .none, [])) (z := (cB32.enc (finB S0), .none, [])) h with ⟨ys, n, ty, rfl, hq⟩ | ⟨a, rfl, hq⟩
    · cases hq
      exact ⟨cB32.ids _, fun b hb => by simp only [locBlks, PArg.blk, List.append_nil, List.mem_singleton] at hb; rw [hb]⟩
    · cases hq
      exact ⟨cB32.ids _, fun b hb => by cases hb⟩)
  (fun ps r e p cap h hp hi => by
    rcases win_specE (f := fun ys => (cB32.enc (finB (absorb S0 ys)), .none, [])) (z := (cB32.enc (finB S0), .none, [])) h with ⟨ys, n, ty, rfl, hq⟩ | ⟨a, rfl, hq⟩
    · cases hq
      exact s256_run ys n _ ty hi.1.1 hi.1.2
    · cases hq
      exact Runs.of_exec tys_ok mixed (s256.zex a) ⟨by decide, by decide, trivial⟩ (EndsM.ret (s256.zres a) rfl))
end Go.Proofs.YtpmdelihcdaffaaDoor

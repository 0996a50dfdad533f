/- The laws of sha2 are awake; the law of nil hashes. -/
import Derived.Test.YtpmdelihcdaffaaDoorShaH
namespace Go.Proofs.YtpmdelihcdaffaaDoor
open Go Go.Eng Go.RowKit
set_option linter.unusedVariables false
set_option maxRecDepth 100000

def abcB : B32 := ⟨186, 120, 22, 191, 143, 1, 207, 234, 65, 65, 64, 222, 93, 174, 34, 35, 176, 3, 97, 163, 150, 23, 122, 156, 180, 16, 255, 97, 242, 0, 21, 173⟩
theorem abc_n : (absorb S0 [97, 98, 99]).n = 3 := by
  rw [absorb_n _ _ (by decide) (by decide)]
  decide
theorem abc_pad : [97, 98, 99] ++ padV 3 (padL 3) = abc.R := by kernel_rfl
theorem abc_sum : finB (absorb S0 [97, 98, 99]) = abcB := by
  unfold finB
  rw [abc_n, ← absorb_append, abc_pad, abc_h]
  kernel_rfl
namespace awake
noncomputable abbrev fn := Tryd.f11
noncomputable def body : Code := bodyOf fn
noncomputable def Γ : Cons Tryd.prog Gs := [s256_con]
noncomputable def s0 : St := ⟨startT fn [], [], [(4, [.s (cB32.enc abcB)])]⟩
noncomputable def e : St := outS Γ tys 100 body s0
theorem ex : exec Γ tys 100 body s0 = some (.ret, ⟨e.tm, e.mem, e.orc⟩, [0 + 3 ≤ 3, 3 ≤ 3, cB32.enc (finB (absorb S0 [97, 98, 99])) = cB32.enc abcB]) := by kernel_rfl
theorem res : eRes tys e.tm (fun k => e.mem[k]?) fn.results.toList = some [.a (bool1 true)] := by kernel_rfl
end awake
theorem awake_run : RunsF Tryd.prog Gs 0 awake.body (startT awake.fn []) [] (EndsM tys awake.fn (endsQ (cBool.enc true) .none)) :=
  Runs.of_exec tys_ok mixed awake.ex ⟨by decide, by decide, by rw [abc_sum], trivial⟩ (EndsM.ret awake.res rfl)
def awake_spec : List PArg → Option (SV × LEff × Cst)
  | [] => some (cBool.enc true, .none, [])
  | _ => none
noncomputable def awake_con : Con Tryd.prog Gs := Con.parts tys_ok 11 awake.fn Tryd.func11 (by kernel_rfl) (c := awake.body) (by kernel_rfl) [] awake_spec
  (fun ps r e p h hp => by
    unfold awake_spec at h
    split at h <;> cases h
    exact ⟨rfl, fun b hb => by cases hb⟩)
  (fun ps r e p cap h hp hi => by
    unfold awake_spec at h
    split at h <;> cases h
    exact awake_run)
/-! ### The law of nil hashes -/
namespace lnil
noncomputable abbrev fn := Tryd.f5
noncomputable def body : Code := bodyOf fn
noncomputable def Γ : Cons Tryd.prog Gs := [awake_con, wr_con, sum_con, len_con, copy_con]
noncomputable def s0 (ys : List Int) (n c : Nat) (ty : TypeId) : St := ⟨startT fn [.o (.a (.sld 0 0 0 n c))], [⟨false, ty, .pre .u8 ys⟩], []⟩
noncomputable def e (ys : List Int) (n c : Nat) (ty : TypeId) : St := outS Γ tys 100 body (s0 ys n c ty)
theorem ex (ys : List Int) (n c : Nat) (ty : TypeId) : exec Γ tys 100 body (s0 ys n c ty) = some (.ret, ⟨(e ys n c ty).tm, (e ys n c ty).mem, []⟩, [0 + n ≤ ys.length, n ≤ c]) := by kernel_rfl
theorem res (ys : List Int) (n c : Nat) (ty : TypeId) : eRes tys (e ys n c ty).tm (fun k => (e ys n c ty).mem[k]?) fn.results.toList = some [.a (bool1 true)] := by kernel_rfl
noncomputable def ze (a : Option Addr) : St := outS Γ tys 100 body ⟨startT fn [.o (.a (.v (.slice a 0 0)))], [], []⟩
theorem zex (a : Option Addr) : exec Γ tys 100 body ⟨startT fn [.o (.a (.v (.slice a 0 0)))], [], []⟩ = some (.ret, ⟨(ze a).tm, (ze a).mem, []⟩, []) := by kernel_rfl
theorem zres (a : Option Addr) : eRes tys (ze a).tm (fun k => (ze a).mem[k]?) fn.results.toList = some [.a (bool1 true)] := by kernel_rfl
end lnil
/-- The law's call, whatever the slice. -/
theorem nil_ok (x : SArg) (W : World) (hx : x.ok .u8 W) (hg : GlobOk Gs W) : Calls Tryd.prog 5 #[x.val] W fun e W' => e = .returned (.bool true) ∧ Below W.heap.size W W' := by
  refine law_slices tys_ok Tryd.func5 (c := lnil.body) (by kernel_rfl) hg .u8 [x] (fun y hy => by simp only [List.mem_singleton] at hy; rw [hy]; exact hx) (r := cBool.enc true) rfl fun hi => ?_
  cases x with
  | none a => exact Runs.of_exec tys_ok mixed (lnil.zex a) trivial (EndsM.ret (lnil.zres a) rfl)
  | win ys n c ty L =>
    have h1 : ys.length = n := hi.1.1
    exact Runs.of_exec tys_ok mixed (lnil.ex ys n _ ty) ⟨by omega, hi.1.2, trivial⟩ (EndsM.ret (lnil.res ys n _ ty) rfl)
end Go.Proofs.YtpmdelihcdaffaaDoor

/- Package field: so many squares. -/
import Derived.Test.YtmfobbdgmedhdaaFieldP
namespace Go.Proofs.Ytmfobbdgmedhdaa
open Go Go.Eng
set_option linter.unusedVariables false
set_option maxRecDepth 100000


def sqF : Nat → E5 → E5
  | 0, e => e
  | n + 1, e => timesF (sqF n e) (sqF n e)

namespace squared
noncomputable abbrev fn := Try.f87
noncomputable def body : Code := bodyOf fn
noncomputable def A : Code := cs1 body
noncomputable def B : Code := cs1 (cs1 (cs2 body))
noncomputable def L : Code := cL (cB (cs2 (cs1 (cs2 body))))
noncomputable def C : Code := cs2 (cs2 body)
theorem body_eq : body = .seq A (.seq (.seq B (.block 0 (.loop L))) C) := by kernel_rfl
noncomputable def Γ : Cons Try.prog := [times_con]
structure X where
  i : Int
  e : E5
  g : Nat → SV
def S (e0 : E5) (n : Int) (x : X) : List SV × List Blk :=
  ([cE5.enc e0, (cInt .i64).enc n, .o (.a (.ptr 0 0)), undefS, .o (.a (.ptr 1 0)), (cInt .i64).enc n, (cInt .i64).enc x.i, x.g 7, x.g 8, x.g 9, x.g 10, x.g 11, undefS],
   [⟨true, 40, cE5.row x.e⟩, ⟨true, 40, cE5.row ⟨0, 0, 0, 0, 0⟩⟩])
def st (e0 : E5) (n : Int) (x : X) (o : Orc) : St := ⟨(S e0 n x).1, (S e0 n x).2, o⟩
noncomputable def s0 (e0 : E5) (n : Int) : St := ⟨startT fn [cE5.enc e0, (cInt .i64).enc n], [], []⟩
theorem preA (e0 : E5) (n : Int) : exec Γ tys 100 A (s0 e0 n) = some (.normal, outS Γ tys 100 A (s0 e0 n), []) := by kernel_rfl
theorem preB (e0 : E5) (n : Int) : exec Γ tys 100 B (outS Γ tys 100 A (s0 e0 n)) = some (.normal, st e0 n ⟨0, e0, fun _ => undefS⟩ [], []) := by kernel_rfl
theorem round (e0 : E5) (n : Int) (x : X) : exec Γ tys 100 L (st e0 n x [(7, [true])]) =
    some (.normal, st e0 n ⟨IntKind.i64.wrap (x.i + 1), timesF x.e x.e, outT Γ tys 100 L (st e0 n x [(7, [true])])⟩ [(7, [])], [decide (x.i < n) = true]) := by kernel_rfl
theorem last (e0 : E5) (n : Int) (x : X) : exec Γ tys 100 L (st e0 n x [(7, [false])]) =
    some (.exit 0, st e0 n ⟨x.i, x.e, outT Γ tys 100 L (st e0 n x [(7, [false])])⟩ [(7, [])], [decide (x.i < n) = false]) := by kernel_rfl
def fin (e0 : E5) (n : Int) (x : X) : St := ⟨[cE5.enc e0, (cInt .i64).enc n, .o (.a (.ptr 0 0)), undefS, .o (.a (.ptr 1 0)), (cInt .i64).enc n, (cInt .i64).enc x.i, x.g 7, x.g 8, x.g 9, x.g 10, x.g 11, cE5.enc x.e],
   [⟨true, 40, cE5.row x.e⟩, ⟨true, 40, cE5.row x.e⟩], []⟩
theorem post (e0 : E5) (n : Int) (x : X) : exec Γ tys 100 C (st e0 n x []) = some (.ret, fin e0 n x, []) := by kernel_rfl
theorem result (e0 : E5) (n : Int) (x : X) : eRes tys (fin e0 n x).tm (fun k => (fin e0 n x).mem[k]?) fn.results.toList = some [.g (cE5.row x.e)] := by kernel_rfl
end squared

theorem wrap_i64_in {n : Int} (h0 : -9223372036854775808 ≤ n) (h1 : n < 9223372036854775808) : IntKind.i64.wrap n = n := by
  rw [IntKind.wrap_i64]; omega

theorem squared_any (e : E5) (n : Int) (h0 : 0 ≤ n) (h1 : n < 9223372036854775807) : FnOk Try.prog 87 [cE5.enc e, (cInt .i64).enc n] (cE5.enc (sqF n.toNat e)) := by
  refine FnOk.of_runs tys_ok Try.func87 (c := squared.body) (by kernel_rfl) ?_ rfl rfl
  rw [squared.body_eq]
  refine Runs.seq (Runs.of_exec tys_ok mixed (squared.preA e n) trivial ?_)
  refine Runs.seq (Runs.seq (Runs.of_exec tys_ok mixed (squared.preB e n) trivial ?_))
  refine Runs.block ?_
  refine Runs.loop (squared.S e n) (fun x => ∃ k : Nat, x.i = k ∧ (k : Int) ≤ n ∧ x.e = sqF k e) (fun x => (n - x.i).toNat) ?_ ⟨0, e, fun _ => undefS⟩ ⟨0, rfl, h0, rfl⟩
  rintro x ⟨k, hi, hk, he⟩
  by_cases hlt : x.i < n
  · refine Runs.of_exec tys_ok mixed (squared.round e n x) ⟨by simpa using hlt, trivial⟩ ?_
    have hw : IntKind.i64.wrap (x.i + 1) = x.i + 1 := wrap_i64_in (by omega) (by omega)
    refine ⟨_, rfl, ⟨k + 1, by simp only [hw]; omega, by omega, by simp only [he]; rfl⟩, by simp only [hw]; omega⟩
  · refine Runs.of_exec tys_ok mixed (squared.last e n x) ⟨by simpa using hlt, trivial⟩ ?_
    show Runs Try.prog squared.C _ _ _
    refine Runs.of_exec tys_ok mixed (squared.post e n _) trivial (Ends.ret (squared.result e n _) ?_)
    have : k = n.toNat := by omega
    rw [← this, ← he]
    rfl

abbrev Idx := Fin 9223372036854775807
def cIdx : Cod Idx where
  enc k := (cInt .i64).enc k.val
  dec
    | .o (.a (.v (.int .i64 n))) => if h : 0 ≤ n ∧ n < 9223372036854775807 then some ⟨n.toNat, by omega⟩ else none
    | _ => none
  ok x a h := by
    split at h <;> try cases h
    split at h <;> cases h
    rename_i hn
    simp only [Int.toNat_of_nonneg hn.1]
    rfl
  ids _ := rfl
theorem squared_fn (e : E5) (k : Idx) : FnOk Try.prog 87 [cE5.enc e, cIdx.enc k] (cE5.enc (sqF k.val e)) := by
  have h := squared_any e k.val (by omega) (by have := k.isLt; omega)
  rw [Int.toNat_natCast] at h
  exact h
def squared_con : Con Try.prog := con2 87 Try.f87 Try.func87 (by kernel_rfl) (by kernel_rfl) (cE5) (cIdx) (fun e k => cE5.enc (sqF k.val e)) (fun _ _ => []) (fun _ _ => rfl) (fun e k _ => squared_fn e k)

def pairE (a b : E5) : SV := .t [.g (cE5.row a), .g (cE5.row b)]
def e9F (e : E5) : E5 := timesF (sqF 2 (sqF 1 e)) e
def e11F (e : E5) : E5 := timesF (e9F e) (sqF 1 e)
def x5F (e : E5) : E5 := timesF (sqF 1 (e11F e)) (e9F e)
def x10F (e : E5) : E5 := timesF (sqF 5 (x5F e)) (x5F e)
def x20F (e : E5) : E5 := timesF (sqF 10 (x10F e)) (x10F e)
def x40F (e : E5) : E5 := timesF (sqF 20 (x20F e)) (x20F e)
def x50F (e : E5) : E5 := timesF (sqF 10 (x40F e)) (x10F e)
def x100F (e : E5) : E5 := timesF (sqF 50 (x50F e)) (x50F e)
def x200F (e : E5) : E5 := timesF (sqF 100 (x100F e)) (x100F e)
def x250F (e : E5) : E5 := timesF (sqF 50 (x200F e)) (x50F e)
theorem chain_fn (e : E5) : FnOk Try.prog 86 [(cE5).enc e] (pairE (x250F e) (e11F e)) :=
  FnOk.of_out (Γ := [squared_con, times_con]) tys_ok mixed Try.func86 (n := 100) (orc := []) (cs := []) (by kernel_rfl) trivial rfl rfl
def chain_con : Con Try.prog := con1 86 Try.f86 Try.func86 (by kernel_rfl) (by kernel_rfl) (cE5) (fun e => pairE (x250F e) (e11F e)) (fun _ => []) (fun _ => rfl) (fun e _ => chain_fn e)
def invF (e : E5) : E5 := timesF (sqF 5 (x250F e)) (e11F e)
theorem inverse_fn (e : E5) : FnOk Try.prog 53 [(cE5).enc e] (cE5.enc (invF e)) :=
  FnOk.of_out (Γ := [chain_con, squared_con, times_con]) tys_ok mixed Try.func53 (n := 100) (orc := []) (cs := []) (by kernel_rfl) trivial rfl rfl
def inverse_con : Con Try.prog := con1 53 Try.f53 Try.func53 (by kernel_rfl) (by kernel_rfl) (cE5) (fun e => cE5.enc (invF e)) (fun _ => []) (fun _ => rfl) (fun e _ => inverse_fn e)
def pow58F (e : E5) : E5 := timesF (sqF 2 (x250F e)) e
theorem power58_fn (e : E5) : FnOk Try.prog 88 [(cE5).enc e] (cE5.enc (pow58F e)) :=
  FnOk.of_out (Γ := [chain_con, squared_con, times_con]) tys_ok mixed Try.func88 (n := 100) (orc := []) (cs := []) (by kernel_rfl) trivial rfl rfl
def power58_con : Con Try.prog := con1 88 Try.f88 Try.func88 (by kernel_rfl) (by kernel_rfl) (cE5) (fun e => cE5.enc (pow58F e)) (fun _ => []) (fun _ => rfl) (fun e _ => power58_fn e)
def eqI : List Int → List Int → Bool
  | x :: xs, y :: ys => (x == y) && eqI xs ys
  | _, _ => true
def eqB (a b : B32) : Bool := eqI a.to b.to
def isF (e f : E5) : Bool := eqB (bytesF e) (bytesF f)
theorem is_fn (e : E5) (f : E5) : FnOk Try.prog 89 [(cE5).enc e, (cE5).enc f] (cBool.enc (isF e f)) :=
  FnOk.of_out (Γ := [bytes_con]) tys_ok mixed Try.func89 (n := 100) (orc := []) (cs := []) (by kernel_rfl) trivial rfl rfl
def is_con : Con Try.prog := con2 89 Try.f89 Try.func89 (by kernel_rfl) (by kernel_rfl) (cE5) (cE5) (fun e f => cBool.enc (isF e f)) (fun _ _ => []) (fun _ _ => rfl) (fun e f _ => is_fn e f)
def oddF (e : E5) : Bool := (bits .and .u8 (bytesF e).b0 1) == 1
theorem odd_fn (e : E5) : FnOk Try.prog 91 [(cE5).enc e] (cBool.enc (oddF e)) :=
  FnOk.of_out (Γ := [bytes_con]) tys_ok mixed Try.func91 (n := 100) (orc := []) (cs := []) (by kernel_rfl) trivial rfl rfl
def odd_con : Con Try.prog := con1 91 Try.f91 Try.func91 (by kernel_rfl) (by kernel_rfl) (cE5) (fun e => cBool.enc (oddF e)) (fun _ => []) (fun _ => rfl) (fun e _ => odd_fn e)
theorem one_fn : FnOk Try.prog 55 [] (cE5.enc oneE) :=
  FnOk.of_out (Γ := []) tys_ok mixed Try.func55 (n := 100) (orc := []) (cs := []) (by kernel_rfl) trivial rfl rfl
def one_con : Con Try.prog := con0 55 Try.f55 Try.func55 (by kernel_rfl) (by kernel_rfl) (cE5.enc oneE) [] rfl (fun _ => one_fn)
theorem rootM1_fn : FnOk Try.prog 90 [] (cE5.enc rootM1E) :=
  FnOk.of_out (Γ := []) tys_ok mixed Try.func90 (n := 100) (orc := []) (cs := []) (by kernel_rfl) trivial rfl rfl
def rootM1_con : Con Try.prog := con0 90 Try.f90 Try.func90 (by kernel_rfl) (by kernel_rfl) (cE5.enc rootM1E) [] rfl (fun _ => rootM1_fn)

def zeroE : E5 := ⟨0, 0, 0, 0, 0⟩
def v3F (v : E5) : E5 := timesF (sqF 1 v) v
def ratio0 (u v : E5) : E5 := timesF (timesF u (v3F v)) (pow58F (timesF (timesF u (sqF 1 (v3F v))) v))
def ratio1 (u v : E5) : E5 := match isF (timesF v (sqF 1 (ratio0 u v))) u with
  | true => ratio0 u v
  | false => timesF (ratio0 u v) rootM1E
def ratio2 (u v : E5) : E5 := match oddF (ratio1 u v) with
  | true => minusF zeroE (ratio1 u v)
  | false => ratio1 u v
def ratioOk (u v : E5) : Bool := isF (timesF v (sqF 1 (ratio1 u v))) u
def flagE (e : E5) (b : Bool) : SV := .t [.g (cE5.row e), .a (bool1 b)]
theorem ratio_fn (u v : E5) : FnOk Try.prog 54 [cE5.enc u, cE5.enc v] (flagE (ratio2 u v) (ratioOk u v)) := by
  have key : ∀ b1 b2, isF (timesF v (sqF 1 (ratio0 u v))) u = b1 →
      oddF (match b1 with | true => ratio0 u v | false => timesF (ratio0 u v) rootM1E) = b2 →
      FnOk Try.prog 54 [cE5.enc u, cE5.enc v]
        (flagE (match b2 with
            | true => minusF zeroE (match b1 with | true => ratio0 u v | false => timesF (ratio0 u v) rootM1E)
            | false => match b1 with | true => ratio0 u v | false => timesF (ratio0 u v) rootM1E)
          (isF (timesF v (sqF 1 (match b1 with | true => ratio0 u v | false => timesF (ratio0 u v) rootM1E))) u)) := by
    intro b1 b2 h1 h2
    cases b1 <;> cases b2
    · exact FnOk.of_out (Γ := [squared_con, times_con, power58_con, is_con, rootM1_con, odd_con, minus_con]) tys_ok mixed Try.func54 (n := 100) (orc := [(30, [false]), (40, [false])])
        (cs := [isF (timesF v (sqF 1 (ratio0 u v))) u = false, oddF (timesF (ratio0 u v) rootM1E) = false]) (by kernel_rfl) ⟨h1, h2, trivial⟩ rfl rfl
    · exact FnOk.of_out (Γ := [squared_con, times_con, power58_con, is_con, rootM1_con, odd_con, minus_con]) tys_ok mixed Try.func54 (n := 100) (orc := [(30, [false]), (40, [true])])
        (cs := [isF (timesF v (sqF 1 (ratio0 u v))) u = false, oddF (timesF (ratio0 u v) rootM1E) = true]) (by kernel_rfl) ⟨h1, h2, trivial⟩ rfl rfl
    · exact FnOk.of_out (Γ := [squared_con, times_con, power58_con, is_con, rootM1_con, odd_con, minus_con]) tys_ok mixed Try.func54 (n := 100) (orc := [(30, [true]), (40, [false])])
        (cs := [isF (timesF v (sqF 1 (ratio0 u v))) u = true, oddF (ratio0 u v) = false]) (by kernel_rfl) ⟨h1, h2, trivial⟩ rfl rfl
    · exact FnOk.of_out (Γ := [squared_con, times_con, power58_con, is_con, rootM1_con, odd_con, minus_con]) tys_ok mixed Try.func54 (n := 100) (orc := [(30, [true]), (40, [true])])
        (cs := [isF (timesF v (sqF 1 (ratio0 u v))) u = true, oddF (ratio0 u v) = true]) (by kernel_rfl) ⟨h1, h2, trivial⟩ rfl rfl
  exact key _ _ rfl rfl
def ratio_con : Con Try.prog := con2 54 Try.f54 Try.func54 (by kernel_rfl) (by kernel_rfl) (cE5) (cE5) (fun u v => flagE (ratio2 u v) (ratioOk u v)) (fun _ _ => []) (fun _ _ => rfl) (fun u v _ => ratio_fn u v)

theorem canonical_fn (a : B32) : FnOk Try.prog 19 [(cB32).enc a] (cBool.enc (eqB (bytesF (ofF a)) a)) :=
  FnOk.of_out (Γ := [of_con, bytes_con]) tys_ok mixed Try.func19 (n := 100) (orc := []) (cs := []) (by kernel_rfl) trivial rfl rfl
def canonical_con : Con Try.prog := con1 19 Try.f19 Try.func19 (by kernel_rfl) (by kernel_rfl) (cB32) (fun a => cBool.enc (eqB (bytesF (ofF a)) a)) (fun _ => []) (fun _ => rfl) (fun a _ => canonical_fn a)
theorem fadd_fn (a : B32) (b : B32) : FnOk Try.prog 15 [(cB32).enc a, (cB32).enc b] (cB32.enc (bytesF (plusF (ofF a) (ofF b)))) :=
  FnOk.of_out (Γ := [of_con, plus_con, bytes_con]) tys_ok mixed Try.func15 (n := 100) (orc := []) (cs := []) (by kernel_rfl) trivial rfl rfl
def fadd_con : Con Try.prog := con2 15 Try.f15 Try.func15 (by kernel_rfl) (by kernel_rfl) (cB32) (cB32) (fun a b => cB32.enc (bytesF (plusF (ofF a) (ofF b)))) (fun _ _ => []) (fun _ _ => rfl) (fun a b _ => fadd_fn a b)
theorem fsub_fn (a : B32) (b : B32) : FnOk Try.prog 17 [(cB32).enc a, (cB32).enc b] (cB32.enc (bytesF (minusF (ofF a) (ofF b)))) :=
  FnOk.of_out (Γ := [of_con, minus_con, bytes_con]) tys_ok mixed Try.func17 (n := 100) (orc := []) (cs := []) (by kernel_rfl) trivial rfl rfl
def fsub_con : Con Try.prog := con2 17 Try.f17 Try.func17 (by kernel_rfl) (by kernel_rfl) (cB32) (cB32) (fun a b => cB32.enc (bytesF (minusF (ofF a) (ofF b)))) (fun _ _ => []) (fun _ _ => rfl) (fun a b _ => fsub_fn a b)
theorem fmul_fn (a : B32) (b : B32) : FnOk Try.prog 16 [(cB32).enc a, (cB32).enc b] (cB32.enc (bytesF (timesF (ofF a) (ofF b)))) :=
  FnOk.of_out (Γ := [of_con, times_con, bytes_con]) tys_ok mixed Try.func16 (n := 100) (orc := []) (cs := []) (by kernel_rfl) trivial rfl rfl
def fmul_con : Con Try.prog := con2 16 Try.f16 Try.func16 (by kernel_rfl) (by kernel_rfl) (cB32) (cB32) (fun a b => cB32.enc (bytesF (timesF (ofF a) (ofF b)))) (fun _ _ => []) (fun _ _ => rfl) (fun a b _ => fmul_fn a b)
theorem finv_fn (a : B32) : FnOk Try.prog 18 [(cB32).enc a] (cB32.enc (bytesF (invF (ofF a)))) :=
  FnOk.of_out (Γ := [of_con, inverse_con, bytes_con]) tys_ok mixed Try.func18 (n := 100) (orc := []) (cs := []) (by kernel_rfl) trivial rfl rfl
def finv_con : Con Try.prog := con1 18 Try.f18 Try.func18 (by kernel_rfl) (by kernel_rfl) (cB32) (fun a => cB32.enc (bytesF (invF (ofF a)))) (fun _ => []) (fun _ => rfl) (fun a _ => finv_fn a)
def zeroB : B32 := ⟨0, 0, 0, 0, 0, 0, 0, 0, 0, 0, 0, 0, 0, 0, 0, 0, 0, 0, 0, 0, 0, 0, 0, 0, 0, 0, 0, 0, 0, 0, 0, 0⟩
def flagB (b : B32) (e : Int) : SV := .t [.g (cB32.row b), .a (int1 .i64 e)]
def sqrtB (a : B32) : B32 := match ratioOk (ofF a) oneE with
  | true => bytesF (ratio2 (ofF a) oneE)
  | false => zeroB
def sqrtE (a : B32) : Int := match ratioOk (ofF a) oneE with
  | true => 0
  | false => 4
theorem fsqrt_fn (a : B32) : FnOk Try.prog 20 [cB32.enc a] (flagB (sqrtB a) (sqrtE a)) := by
  unfold sqrtB sqrtE
  cases h : ratioOk (ofF a) oneE with
  | true => exact FnOk.of_out (Γ := [of_con, one_con, ratio_con, bytes_con]) tys_ok mixed Try.func20 (n := 100) (orc := [(12, [true])]) (cs := [ratioOk (ofF a) oneE = true]) (by kernel_rfl) ⟨h, trivial⟩ rfl rfl
  | false => exact FnOk.of_out (Γ := [of_con, one_con, ratio_con, bytes_con]) tys_ok mixed Try.func20 (n := 100) (orc := [(12, [false])]) (cs := [ratioOk (ofF a) oneE = false]) (by kernel_rfl) ⟨h, trivial⟩ rfl rfl
def fsqrt_con : Con Try.prog := con1 20 Try.f20 Try.func20 (by kernel_rfl) (by kernel_rfl) (cB32) (fun a => flagB (sqrtB a) (sqrtE a)) (fun _ => []) (fun _ => rfl) (fun a _ => fsqrt_fn a)
end Go.Proofs.Ytmfobbdgmedhdaa

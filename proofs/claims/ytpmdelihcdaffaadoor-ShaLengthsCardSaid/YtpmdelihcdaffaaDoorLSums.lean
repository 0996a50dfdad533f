/- The law of hashes: walked; its content. -/
import Derived.Test.YtpmdelihcdaffaaDoorR512B
import Derived.Test.YtpmdelihcdaffaaDoorLCop
import Derived.Test.YtpmdelihcdaffaaDoorCCop
namespace Go.Proofs.YtpmdelihcdaffaaDoor
open Go Go.Eng Go.RowKit
set_option linter.unusedVariables false
set_option linter.unusedSimpArgs false
set_option maxRecDepth 100000

namespace lsums
noncomputable abbrev fn := Tryd.f7
noncomputable def body : Code := bodyOf fn
noncomputable def Γ : Cons Tryd.prog G2 := [awake_con.lift gs_g2, s256_con.lift gs_g2, r256_con.lift gs_g2, s512_con, r512_con]
namespace w
noncomputable def e (ys : List Int) (n c : Nat) (ty : TypeId) (A : B32) (D : B64) : St := outS Γ tys 100 body ⟨startT fn [.o (.a (.sld 0 0 0 n c))], [⟨false, ty, .pre .u8 ys⟩], [(6, [.s (cB32.enc A)]), (8, [.s (cB32.enc A)]), (9, [.b true]), (12, [.s (cB64.enc D)]), (14, [.s (cB64.enc D)]), (15, [.b true])]⟩
theorem ex (ys : List Int) (n c : Nat) (ty : TypeId) (A : B32) (D : B64) : exec Γ tys 100 body ⟨startT fn [.o (.a (.sld 0 0 0 n c))], [⟨false, ty, .pre .u8 ys⟩], [(6, [.s (cB32.enc A)]), (8, [.s (cB32.enc A)]), (9, [.b true]), (12, [.s (cB64.enc D)]), (14, [.s (cB64.enc D)]), (15, [.b true])]⟩ = some (.ret, ⟨(e ys n c ty A D).tm, (e ys n c ty A D).mem, (e ys n c ty A D).orc⟩, [0 + n ≤ ys.length, n ≤ c, cB32.enc (finB (absorb S0 ((ys.drop 0).take n))) = cB32.enc A, 0 + n ≤ ys.length, n ≤ c, n ≤ 140737488354000, ∀ y ∈ ((ys.drop 0).take n), Byt y, cB32.enc (refB ((ys.drop 0).take n)) = cB32.enc A, lcop.selfEq A.to = true, 0 + n ≤ ys.length, n ≤ c, cB64.enc (s512V ((ys.drop 0).take n)) = cB64.enc D, 0 + n ≤ ys.length, n ≤ c, n ≤ 140737488354000, cB64.enc (s512V ((ys.drop 0).take n)) = cB64.enc D, lcop.selfEq D.to = true]) := by kernel_rfl
theorem res (ys : List Int) (n c : Nat) (ty : TypeId) (A : B32) (D : B64) : eRes tys (e ys n c ty A D).tm (fun k => (e ys n c ty A D).mem[k]?) fn.results.toList = some [.a (bool1 true)] := by kernel_rfl
theorem walk (ys : List Int) (n c : Nat) (ty : TypeId) (hy : ys.length = n) (hc : n ≤ c) (hb : ∀ y ∈ ys, Byt y) (hn : n ≤ 140737488354000) : RunsF Tryd.prog G2 1 body (startT fn [.o (.a (.sld 0 0 0 n c))]) [⟨false, ty, .pre .u8 ys⟩] (EndsM tys fn (endsQ (cBool.enc true) .none)) := by
  have e0 : (ys.drop 0).take n = ys := by rw [List.drop_zero, List.take_of_length_le (by omega)]
  have hx := ex ys n c ty (refB ys) (s512V ys)
  rw [e0] at hx
  exact Runs.of_exec tys_ok mixed hx ⟨by omega, hc, by rw [ref_eq _ (by omega)], by omega, hc, hn, hb, rfl, lcop.selfEq_true _, by omega, hc, rfl, by omega, hc, hn, rfl, lcop.selfEq_true _, trivial⟩ (EndsM.ret (res ys n c ty _ _) rfl)
end w
namespace n
noncomputable def e (a : Option Addr) (A : B32) (D : B64) : St := outS Γ tys 100 body ⟨startT fn [.o (.a (.v (.slice a 0 0)))], [], [(6, [.s (cB32.enc A)]), (8, [.s (cB32.enc A)]), (9, [.b true]), (12, [.s (cB64.enc D)]), (14, [.s (cB64.enc D)]), (15, [.b true])]⟩
theorem ex (a : Option Addr) (A : B32) (D : B64) : exec Γ tys 100 body ⟨startT fn [.o (.a (.v (.slice a 0 0)))], [], [(6, [.s (cB32.enc A)]), (8, [.s (cB32.enc A)]), (9, [.b true]), (12, [.s (cB64.enc D)]), (14, [.s (cB64.enc D)]), (15, [.b true])]⟩ = some (.ret, ⟨(e a A D).tm, (e a A D).mem, (e a A D).orc⟩, [cB32.enc (finB (absorb S0 [])) = cB32.enc A, cB32.enc (refB []) = cB32.enc A, lcop.selfEq A.to = true, cB64.enc (s512V []) = cB64.enc D, cB64.enc (s512V []) = cB64.enc D, lcop.selfEq D.to = true]) := by kernel_rfl
theorem res (a : Option Addr) (A : B32) (D : B64) : eRes tys (e a A D).tm (fun k => (e a A D).mem[k]?) fn.results.toList = some [.a (bool1 true)] := by kernel_rfl
theorem walk (a : Option Addr) : RunsF Tryd.prog G2 0 body (startT fn [.o (.a (.v (.slice a 0 0)))]) [] (EndsM tys fn (endsQ (cBool.enc true) .none)) := by
  have hx := ex a (refB []) (s512V [])
  exact Runs.of_exec tys_ok mixed hx ⟨by rw [ref_eq _ (by decide)], rfl, lcop.selfEq_true _, rfl, rfl, lcop.selfEq_true _, trivial⟩ (EndsM.ret (res a _ _) rfl)
end n
end lsums
theorem sums_ok (x0 : SArg) (W : World) (h0 : x0.ok .u8 W) (b0 : x0.ints.length ≤ 140737488351232) (hg : GlobOk G2 W) :
    Calls Tryd.prog 7 #[x0.val] W fun e W' => e = .returned (.bool true) ∧ Below W.heap.size W W' := by
  have g0 := sarg_byt h0
  refine law_slices tys_ok Tryd.func7 (c := lsums.body) (by kernel_rfl) hg .u8 [x0] (fun y hy => by simp only [List.mem_cons, List.not_mem_nil, or_false] at hy; rcases hy with rfl; assumption) (r := cBool.enc true) rfl fun hi => ?_
  cases x0 with
  | none a0 => exact lsums.n.walk a0
  | win y0 n0 c0 ty0 L0 => exact lsums.w.walk y0 n0 _ ty0 hi.1.1 hi.1.2 g0 (by have := hi.1.1; have b : y0.length ≤ 140737488351232 := b0; omega)
end Go.Proofs.YtpmdelihcdaffaaDoor

/- The law of verified signatures: walked; its content. -/
import Derived.Test.YthbhmmndggkmaaaGreatDoorME
import Derived.Test.YthbhmmndggkmaaaGreatDoorEDoor
import Derived.Test.YthbhmmndggkmaaaGreatDoorMW
namespace Go.Proofs.YthbhmmndggkmaaaGreatDoor
open Go Go.Eng Go.RowKit
set_option linter.unusedVariables false
set_option linter.unusedSimpArgs false
set_option maxRecDepth 100000

namespace lver
noncomputable abbrev fn := Tryz.f3
noncomputable def body : Code := bodyOf fn
noncomputable def Γ (V : B32 → List Int → B64 → Int) (hV : V = verV) : Cons Tryz.prog G2 := [awake_con, ver.con V hV, rver.con V hV]
theorem exw (V : B32 → List Int → B64 → Int) (hV : V = verV) (b : B32) (D : B64) (r : Int) (ys : List Int) (n c : Nat) (ty : TypeId) : runOutM (Γ V hV) tys fn 100 [⟨false, ty, .pre .u8 ys⟩] [cB32.enc b, .o (.a (.sld 0 0 0 n c)), cB64.enc D] [(12, [.s ((cInt .i64).enc r)]), (16, [.s ((cInt .i64).enc r)]), (17, [.b true])] = some (cBool.enc true, [0 + n ≤ ys.length, n ≤ c, ∀ i, 0 ≤ (hi64 D).at i ∧ (hi64 D).at i < 256, n ≤ 140737488353900, (cInt .i64).enc (V b ((ys.drop 0).take n) D) = (cInt .i64).enc r, 0 + n ≤ ys.length, n ≤ c, BOk b, BOk (hi64 D), n ≤ 140737488353900, (cInt .i64).enc (V b ((ys.drop 0).take n) D) = (cInt .i64).enc r, (r == r) = true]) := by kernel_rfl
theorem runw (b : B32) (D : B64) (hB : BOk b) (hD : BOk (hi64 D)) (ys : List Int) (n c : Nat) (ty : TypeId) (hy : ys.length = n) (hc : n ≤ c) (hn : n ≤ 140737488353900) : RunsF Tryz.prog G2 1 body (startT fn [cB32.enc b, .o (.a (.sld 0 0 0 n c)), cB64.enc D]) ([⟨false, ty, .pre .u8 ys⟩]) (EndsM tys fn (endsQ (cBool.enc true) .none)) := by
  have hb : fn.body = some body := by kernel_rfl
  exact runs_of_out tys_ok mixed hb (exw verV rfl b D (verV b ys D) ys n c ty) ⟨(by omega), (hc), (fun i => hD i), (hn), (by rw [dt0 ys n hy]), (by omega), (hc), (hB), (hD), (hn), (by rw [dt0 ys n hy]), (beq_self_eq_true _), (trivial)⟩
theorem exv (V : B32 → List Int → B64 → Int) (hV : V = verV) (b : B32) (D : B64) (r : Int) (a : Option Addr) : runOutM (Γ V hV) tys fn 100 [] [cB32.enc b, .o (.a (.v (.slice a 0 0))), cB64.enc D] [(12, [.s ((cInt .i64).enc r)]), (16, [.s ((cInt .i64).enc r)]), (17, [.b true])] = some (cBool.enc true, [∀ i, 0 ≤ (hi64 D).at i ∧ (hi64 D).at i < 256, (cInt .i64).enc (V b [] D) = (cInt .i64).enc r, BOk b, BOk (hi64 D), (cInt .i64).enc (V b [] D) = (cInt .i64).enc r, (r == r) = true]) := by kernel_rfl
theorem runv (b : B32) (D : B64) (hB : BOk b) (hD : BOk (hi64 D)) (a : Option Addr) : RunsF Tryz.prog G2 0 body (startT fn [cB32.enc b, .o (.a (.v (.slice a 0 0))), cB64.enc D]) ([]) (EndsM tys fn (endsQ (cBool.enc true) .none)) := by
  have hb : fn.body = some body := by kernel_rfl
  exact runs_of_out tys_ok mixed hb (exv verV rfl b D (verV b [] D) a) ⟨(fun i => hD i), (rfl), (hB), (hD), (rfl), (beq_self_eq_true _), (trivial)⟩
end lver
theorem hi_ok {D : B64} (h : ∀ i, 0 ≤ D.at i ∧ D.at i < 256) : BOk (hi64 D) := by
  intro i
  unfold hi64 B32.at
  split
  · exact h 32
  · exact h 33
  · exact h 34
  · exact h 35
  · exact h 36
  · exact h 37
  · exact h 38
  · exact h 39
  · exact h 40
  · exact h 41
  · exact h 42
  · exact h 43
  · exact h 44
  · exact h 45
  · exact h 46
  · exact h 47
  · exact h 48
  · exact h 49
  · exact h 50
  · exact h 51
  · exact h 52
  · exact h 53
  · exact h 54
  · exact h 55
  · exact h 56
  · exact h 57
  · exact h 58
  · exact h 59
  · exact h 60
  · exact h 61
  · exact h 62
  · exact h 63
theorem lver_ok (b : B32) (x0 : SArg) (D : B64) (W : World) (hb : BOk b) (h0 : x0.ok .u8 W) (hD : ∀ i, 0 ≤ D.at i ∧ D.at i < 256) (b0 : x0.ints.length ≤ 140737488351232) (hg : GlobOk G2 W) :
    Calls Tryz.prog 3 #[(cB32.enc b).den lam0, x0.val, (cB64.enc D).den lam0] W fun e W' => e = .returned (.bool true) ∧ Below W.heap.size W W' := by
  refine law_mix tys_ok Tryz.func3 (c := lver.body) (by kernel_rfl) hg .u8 [cB32.enc b] [x0] [cB64.enc D] (fun v hv => by simp only [List.mem_cons, List.not_mem_nil, or_false] at hv; rw [hv]; exact cB32.ids _) (fun v hv => by simp only [List.mem_cons, List.not_mem_nil, or_false] at hv; rw [hv]; exact cB64.ids _) (fun y hy => by simp only [List.mem_cons, List.not_mem_nil, or_false] at hy; rcases hy with rfl; assumption) (r := cBool.enc true) rfl fun hi => ?_
  cases x0 with
  | none a0 => exact lver.runv b D hb (hi_ok hD) a0
  | win y0 n0 c0 ty0 L0 => exact lver.runw b D hb (hi_ok hD) y0 n0 _ ty0 hi.1.1 hi.1.2 (by have := hi.1.1; have b : y0.length ≤ 140737488351232 := b0; omega)
end Go.Proofs.YthbhmmndggkmaaaGreatDoor

/- The law of accepted signatures: walked; its content. -/
import Derived.Test.YthbhmmndggkmaaaDoorME
import Derived.Test.YthbhmmndggkmaaaDoorEDoor
import Derived.Test.YthbhmmndggkmaaaDoorMV
namespace Go.Proofs.YthbhmmndggkmaaaDoor
open Go Go.Eng Go.RowKit
set_option linter.unusedVariables false
set_option linter.unusedSimpArgs false
set_option maxRecDepth 100000

namespace lacc
noncomputable abbrev fn := Tryd.f4
noncomputable def body : Code := bodyOf fn
noncomputable def Γ (Z : B32 → List Int → B64) (hZ : Z = sigV) (V : B32 → List Int → B64 → Int) (hV : V = verV) : Cons Tryd.prog G2 := [awake_con, public_con, sgn.con Z hZ, ver.con V hV]
theorem exw (Z : B32 → List Int → B64) (hZ : Z = sigV) (V : B32 → List Int → B64 → Int) (hV : V = verV) (b p : B32) (D : B64) (ys : List Int) (n c : Nat) (ty : TypeId) : runOutM (Γ Z hZ V hV) tys fn 100 [⟨false, ty, .pre .u8 ys⟩] [cB32.enc b, .o (.a (.sld 0 0 0 n c))] [(8, [.s (cB32.enc p)]), (12, [.s (cB64.enc D)]), (13, [.s ((cInt .i64).enc 0)])] = some (cBool.enc true, [cB32.enc (pubV b) = cB32.enc p, 0 + n ≤ ys.length, n ≤ c, n ≤ 140737488353900, cB64.enc (Z b ((ys.drop 0).take n)) = cB64.enc D, 0 + n ≤ ys.length, n ≤ c, ∀ i, 0 ≤ (hi64 D).at i ∧ (hi64 D).at i < 256, n ≤ 140737488353900, (cInt .i64).enc (V p ((ys.drop 0).take n) D) = (cInt .i64).enc 0]) := by kernel_rfl
theorem runw (b : B32) (ys : List Int) (n c : Nat) (ty : TypeId) (hy : ys.length = n) (hc : n ≤ c) (hn : n ≤ 140737488353900) : RunsF Tryd.prog G2 1 body (startT fn [cB32.enc b, .o (.a (.sld 0 0 0 n c))]) [⟨false, ty, .pre .u8 ys⟩] (EndsM tys fn (endsQ (cBool.enc true) .none)) := by
  have hb : fn.body = some body := by kernel_rfl
  have e := dt0 ys n hy
  exact runs_of_out tys_ok mixed hb (exw sigV rfl verV rfl b (pubV b) (sigV b ys) ys n c ty) ⟨(rfl), (by omega), (hc), (hn), (by rw [e]), (by omega), (hc), (sig_byte b ys), (hn), (by rw [e, ver_sig]), (trivial)⟩
theorem exv (Z : B32 → List Int → B64) (hZ : Z = sigV) (V : B32 → List Int → B64 → Int) (hV : V = verV) (b p : B32) (D : B64) (a : Option Addr) : runOutM (Γ Z hZ V hV) tys fn 100 [] [cB32.enc b, .o (.a (.v (.slice a 0 0)))] [(8, [.s (cB32.enc p)]), (12, [.s (cB64.enc D)]), (13, [.s ((cInt .i64).enc 0)])] = some (cBool.enc true, [cB32.enc (pubV b) = cB32.enc p, cB64.enc (Z b []) = cB64.enc D, ∀ i, 0 ≤ (hi64 D).at i ∧ (hi64 D).at i < 256, (cInt .i64).enc (V p [] D) = (cInt .i64).enc 0]) := by kernel_rfl
theorem runv (b : B32) (a : Option Addr) : RunsF Tryd.prog G2 0 body (startT fn [cB32.enc b, .o (.a (.v (.slice a 0 0)))]) [] (EndsM tys fn (endsQ (cBool.enc true) .none)) := by
  have hb : fn.body = some body := by kernel_rfl
  exact runs_of_out tys_ok mixed hb (exv sigV rfl verV rfl b (pubV b) (sigV b []) a) ⟨(rfl), (rfl), (sig_byte b []), (by rw [ver_sig]), (trivial)⟩
end lacc
theorem acc_ok (b : B32) (x0 : SArg) (W : World) (hb : BOk b) (h0 : x0.ok .u8 W) (b0 : x0.ints.length ≤ 140737488351232) (hg : GlobOk G2 W) :
    Calls Tryd.prog 4 #[(cB32.enc b).den lam0, x0.val] W fun e W' => e = .returned (.bool true) ∧ Below W.heap.size W W' := by
  refine law_mix tys_ok Tryd.func4 (c := lacc.body) (by kernel_rfl) hg .u8 [cB32.enc b] [x0] [] (fun v hv => by simp only [List.mem_cons, List.not_mem_nil, or_false] at hv; rw [hv]; exact cB32.ids _) (fun v hv => by cases hv) (fun y hy => by simp only [List.mem_cons, List.not_mem_nil, or_false] at hy; rcases hy with rfl; assumption) (r := cBool.enc true) rfl fun hi => ?_
  cases x0 with
  | none a0 => exact lacc.runv b a0
  | win y0 n0 c0 ty0 L0 => exact lacc.runw b y0 n0 _ ty0 hi.1.1 hi.1.2 (by have := hi.1.1; have b : y0.length ≤ 140737488351232 := b0; omega)
end Go.Proofs.YthbhmmndggkmaaaDoor

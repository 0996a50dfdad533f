/- The law of signatures: walked; its content. -/
import Derived.Test.YthbhmmndggkmaaaDoorME
import Derived.Test.YthbhmmndggkmaaaDoorEDoor
namespace Go.Proofs.YthbhmmndggkmaaaDoor
open Go Go.Eng Go.RowKit
set_option linter.unusedVariables false
set_option linter.unusedSimpArgs false
set_option maxRecDepth 100000

/-- A row equals itself. -/
def selfEq : List Int → Bool
  | [] => true
  | x :: l => (x == x) && selfEq l
theorem selfEq_true : ∀ l, selfEq l = true
  | [] => rfl
  | x :: l => by simp [selfEq, selfEq_true l]
namespace lsgn
noncomputable abbrev fn := Tryd.f3
noncomputable def body : Code := bodyOf fn
noncomputable def Γ (Z : B32 → List Int → B64) (hZ : Z = sigV) : Cons Tryd.prog G2 := [awake_con, public_con, rpublic_con, sgn.con Z hZ, rsgn.con Z hZ]
theorem exw (Z : B32 → List Int → B64) (hZ : Z = sigV) (b p : B32) (D : B64) (ys : List Int) (n c : Nat) (ty : TypeId) : runOutM (Γ Z hZ) tys fn 100 [⟨false, ty, .pre .u8 ys⟩] [cB32.enc b, .o (.a (.sld 0 0 0 n c))] [(8, [.s (cB32.enc p)]), (10, [.s (cB32.enc p)]), (11, [.b true]), (15, [.s (cB64.enc D)]), (18, [.s (cB64.enc D)]), (19, [.b true])] = some (cBool.enc true, [cB32.enc (pubV b) = cB32.enc p, cB32.enc (pubV b) = cB32.enc p, selfEq p.to = true, 0 + n ≤ ys.length, n ≤ c, n ≤ 140737488353900, cB64.enc (Z b ((ys.drop 0).take n)) = cB64.enc D, 0 + n ≤ ys.length, n ≤ c, n ≤ 140737488353900, cB64.enc (Z b ((ys.drop 0).take n)) = cB64.enc D, selfEq D.to = true]) := by kernel_rfl
theorem runw (b : B32) (ys : List Int) (n c : Nat) (ty : TypeId) (hy : ys.length = n) (hc : n ≤ c) (hn : n ≤ 140737488353900) : RunsF Tryd.prog G2 1 body (startT fn [cB32.enc b, .o (.a (.sld 0 0 0 n c))]) [⟨false, ty, .pre .u8 ys⟩] (EndsM tys fn (endsQ (cBool.enc true) .none)) := by
  have hb : fn.body = some body := by kernel_rfl
  have e := dt0 ys n hy
  exact runs_of_out tys_ok mixed hb (exw sigV rfl b (pubV b) (sigV b ys) ys n c ty) ⟨(rfl), (rfl), (selfEq_true _), (by omega), (hc), (hn), (by rw [e]), (by omega), (hc), (hn), (by rw [e]), (selfEq_true _), (trivial)⟩
theorem exv (Z : B32 → List Int → B64) (hZ : Z = sigV) (b p : B32) (D : B64) (a : Option Addr) : runOutM (Γ Z hZ) tys fn 100 [] [cB32.enc b, .o (.a (.v (.slice a 0 0)))] [(8, [.s (cB32.enc p)]), (10, [.s (cB32.enc p)]), (11, [.b true]), (15, [.s (cB64.enc D)]), (18, [.s (cB64.enc D)]), (19, [.b true])] = some (cBool.enc true, [cB32.enc (pubV b) = cB32.enc p, cB32.enc (pubV b) = cB32.enc p, selfEq p.to = true, cB64.enc (Z b []) = cB64.enc D, cB64.enc (Z b []) = cB64.enc D, selfEq D.to = true]) := by kernel_rfl
theorem runv (b : B32) (a : Option Addr) : RunsF Tryd.prog G2 0 body (startT fn [cB32.enc b, .o (.a (.v (.slice a 0 0)))]) [] (EndsM tys fn (endsQ (cBool.enc true) .none)) := by
  have hb : fn.body = some body := by kernel_rfl
  exact runs_of_out tys_ok mixed hb (exv sigV rfl b (pubV b) (sigV b []) a) ⟨(rfl), (rfl), (selfEq_true _), (rfl), (rfl), (selfEq_true _), (trivial)⟩
end lsgn
theorem sgn_ok (b : B32) (x0 : SArg) (W : World) (hb : BOk b) (h0 : x0.ok .u8 W) (b0 : x0.ints.length ≤ 140737488351232) (hg : GlobOk G2 W) :
    Calls Tryd.prog 3 #[(cB32.enc b).den lam0, x0.val] W fun e W' => e = .returned (.bool true) ∧ Below W.heap.size W W' := by
  refine law_mix tys_ok Tryd.func3 (c := lsgn.body) (by kernel_rfl) hg .u8 [cB32.enc b] [x0] [] (fun v hv => by simp only [List.mem_cons, List.not_mem_nil, or_false] at hv; rw [hv]; exact cB32.ids _) (fun v hv => by cases hv) (fun y hy => by simp only [List.mem_cons, List.not_mem_nil, or_false] at hy; rcases hy with rfl; assumption) (r := cBool.enc true) rfl fun hi => ?_
  cases x0 with
  | none a0 => exact lsgn.runv b a0
  | win y0 n0 c0 ty0 L0 => exact lsgn.runw b y0 n0 _ ty0 hi.1.1 hi.1.2 (by have := hi.1.1; have b : y0.length ≤ 140737488351232 := b0; omega)
end Go.Proofs.YthbhmmndggkmaaaDoor

/- The law of accepted proofs: walked; its content. -/
import Derived.Test.YthbhmmndggkmaaaDoorMU
import Derived.Test.YthbhmmndggkmaaaDoorEDoor
namespace Go.Proofs.YthbhmmndggkmaaaDoor
open Go Go.Eng Go.RowKit
set_option linter.unusedVariables false
set_option linter.unusedSimpArgs false
set_option maxRecDepth 100000

namespace lvac
noncomputable abbrev fn := Tryd.f9
noncomputable def body : Code := bodyOf fn
noncomputable def Γ (R : B32 → List Int → SV) (hR : R = prvR) (X : B32 → List Int → B80 → B64) (hX : X = vfX) (E : B32 → List Int → B80 → Int) (hE : E = vfE) : Cons Tryd.prog G2 := [awake6_con, prv.con R hR, rpublic_con, vfy.con X hX E hE, vOut_con]
theorem exwn (R : B32 → List Int → SV) (hR : R = prvR) (X : B32 → List Int → B80 → B64) (hX : X = vfX) (E : B32 → List Int → B80 → Int) (hE : E = vfE) (b : B32) (ys : List Int) (n c : Nat) (ty : TypeId) : runOutM (Γ R hR X hX E hE) tys fn 100 [⟨false, ty, .pre .u8 ys⟩] [cB32.enc b, .o (.a (.sld 0 0 0 n c))] [(16, [.s (pairP zeroB80 4)])] = some (cBool.enc true, [0 + n ≤ ys.length, n ≤ c, n ≤ 140737488353900, R b ((ys.drop 0).take n) = pairP zeroB80 4]) := by kernel_rfl
theorem exwy (R : B32 → List Int → SV) (hR : R = prvR) (X : B32 → List Int → B80 → B64) (hX : X = vfX) (E : B32 → List Int → B80 → Int) (hE : E = vfE) (b q : B32) (D : B80) (x : B64) (ys : List Int) (n c : Nat) (ty : TypeId) : runOutM (Γ R hR X hX E hE) tys fn 100 [⟨false, ty, .pre .u8 ys⟩] [cB32.enc b, .o (.a (.sld 0 0 0 n c))] [(16, [.s (pairP D 0)]), (25, [.s (cB32.enc q)]), (28, [.s (pairO x 0)]), (33, [.s (pairO x 0)]), (45, [.b true])] = some (cBool.enc true, [0 + n ≤ ys.length, n ≤ c, n ≤ 140737488353900, R b ((ys.drop 0).take n) = pairP D 0, cB32.enc (pubV b) = cB32.enc q, 0 + n ≤ ys.length, n ≤ c, D.Ok, n ≤ 140737488353900, pairO (X q ((ys.drop 0).take n) D) (E q ((ys.drop 0).take n) D) = pairO x 0, ∀ i, 0 ≤ (t80 D).at i ∧ (t80 D).at i < 256, outSV D = pairO x 0, sameL x.to = true]) := by kernel_rfl
theorem runw (b : B32) (ys : List Int) (n c : Nat) (ty : TypeId) (hy : ys.length = n) (hc : n ≤ c) (hn : n ≤ 140737488353900) : RunsF Tryd.prog G2 1 body (startT fn [cB32.enc b, .o (.a (.sld 0 0 0 n c))]) ([⟨false, ty, .pre .u8 ys⟩]) (EndsM tys fn (endsQ (cBool.enc true) .none)) := by
  have hb : fn.body = some body := by kernel_rfl
  have e := dt0 ys n hy
  cases h : inOk (pubV b) ys with
  | false =>
    have h1 : prvR b ys = pairP zeroB80 4 := by unfold prvR; rw [h, cond_false]
    exact runs_of_out tys_ok mixed hb (exwn prvR rfl vfX rfl vfE rfl b ys n c ty) ⟨by omega, hc, hn, by rw [e]; exact h1, trivial⟩
  | true =>
    have h1 : prvR b ys = pairP (prfV b ys) 0 := by unfold prvR; rw [h, cond_true]
    obtain ⟨h2, h3⟩ := vfy_acc h
    exact runs_of_out tys_ok mixed hb (exwy prvR rfl vfX rfl vfE rfl b (pubV b) (prfV b ys) (outV (decP (pgV b ys))) ys n c ty) ⟨by omega, hc, hn, by rw [e]; exact h1, rfl, by omega, hc, prf_ok h, hn, by rw [e]; rw [← vfyR_pair]; exact h2, (prf_ok h).2.2, h3, sameL_true _, trivial⟩
theorem exvn (R : B32 → List Int → SV) (hR : R = prvR) (X : B32 → List Int → B80 → B64) (hX : X = vfX) (E : B32 → List Int → B80 → Int) (hE : E = vfE) (b : B32) (a : Option Addr) : runOutM (Γ R hR X hX E hE) tys fn 100 [] [cB32.enc b, .o (.a (.v (.slice a 0 0)))] [(16, [.s (pairP zeroB80 4)])] = some (cBool.enc true, [R b [] = pairP zeroB80 4]) := by kernel_rfl
theorem exvy (R : B32 → List Int → SV) (hR : R = prvR) (X : B32 → List Int → B80 → B64) (hX : X = vfX) (E : B32 → List Int → B80 → Int) (hE : E = vfE) (b q : B32) (D : B80) (x : B64) (a : Option Addr) : runOutM (Γ R hR X hX E hE) tys fn 100 [] [cB32.enc b, .o (.a (.v (.slice a 0 0)))] [(16, [.s (pairP D 0)]), (25, [.s (cB32.enc q)]), (28, [.s (pairO x 0)]), (33, [.s (pairO x 0)]), (45, [.b true])] = some (cBool.enc true, [R b [] = pairP D 0, cB32.enc (pubV b) = cB32.enc q, D.Ok, pairO (X q [] D) (E q [] D) = pairO x 0, ∀ i, 0 ≤ (t80 D).at i ∧ (t80 D).at i < 256, outSV D = pairO x 0, sameL x.to = true]) := by kernel_rfl
theorem runv (b : B32) (a : Option Addr) : RunsF Tryd.prog G2 0 body (startT fn [cB32.enc b, .o (.a (.v (.slice a 0 0)))]) ([]) (EndsM tys fn (endsQ (cBool.enc true) .none)) := by
  have hb : fn.body = some body := by kernel_rfl
  cases h : inOk (pubV b) [] with
  | false =>
    have h1 : prvR b [] = pairP zeroB80 4 := by unfold prvR; rw [h, cond_false]
    exact runs_of_out tys_ok mixed hb (exvn prvR rfl vfX rfl vfE rfl b a) ⟨by exact h1, trivial⟩
  | true =>
    have h1 : prvR b [] = pairP (prfV b []) 0 := by unfold prvR; rw [h, cond_true]
    obtain ⟨h2, h3⟩ := vfy_acc h
    exact runs_of_out tys_ok mixed hb (exvy prvR rfl vfX rfl vfE rfl b (pubV b) (prfV b []) (outV (decP (pgV b []))) a) ⟨by exact h1, rfl, prf_ok h, by rw [← vfyR_pair]; exact h2, (prf_ok h).2.2, h3, sameL_true _, trivial⟩
end lvac
theorem vac_ok (b : B32) (x0 : SArg) (W : World) (hb : BOk b) (h0 : x0.ok .u8 W) (b0 : x0.ints.length ≤ 140737488351232) (hg : GlobOk G2 W) :
    Calls Tryd.prog 9 #[(cB32.enc b).den lam0, x0.val] W fun e W' => e = .returned (.bool true) ∧ Below W.heap.size W W' := by
  refine law_mix tys_ok Tryd.func9 (c := lvac.body) (by kernel_rfl) hg .u8 [cB32.enc b] [x0] [] (fun v hv => by simp only [List.mem_cons, List.not_mem_nil, or_false] at hv; rw [hv]; exact cB32.ids _) (fun v hv => by cases hv) (fun y hy => by simp only [List.mem_cons, List.not_mem_nil, or_false] at hy; rcases hy with rfl; assumption) (r := cBool.enc true) rfl fun hi => ?_
  cases x0 with
  | none a0 => exact lvac.runv b a0
  | win y0 n0 c0 ty0 L0 => exact lvac.runw b y0 n0 _ ty0 hi.1.1 hi.1.2 (by have := hi.1.1; have b : y0.length ≤ 140737488351232 := b0; omega)
end Go.Proofs.YthbhmmndggkmaaaDoor

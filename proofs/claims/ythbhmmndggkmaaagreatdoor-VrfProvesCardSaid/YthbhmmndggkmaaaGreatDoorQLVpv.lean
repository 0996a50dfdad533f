/- The law VrfProves: walked; its content. -/
import Derived.Test.YthbhmmndggkmaaaGreatDoorQMU
import Derived.Test.YthbhmmndggkmaaaGreatDoorQRVrB
import Derived.Test.YthbhmmndggkmaaaGreatDoorQEDoor
namespace Go.Proofs.YthbhmmndggkmaaaGreatDoor
open Go Go.Eng Go.RowKit
set_option linter.unusedVariables false
set_option linter.unusedSimpArgs false
set_option maxRecDepth 100000
namespace lvpv
noncomputable abbrev fn := Tryz.f5
noncomputable def body : Code := bodyOf fn
noncomputable def Γ (R : B32 → List Int → SV) (hR : R = prvR) : Cons Tryz.prog G2 := [awake6_con, prv.con R hR, rprv.con R hR, vOut_con, rOut_con]
theorem exw (R : B32 → List Int → SV) (hR : R = prvR) (b : B32) (D : B80) (e f : Int) (x : B64) (ys : List Int) (n c : Nat) (ty : TypeId) : runOutM (Γ R hR) tys fn 100 [⟨false, ty, .pre .u8 ys⟩] [cB32.enc b, .o (.a (.sld 0 0 0 n c))] [(18, [.s (pairP D e)]), (24, [.s (pairP D e)]), (29, [.s (pairO x f)]), (34, [.s (pairO x f)]), (39, [.b true]), (43, [.b true]), (48, [.b true]), (53, [.b true])] = some (cBool.enc true, [0 + n ≤ ys.length, n ≤ c, n ≤ 140737488353900, R b ((ys.drop 0).take n) = pairP D e, 0 + n ≤ ys.length, n ≤ c, n ≤ 140737488353900, R b ((ys.drop 0).take n) = pairP D e, ∀ i, 0 ≤ (t80 D).at i ∧ (t80 D).at i < 256, outSV D = pairO x f, D.Ok, outSV D = pairO x f, sameL D.to = true, (e == e) = true, sameL x.to = true, (f == f) = true]) := by kernel_rfl
theorem runw (b : B32) (ys : List Int) (n c : Nat) (ty : TypeId) (hy : ys.length = n) (hc : n ≤ c) (hn : n ≤ 140737488353900) : RunsF Tryz.prog G2 1 body (startT fn [cB32.enc b, .o (.a (.sld 0 0 0 n c))]) ([⟨false, ty, .pre .u8 ys⟩]) (EndsM tys fn (endsQ (cBool.enc true) .none)) := by
  have hb : fn.body = some body := by kernel_rfl
  have e := dt0 ys n hy
  obtain ⟨D, f, hp, hk⟩ := prv_ex b ys
  have hoX : ∃ x f, outSV D = pairO x f := by
    unfold outSV
    cases okV D
    · exact ⟨_, _, rfl⟩
    · exact ⟨_, _, rfl⟩
  obtain ⟨x, f', ho⟩ := hoX
  exact runs_of_out tys_ok mixed hb (exw prvR rfl b D f f' x ys n c ty) ⟨(by omega), (hc), (hn), (by rw [e]; exact hp), (by omega), (hc), (hn), (by rw [e]; exact hp), (hk.2.2), (ho), (hk), (ho), (sameL_true _), (beq_self_eq_true _), (sameL_true _), (beq_self_eq_true _), (trivial)⟩
theorem exv (R : B32 → List Int → SV) (hR : R = prvR) (b : B32) (D : B80) (e f : Int) (x : B64) (a : Option Addr) : runOutM (Γ R hR) tys fn 100 [] [cB32.enc b, .o (.a (.v (.slice a 0 0)))] [(18, [.s (pairP D e)]), (24, [.s (pairP D e)]), (29, [.s (pairO x f)]), (34, [.s (pairO x f)]), (39, [.b true]), (43, [.b true]), (48, [.b true]), (53, [.b true])] = some (cBool.enc true, [R b [] = pairP D e, R b [] = pairP D e, ∀ i, 0 ≤ (t80 D).at i ∧ (t80 D).at i < 256, outSV D = pairO x f, D.Ok, outSV D = pairO x f, sameL D.to = true, (e == e) = true, sameL x.to = true, (f == f) = true]) := by kernel_rfl
theorem runv (b : B32) (a : Option Addr) : RunsF Tryz.prog G2 0 body (startT fn [cB32.enc b, .o (.a (.v (.slice a 0 0)))]) ([]) (EndsM tys fn (endsQ (cBool.enc true) .none)) := by
  have hb : fn.body = some body := by kernel_rfl
  obtain ⟨D, f, hp, hk⟩ := prv_ex b []
  have hoX : ∃ x f, outSV D = pairO x f := by
    unfold outSV
    cases okV D
    · exact ⟨_, _, rfl⟩
    · exact ⟨_, _, rfl⟩
  obtain ⟨x, f', ho⟩ := hoX
  exact runs_of_out tys_ok mixed hb (exv prvR rfl b D f f' x a) ⟨(by exact hp), (by exact hp), (hk.2.2), (ho), (hk), (ho), (sameL_true _), (beq_self_eq_true _), (sameL_true _), (beq_self_eq_true _), (trivial)⟩
end lvpv
theorem vpv_ok (b : B32) (x0 : SArg) (W : World) (hb : BOk b) (h0 : x0.ok .u8 W) (b0 : x0.ints.length ≤ 140737488351232) (hg : GlobOk G2 W) :
    Calls Tryz.prog 5 #[(cB32.enc b).den lam0, x0.val] W fun e W' => e = .returned (.bool true) ∧ Below W.heap.size W W' := by
  refine law_mix tys_ok Tryz.func5 (c := lvpv.body) (by kernel_rfl) hg .u8 [cB32.enc b] [x0] [] (fun v hv => by simp only [List.mem_cons, List.not_mem_nil, or_false] at hv; rw [hv]; exact cB32.ids _) (fun v hv => by cases hv) (fun y hy => by simp only [List.mem_cons, List.not_mem_nil, or_false] at hy; rcases hy with rfl; assumption) (r := cBool.enc true) rfl fun hi => ?_
  cases x0 with
  | none a0 => exact lvpv.runv b a0
  | win y0 n0 c0 ty0 L0 => exact lvpv.runw b y0 n0 _ ty0 hi.1.1 hi.1.2 (by have := hi.1.1; have b : y0.length ≤ 140737488351232 := b0; omega)
end Go.Proofs.YthbhmmndggkmaaaGreatDoor

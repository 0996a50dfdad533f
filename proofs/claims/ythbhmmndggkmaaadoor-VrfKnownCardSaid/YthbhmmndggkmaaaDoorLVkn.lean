/- The law of RFC 9381's example 16: walked; its content. -/
import Derived.Test.YthbhmmndggkmaaaDoorMU
import Derived.Test.YthbhmmndggkmaaaDoorEDoor
namespace Go.Proofs.YthbhmmndggkmaaaDoor
open Go Go.Eng Go.RowKit
set_option linter.unusedVariables false
set_option linter.unusedSimpArgs false
set_option maxRecDepth 100000

theorem tK_byt : ∀ i, 0 ≤ (t80 prfK).at i ∧ (t80 prfK).at i < 256 := fun i => tK_ok i
namespace lvkn
noncomputable abbrev fn := Tryd.f7
noncomputable def body : Code := bodyOf fn
noncomputable def Γ (R : B32 → List Int → SV) (hR : R = prvR) : Cons Tryd.prog G2 := [seed6_con, prv.con R hR, vOut_con, awake6_con]
theorem ex (R : B32 → List Int → SV) (hR : R = prvR) : runOutM (Γ R hR) tys fn 100 [] [] [(8, [.s (pairP prfK 0)]), (13, [.s (pairO k5d 0)])] = some (cBool.enc true, [R seedK [] = pairP prfK 0, ∀ i, 0 ≤ (t80 prfK).at i ∧ (t80 prfK).at i < 256, outSV prfK = pairO k5d 0]) := by kernel_rfl
theorem run : RunsF Tryd.prog G2 0 body (startT fn []) [] (EndsM tys fn (endsQ (cBool.enc true) .none)) := by
  have hb : fn.body = some body := by kernel_rfl
  exact runs_of_out tys_ok mixed hb (ex prvR rfl) ⟨prv_k, tK_byt, out_k, trivial⟩
end lvkn
theorem vkn_ok (W : World) (hg : GlobOk G2 W) :
    Calls Tryd.prog 7 #[] W fun e W' => e = .returned (.bool true) ∧ Below W.heap.size W W' := by
  refine law_mix tys_ok Tryd.func7 (c := lvkn.body) (by kernel_rfl) hg .u8 [] [] [] (fun v hv => by cases hv) (fun v hv => by cases hv) (fun y hy => by cases hy) (r := cBool.enc true) rfl fun hi => ?_
  exact lvkn.run
end Go.Proofs.YthbhmmndggkmaaaDoor

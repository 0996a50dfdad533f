/- Packages beaconref03, beaconref05: Canonical, Verify: walks, contracts. -/
import Derived.Test.YthbhmmndggkmaaaGreatDoorQMJ
import Derived.Test.YthbhmmndggkmaaaGreatDoorQMV
import Derived.Test.YthbhmmndggkmaaaGreatDoorQMA
import Derived.Test.YthbhmmndggkmaaaGreatDoorQMF
import Derived.Test.YthbhmmndggkmaaaGreatDoorQMD
namespace Go.Proofs.YthbhmmndggkmaaaGreatDoor
open Go Go.Eng Go.RowKit
set_option linter.unusedVariables false
set_option linter.unusedSimpArgs false
set_option maxRecDepth 100000
namespace sfr
noncomputable abbrev fn := Tryz.f80
noncomputable def body : Code := bodyOf fn
theorem ex (b : B32) (ty : TypeId) : runOutM ([] : Cons Tryz.prog GX) tys fn 100 [⟨false, ty, .lit (cB32.row b)⟩] [.o (.a (.slc 0 0 32 32))] [] = some (cN4.enc (fromN b), []) := by kernel_rfl
theorem run (b : B32) (ty : TypeId) : RunsF Tryz.prog GX 1 body (startT fn [.o (.a (.slc 0 0 32 32))]) [⟨false, ty, .lit (cB32.row b)⟩] (EndsM tys fn (endsQ (cN4.enc (fromN b)) .none)) := by
  have hb : fn.body = some body := by kernel_rfl
  exact runs_of_out tys_ok mixed hb (ex b ty) trivial
end sfr
noncomputable def sfrom_con : Con Tryz.prog GX := Con.hand tys_ok 80 sfr.fn Tryz.func80 (by kernel_rfl) (c := sfr.body) (by kernel_rfl) (Dec.slc Tryz.prog 32 cB32 (fun b => cN4.enc (fromN b)) (fun _ => []) (fun _ => rfl)) (fun x hc _ => sfr.run x.1 x.2)
theorem rcan_ex (b : B32) (v : N4) (t : Bool) : runOut [sfrom_con, sorder_con, sbelow_con] tys Tryz.f32 100 [cB32.enc b] [(4, [.s (cN4.enc v)]), (6, [.s (cBool.enc t)])] = some (cBool.enc t, [cN4.enc (fromN b) = cN4.enc v, cBool.enc (belowW v o4) = cBool.enc t]) := by kernel_rfl
theorem canR {b : B32} (hb : BOk b) : belowW (fromN b) o4 = canV b := by
  obtain ⟨h1, h2⟩ := fromN_val hb
  have ho : N4Ok o4 := o4_ok
  have hv : N4V o4 = ordI := by decide
  have hc := NV_cast hb
  have hl := ordI_cast
  cases h : canV b with
  | true =>
    have := (canV_iff hb).1 h
    exact (belowW_iff h1 ho).2 (by rw [h2, hv]; omega)
  | false =>
    cases h3 : belowW (fromN b) o4 with
    | false => rfl
    | true =>
      have h4 := (belowW_iff h1 ho).1 h3
      rw [h2, hv] at h4
      have := (canV_iff hb).2 (by omega)
      rw [h] at this
      cases this
theorem rcan_fn (b : B32) (hb : BOk b) : FnOk Tryz.prog GX 32 [cB32.enc b] (cBool.enc (canV b)) := by
  rw [← canR hb]
  exact FnOk.of_out tys_ok mixed Tryz.func32 (rcan_ex b (fromN b) (belowW (fromN b) o4)) ⟨rfl, rfl, trivial⟩ rfl rfl
noncomputable def rcan_con : Con Tryz.prog GX := con1 32 Tryz.f32 Tryz.func32 (by kernel_rfl) (by kernel_rfl) cB32 (fun b => cBool.enc (canV b)) (fun b => [BOk b]) (fun _ => rfl) (fun b h => rcan_fn b h.1)
theorem small_key {b : B32} (hb : BOk b) : errOf (qOk b) = (bif decOk b then 0 else 2) ∧ (decOk b = true → qsmallF b = eqB (encP (clrP (decP b))) zeroPt) := by
  rw [qOk_eq hb]
  refine ⟨by cases decOk b <;> rfl, fun h => ?_⟩
  obtain ⟨q, hq⟩ := pt_of hb h
  rw [← all_small hb, small_val hq]
  unfold pclearB
  rw [h]
end Go.Proofs.YthbhmmndggkmaaaGreatDoor
/- Rows of 64 bytes among a law's arguments. -/

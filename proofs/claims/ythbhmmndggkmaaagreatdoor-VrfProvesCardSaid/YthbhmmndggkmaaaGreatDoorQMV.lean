/- Packages scalar, eddsa: Canonical, Verify. -/
import Derived.Test.YthbhmmndggkmaaaGreatDoorQME
import Derived.Test.YthbhmmndggkmaaaGreatDoorQMF
namespace Go.Proofs.YthbhmmndggkmaaaGreatDoor
open Go Go.Eng Go.RowKit
set_option linter.unusedVariables false
set_option linter.unusedSimpArgs false
set_option maxRecDepth 100000
noncomputable def canV (b : B32) : Bool := eqB (bytes4 (redW b.at 4 4)) b
theorem scanon_ex (b : B32) (v : N4) (d : B32) (t : Bool) : runOut [screduce_con, scbytes_con] tys Tryz.f24 100 [cB32.enc b] [(4, [.s (cN4.enc v)]), (5, [.s (cB32.enc d)]), (7, [.b t])] = some (cBool.enc t, [∀ i, 0 ≤ b.at i ∧ b.at i < 256, cN4.enc (redW b.at 4 4) = cN4.enc v, cB32.enc (bytes4 v) = cB32.enc d, eqB d b = t]) := by kernel_rfl
theorem scanon_fn (b : B32) (h : ∀ i, 0 ≤ b.at i ∧ b.at i < 256) : FnOk Tryz.prog G2 24 [cB32.enc b] (cBool.enc (canV b)) :=
  FnOk.of_out tys_ok mixed Tryz.func24 (scanon_ex b (redW b.at 4 4) (bytes4 (redW b.at 4 4)) (canV b)) ⟨h, rfl, rfl, rfl, trivial⟩ rfl rfl
noncomputable def scanon_con : Con Tryz.prog G2 := con1 24 Tryz.f24 Tryz.func24 (by kernel_rfl) (by kernel_rfl) cB32 (fun b => cBool.enc (canV b)) (fun b => [∀ i, 0 ≤ b.at i ∧ b.at i < 256]) (fun _ => rfl) (fun b h => scanon_fn b h.1)
def lo64 (D : B64) : B32 := ⟨D.b0, D.b1, D.b2, D.b3, D.b4, D.b5, D.b6, D.b7, D.b8, D.b9, D.b10, D.b11, D.b12, D.b13, D.b14, D.b15, D.b16, D.b17, D.b18, D.b19, D.b20, D.b21, D.b22, D.b23, D.b24, D.b25, D.b26, D.b27, D.b28, D.b29, D.b30, D.b31⟩
end Go.Proofs.YthbhmmndggkmaaaGreatDoor
/- The generator's order is a prime; a clamped number's multiple is not small. Plain arithmetic, no program. -/
/- What is signed is verified; the same with L more is not of the form. Plain arithmetic, no program. -/
namespace Go.Proofs.YthbhmmndggkmaaaGreatDoor
open Go Go.Eng
set_option linter.unusedVariables false
set_option maxRecDepth 100000
theorem ordI_cast : ordI = (ordL : Int) := by decide
theorem byteSum_all {b : B32} (hb : BOk b) : byteV b.at 0 32 = NV b := by
  rw [← bsum_byteV (fun i => hb i) 32, ← bits_NV hb]
  rfl
theorem red4_val {b : B32} (hb : BOk b) : N4Ok (redW b.at 4 4) ∧ N4V (redW b.at 4 4) = VB b % ordI := by
  obtain ⟨h1, h2⟩ := redW_val (f := b.at) (fun i => hb i) 4 4
  refine ⟨h1, ?_⟩
  rw [h2, hor_byteV (fun i => hb i) 4 4 (Nat.le_refl _), show 8 * (4 - 4) = 0 from rfl, show 8 * 4 = 32 from rfl, byteSum_all hb, NV_cast hb]
theorem ordI_pos : 0 < ordI := by decide
theorem canV_iff {b : B32} (hb : BOk b) : canV b = true ↔ NV b < ordL := by
  obtain ⟨h1, h2⟩ := red4_val hb
  have hv := bytes4_val _ h1
  rw [h2] at hv
  have hc := NV_cast hb
  have ho := ordI_cast
  have hp := ordI_pos
  unfold canV
  constructor
  · intro h
    have e := (eqB_iff _ _).1 h
    rw [e] at hv
    have := Int.emod_lt_of_pos (VB b) hp
    omega
  · intro h
    refine eqB_val (bytes4_ok _) hb ?_
    rw [hv]
    exact Int.emod_eq_of_lt (by omega) (by omega)
theorem smulB_val {a b c : B32} (ha : BOk a) (hb : BOk b) (hc : BOk c) : BOk (smulB a b c) ∧ NV (smulB a b c) = (NV a * NV b + NV c) % ordL := by
  have hk : BOk (smulB a b c) := bytes4_ok _
  refine ⟨hk, ?_⟩
  obtain ⟨a1, a2⟩ := red4_val ha
  obtain ⟨b1, b2⟩ := red4_val hb
  obtain ⟨c1, c2⟩ := red4_val hc
  have bl : N4V (redW b.at 4 4) < ordI := by rw [b2]; exact Int.emod_lt_of_pos _ ordI_pos
  have cl : N4V (redW c.at 4 4) < ordI := by rw [c2]; exact Int.emod_lt_of_pos _ ordI_pos
  obtain ⟨m1, m2⟩ := mul0_val a1 b1 bl
  have ml : N4V (mulS (redW a.at 4 4) (redW b.at 4 4) 256 zero4) < ordI := by rw [m2]; exact Int.emod_lt_of_pos _ ordI_pos
  have h : VB (smulB a b c) = (VB a * VB b + VB c) % ordI := by
    unfold smulB smulN
    rw [modN_red (fun i => ha i), modN_red (fun i => hb i), modN_red (fun i => hc i), bytes4_val _ (plusL_ok m1 c1), plusL_val m1 c1 ml cl, m2, a2, b2, c2, ← Int.mul_emod, ← Int.add_emod]
  have e : ((NV (smulB a b c) : Nat) : Int) = (((NV a * NV b + NV c) % ordL : Nat) : Int) := by
    rw [NV_cast hk, Int.natCast_emod, Int.natCast_add, Int.natCast_mul, NV_cast ha, NV_cast hb, NV_cast hc, ← ordI_cast]
    exact h
  exact_mod_cast e
theorem clr_flag {b : B32} {p : Pt} (h : PtB b p) : eqB (encP (clrP (decP b))) zeroPt = true ↔ nC p 8 = oC := by
  have k : PtB (encP (clrP (decP b))) (nC p 8) := PtB.enc (h.dec.2.clr h.on) (nC_on h.on 8)
  constructor
  · intro e
    have := (eqB_iff _ _).1 e
    rw [this] at k
    exact k.inj zero_pt
  · intro e
    rw [e] at k
    exact k.eq zero_pt
end Go.Proofs.YthbhmmndggkmaaaGreatDoor
/- Eight times the generator's order takes any point of the curve to the origin: the curve has less than twice so many points. Plain arithmetic, no program. -/
namespace Go.Proofs.YthbhmmndggkmaaaGreatDoor
open Go Go.Eng
set_option linter.unusedVariables false
set_option maxRecDepth 100000
def tC : Pt := (natF 14399317868200118260347934320527232580618823971194345261214217575416788799818, natF 55188659117513257062467267217118295137698188065244968500265048394206261417927)
noncomputable def hC (i j : Nat) : Pt := addC (nC bC i) (nC tC j)
theorem many : ¬ 16 * ordL ≤ 2 * pN := by unfold ordL pN; decide
end Go.Proofs.YthbhmmndggkmaaaGreatDoor

/- Package beaconref06: Prove, Verify: walks, contracts. -/
import Derived.Test.YthbhmmndggkmaaaGreatDoorQRVrA
namespace Go.Proofs.YthbhmmndggkmaaaGreatDoor
open Go Go.Eng Go.RowKit
set_option linter.unusedVariables false
set_option linter.unusedSimpArgs false
set_option maxRecDepth 100000
namespace rprv
noncomputable abbrev fn := Tryz.f15
noncomputable def body : Code := bodyOf fn
noncomputable def Γ (N P : B32 → B32) (hN : N = numV) (hP : P = pfxV) (I : B32 → List Int → SV) (hI : I = rinR) (H : List Int → B32) (hH : H = hashV) (C : P5 → B32) (hC : C = chlV) : Cons Tryz.prog G2 := [halv.con N P hN hP, qbase_con.lift gx_g2, rin.con I hI, qmul_con.lift gx_g2, hashed_con H hH, rchl_con C hC, smul_con.lift gx_g2]
theorem exwn (N P : B32 → B32) (hN : N = numV) (hP : P = pfxV) (I : B32 → List Int → SV) (hI : I = rinR) (H : List Int → B32) (hH : H = hashV) (C : P5 → B32) (hC : C = chlV) (b : B32) (y : B32) (ys : List Int) (n c : Nat) (ty : TypeId) : runOutM (Γ N P hN hP I hI H hH C hC) tys fn 100 [⟨false, ty, .pre .u8 ys⟩] [cB32.enc b, .o (.a (.sld 0 0 0 n c))] [(25, [.s (cB32.enc y)]), (29, [.s (flagI zeroB false)])] = some (pairP zeroB80 4, [cB32.enc (qbaseB (N b)) = cB32.enc y, 0 + n ≤ ys.length, n ≤ c, n ≤ 140737488353900, I y ((ys.drop 0).take n) = flagI zeroB false]) := by kernel_rfl
theorem exwy (N P : B32 → B32) (hN : N = numV) (hP : P = pfxV) (I : B32 → List Int → SV) (hI : I = rinR) (H : List Int → B32) (hH : H = hashV) (C : P5 → B32) (hC : C = chlV) (b : B32) (y e g k w u c' t : B32) (f f' : Int) (ys : List Int) (n c : Nat) (ty : TypeId) : runOutM (Γ N P hN hP I hI H hH C hC) tys fn 100 [⟨false, ty, .pre .u8 ys⟩] [cB32.enc b, .o (.a (.sld 0 0 0 n c))] [(25, [.s (cB32.enc y)]), (29, [.s (flagI e true)]), (38, [.s (flagB g f)]), (44, [.s (cB32.enc k)]), (48, [.s (flagB w f')]), (55, [.s (cB32.enc u)]), (57, [.s (cB32.enc c')]), (61, [.s (cB32.enc t)])] = some (pairP (cat80 g c' t) 0, [cB32.enc (qbaseB (N b)) = cB32.enc y, 0 + n ≤ ys.length, n ≤ c, n ≤ 140737488353900, I y ((ys.drop 0).take n) = flagI e true, BOk e, flagB (qmulB (N b) e) (errOf (qOk e)) = flagB g f, 0 + 32 ≤ (P b).to.length, 32 ≤ 32, 0 < ([((P b).to.drop 0).take 32, e.to].headD []).length, (catL [((P b).to.drop 0).take 32, e.to]).length ≤ 140737488354000, cB32.enc (H (catL [((P b).to.drop 0).take 32, e.to])) = cB32.enc k, BOk e, flagB (qmulB k e) (errOf (qOk e)) = flagB w f', cB32.enc (qbaseB k) = cB32.enc u, cB32.enc (C ⟨y, e, g, u, w⟩) = cB32.enc c', cB32.enc (smulB c' (N b) k) = cB32.enc t, 32 ≤ 32, 32 ≤ 80, 16 ≤ 32, 16 ≤ 48, 32 ≤ 32, 32 ≤ 32]) := by kernel_rfl
theorem runw (b : B32) (ys : List Int) (n c : Nat) (ty : TypeId) (hy : ys.length = n) (hc : n ≤ c) (hn : n ≤ 140737488353900) : RunsF Tryz.prog G2 1 body (startT fn [cB32.enc b, .o (.a (.sld 0 0 0 n c))]) ([⟨false, ty, .pre .u8 ys⟩]) (EndsM tys fn (endsQ (prvR b ys) .none)) := by
  have hb : fn.body = some body := by kernel_rfl
  have hl : ∀ q : B32, q.to.length = 32 := fun _ => rfl
  have e := dt0 ys n hy
  unfold prvR
  cases h1 : inOk (pubV b) ys with
  | false =>
    rw [cond_false]
    have hi : rinR (pubV b) ys = flagI zeroB false := by unfold rinR; rw [h1, cond_false]
    exact runs_of_out tys_ok mixed hb (exwn numV pfxV rfl rfl rinR rfl hashV rfl chlV rfl b (pubV b) ys n c ty) ⟨rfl, by omega, hc, hn, by rw [e]; exact hi, trivial⟩
  | true =>
    rw [cond_true]
    have hi : rinR (pubV b) ys = flagI (phV b ys) true := by unfold rinR; rw [h1, cond_true]; rfl
    obtain ⟨q, hq, hr⟩ := in_pt h1
    have hr : Rep (eV b ys) (nC q 8) := hr
    have hh : PtB (phV b ys) (nC q 8) := PtB.enc hr (nC_on hq 8)
    have hk : BOk (pkV b ys) := hashV_ok _
    have he : errOf (qOk (phV b ys)) = 0 := by rw [hh.qdec.1]; rfl
    have hg : qmulB (numV b) (phV b ys) = pgV b ys := (eqB_iff _ _).1 ((qmul_pt (numV_ok b) hh).eq (prf_g (nC_on hq 8) hr))
    have hw : qmulB (pkV b ys) (phV b ys) = pvV b ys := (eqB_iff _ _).1 ((qmul_pt hk hh).eq (PtB.enc (often_rep hr (nC_on hq 8) hk) (nC_on (nC_on hq 8) _)))
    have hx : catL [((pfxV b).to.drop 0).take 32, (phV b ys).to] = catL [(pfxV b).to, (phV b ys).to] := by rw [dt0 _ _ (hl (pfxV b))]
    exact runs_of_out tys_ok mixed hb (exwy numV pfxV rfl rfl rinR rfl hashV rfl chlV rfl b (pubV b) (phV b ys) (pgV b ys) (pkV b ys) (pvV b ys) (puV b ys) (pcV b ys) (ptV' b ys) 0 0 ys n c ty) ⟨rfl, by omega, hc, hn, by rw [e]; exact hi, hh.ok, by rw [hg, he], by rw [hl]; omega, by omega, by rw [dt0 _ _ (hl (pfxV b))]; show 0 < 32; omega, by rw [hx]; simp only [catL, List.length_append, List.length_nil, hl]; omega, by rw [hx]; rfl, hh.ok, by rw [hw, he], congrArg cB32.enc (base_same hk).symm, rfl, rfl, by omega, by omega, by omega, by omega, by omega, by omega, trivial⟩
theorem exvn (N P : B32 → B32) (hN : N = numV) (hP : P = pfxV) (I : B32 → List Int → SV) (hI : I = rinR) (H : List Int → B32) (hH : H = hashV) (C : P5 → B32) (hC : C = chlV) (b : B32) (y : B32) (a : Option Addr) : runOutM (Γ N P hN hP I hI H hH C hC) tys fn 100 [] [cB32.enc b, .o (.a (.v (.slice a 0 0)))] [(25, [.s (cB32.enc y)]), (29, [.s (flagI zeroB false)])] = some (pairP zeroB80 4, [cB32.enc (qbaseB (N b)) = cB32.enc y, I y [] = flagI zeroB false]) := by kernel_rfl
theorem exvy (N P : B32 → B32) (hN : N = numV) (hP : P = pfxV) (I : B32 → List Int → SV) (hI : I = rinR) (H : List Int → B32) (hH : H = hashV) (C : P5 → B32) (hC : C = chlV) (b : B32) (y e g k w u c' t : B32) (f f' : Int) (a : Option Addr) : runOutM (Γ N P hN hP I hI H hH C hC) tys fn 100 [] [cB32.enc b, .o (.a (.v (.slice a 0 0)))] [(25, [.s (cB32.enc y)]), (29, [.s (flagI e true)]), (38, [.s (flagB g f)]), (44, [.s (cB32.enc k)]), (48, [.s (flagB w f')]), (55, [.s (cB32.enc u)]), (57, [.s (cB32.enc c')]), (61, [.s (cB32.enc t)])] = some (pairP (cat80 g c' t) 0, [cB32.enc (qbaseB (N b)) = cB32.enc y, I y [] = flagI e true, BOk e, flagB (qmulB (N b) e) (errOf (qOk e)) = flagB g f, 0 + 32 ≤ (P b).to.length, 32 ≤ 32, 0 < ([((P b).to.drop 0).take 32, e.to].headD []).length, (catL [((P b).to.drop 0).take 32, e.to]).length ≤ 140737488354000, cB32.enc (H (catL [((P b).to.drop 0).take 32, e.to])) = cB32.enc k, BOk e, flagB (qmulB k e) (errOf (qOk e)) = flagB w f', cB32.enc (qbaseB k) = cB32.enc u, cB32.enc (C ⟨y, e, g, u, w⟩) = cB32.enc c', cB32.enc (smulB c' (N b) k) = cB32.enc t, 32 ≤ 32, 32 ≤ 80, 16 ≤ 32, 16 ≤ 48, 32 ≤ 32, 32 ≤ 32]) := by kernel_rfl
theorem runv (b : B32) (a : Option Addr) : RunsF Tryz.prog G2 0 body (startT fn [cB32.enc b, .o (.a (.v (.slice a 0 0)))]) ([]) (EndsM tys fn (endsQ (prvR b []) .none)) := by
  have hb : fn.body = some body := by kernel_rfl
  have hl : ∀ q : B32, q.to.length = 32 := fun _ => rfl
  unfold prvR
  cases h1 : inOk (pubV b) [] with
  | false =>
    rw [cond_false]
    have hi : rinR (pubV b) [] = flagI zeroB false := by unfold rinR; rw [h1, cond_false]
    exact runs_of_out tys_ok mixed hb (exvn numV pfxV rfl rfl rinR rfl hashV rfl chlV rfl b (pubV b) a) ⟨rfl, by exact hi, trivial⟩
  | true =>
    rw [cond_true]
    have hi : rinR (pubV b) [] = flagI (phV b []) true := by unfold rinR; rw [h1, cond_true]; rfl
    obtain ⟨q, hq, hr⟩ := in_pt h1
    have hr : Rep (eV b []) (nC q 8) := hr
    have hh : PtB (phV b []) (nC q 8) := PtB.enc hr (nC_on hq 8)
    have hk : BOk (pkV b []) := hashV_ok _
    have he : errOf (qOk (phV b [])) = 0 := by rw [hh.qdec.1]; rfl
    have hg : qmulB (numV b) (phV b []) = pgV b [] := (eqB_iff _ _).1 ((qmul_pt (numV_ok b) hh).eq (prf_g (nC_on hq 8) hr))
    have hw : qmulB (pkV b []) (phV b []) = pvV b [] := (eqB_iff _ _).1 ((qmul_pt hk hh).eq (PtB.enc (often_rep hr (nC_on hq 8) hk) (nC_on (nC_on hq 8) _)))
    have hx : catL [((pfxV b).to.drop 0).take 32, (phV b []).to] = catL [(pfxV b).to, (phV b []).to] := by rw [dt0 _ _ (hl (pfxV b))]
    exact runs_of_out tys_ok mixed hb (exvy numV pfxV rfl rfl rinR rfl hashV rfl chlV rfl b (pubV b) (phV b []) (pgV b []) (pkV b []) (pvV b []) (puV b []) (pcV b []) (ptV' b []) 0 0 a) ⟨rfl, by exact hi, hh.ok, by rw [hg, he], by rw [hl]; omega, by omega, by rw [dt0 _ _ (hl (pfxV b))]; show 0 < 32; omega, by rw [hx]; simp only [catL, List.length_append, List.length_nil, hl]; omega, by rw [hx]; rfl, hh.ok, by rw [hw, he], congrArg cB32.enc (base_same hk).symm, rfl, rfl, by omega, by omega, by omega, by omega, by omega, by omega, trivial⟩
def spec (V : B32 → List Int → SV) : List PArg → Option (SV × LEff × Cst)
  | [.val v, .win .u8 ys n ty] => match cB32.dec v with
    | some b => some (V b ys, .none, [n ≤ 140737488353900])
    | none => none
  | [.val v, .val (.o (.a (.v (.slice _ 0 0))))] => match cB32.dec v with
    | some b => some (V b [], .none, [])
    | none => none
  | _ => none
noncomputable def con (V : B32 → List Int → SV) (hV : V = prvR) : Con Tryz.prog G2 := Con.parts tys_ok 15 fn Tryz.func15 (by kernel_rfl) (c := body) (by kernel_rfl) [.val, .win .u8] (spec V)
  (fun ps r e p h hp => by
    subst hV
    unfold spec at h
    split at h
    · split at h <;> cases h
      exact ⟨prvR_ids _ _, fun b hb => by simp only [locBlks, PArg.blk, List.nil_append, List.append_nil, List.mem_singleton] at hb; rw [hb]⟩
    · split at h <;> cases h
      exact ⟨prvR_ids _ _, fun b hb => by cases hb⟩
    · cases h)
  (fun ps r e p cap h hp hi => by
    subst hV
    unfold spec at h
    split at h
    · split at h <;> cases h
      rename_i b hb
      have := cB32.ok _ _ hb
      subst this
      exact runw b _ _ _ _ hi.2.1.1 hi.2.1.2 hp.1
    · split at h <;> cases h
      rename_i b hb
      have := cB32.ok _ _ hb
      subst this
      exact runv b _
    · cases h)
end rprv
end Go.Proofs.YthbhmmndggkmaaaGreatDoor

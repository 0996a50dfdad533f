/- Packages label and beaconref13: Make, Check: walks, contracts. -/
import Derived.Test.YtbfndladaldajaaDoorQML
import Derived.Test.YtbfndladaldajaaDoorQMU
import Derived.Test.YtbfndladaldajaaDoorQMV
namespace Go.Proofs.YtbfndladaldajaaDoor
open Go Go.Eng Go.RowKit
set_option linter.unusedVariables false
set_option linter.unusedSimpArgs false
set_option maxRecDepth 100000
def trip (a : B32) (D : B80) (e : Int) : SV := .t [.g (cB32.row a), .g (cB80.row D), .a (int1 .i64 e)]
def pair32 (a : B32) (e : Int) : SV := .t [.g (cB32.row a), .a (int1 .i64 e)]
def inOkS (s : ByteArray) (v : Int) : Bool := accOk (bytesI s) && !(v == 0)
noncomputable def inM (s : ByteArray) (v : Int) (st : Bool) : List Int := encB (inpL (bytesI s) v st)
noncomputable def mkX (b : B32) (s : ByteArray) (v : Int) (st : Bool) : B32 := bif inOkS s v && inOk (pubV b) (inM s v st) then lo64 (outV (decP (pgV b (inM s v st)))) else zeroB
noncomputable def mkY (b : B32) (s : ByteArray) (v : Int) (st : Bool) : B80 := bif inOkS s v && inOk (pubV b) (inM s v st) then prfV b (inM s v st) else zeroB80
noncomputable def mkE (b : B32) (s : ByteArray) (v : Int) (st : Bool) : Int := bif inOkS s v then bif inOk (pubV b) (inM s v st) then 0 else 4 else 1
noncomputable def ckX (b : B32) (s : ByteArray) (v : Int) (st : Bool) (D : B80) : B32 := bif inOkS s v then lo64 (vfX b (inM s v st) D) else zeroB
noncomputable def ckE (b : B32) (s : ByteArray) (v : Int) (st : Bool) (D : B80) : Int := bif inOkS s v then vfE b (inM s v st) D else 1
theorem inOkS_true {s : ByteArray} {v : Int} (h : inOkS s v = true) : accOk (bytesI s) = true ∧ v ≠ 0 := by
  unfold inOkS at h
  simpa using h
theorem inOkS_false {s : ByteArray} {v : Int} (h : inOkS s v = false) : accOk (bytesI s) = false ∨ v = 0 := by
  unfold inOkS at h
  cases hA : accOk (bytesI s) with
  | false => exact .inl rfl
  | true =>
    rw [hA] at h
    exact .inr (by simpa using h)
theorem inM_len {s : ByteArray} {v : Int} {st : Bool} (h : accOk (bytesI s) = true) : encT (inpL (bytesI s) v st) ≤ 1048576 := inpT h
theorem inM_dt (s : ByteArray) (v : Int) (st : Bool) : ((encB (inpL (bytesI s) v st)).drop 0).take (encT (inpL (bytesI s) v st)) = inM s v st := by
  rw [dt _ _ (encB_len _)]
  rfl
theorem vfX_bad {b : B32} {m : List Int} {D : B80} (h : vfE b m D ≠ 0) : vfX b m D = zeroC := by
  revert h
  unfold vfE vfX
  cases decOk b
  · intro _; rfl
  cases okV D
  · intro _; rfl
  cases orgV b
  · cases inOk b m
    · intro _; rfl
    cases eqB (vcV b m D) (c80 D)
    · intro _; rfl
    · intro h; exact absurd rfl h
  · intro _; rfl
namespace mk
noncomputable abbrev fn := Tryd.f10
noncomputable def body : Code := bodyOf fn
noncomputable def Γ (I : Con Tryd.prog G2) (R : B32 → List Int → SV) (hR : R = prvR) : Cons Tryd.prog G2 := [I, prv.con R hR, vOut_con]
theorem exy (R : B32 → List Int → SV) (hR : R = prvR) (D : B80) (x : B64) (b : B32) (s : ByteArray) (v : Int) (st : Bool) : runOutM (Γ inp.con R hR) tys fn 200 [] [cB32.enc b, .o (.a (.v (.string s))), .o (.a (.v (.int .u64 v))), .o (.a (.v (.bool st)))] [(28, [.s (pairP D 0)]), (38, [.s (pairO x 0)])] = some (trip (lo64 x) D 0, [s.size ≤ 9223372036854775807, accOk (bytesI s) = true, v ≠ 0, U64 v, 0 + encT (inpL (bytesI s) v st) ≤ (encB (inpL (bytesI s) v st)).length, encT (inpL (bytesI s) v st) ≤ encT (inpL (bytesI s) v st), encT (inpL (bytesI s) v st) ≤ 140737488353900, R b (((encB (inpL (bytesI s) v st)).drop 0).take (encT (inpL (bytesI s) v st))) = pairP D 0, ∀ i, 0 ≤ (t80 D).at i ∧ (t80 D).at i < 256, outSV D = pairO x 0]) := by kernel_rfl
theorem exn (R : B32 → List Int → SV) (hR : R = prvR) (b : B32) (s : ByteArray) (v : Int) (st : Bool) : runOutM (Γ inp.con R hR) tys fn 200 [] [cB32.enc b, .o (.a (.v (.string s))), .o (.a (.v (.int .u64 v))), .o (.a (.v (.bool st)))] [(28, [.s (pairP zeroB80 4)])] = some (trip zeroB zeroB80 4, [s.size ≤ 9223372036854775807, accOk (bytesI s) = true, v ≠ 0, U64 v, 0 + encT (inpL (bytesI s) v st) ≤ (encB (inpL (bytesI s) v st)).length, encT (inpL (bytesI s) v st) ≤ encT (inpL (bytesI s) v st), encT (inpL (bytesI s) v st) ≤ 140737488353900, R b (((encB (inpL (bytesI s) v st)).drop 0).take (encT (inpL (bytesI s) v st))) = pairP zeroB80 4]) := by kernel_rfl
theorem exb (R : B32 → List Int → SV) (hR : R = prvR) (b : B32) (s : ByteArray) (v : Int) (st : Bool) : runOutM (Γ inp.bad R hR) tys fn 200 [] [cB32.enc b, .o (.a (.v (.string s))), .o (.a (.v (.int .u64 v))), .o (.a (.v (.bool st)))] [] = some (trip zeroB zeroB80 1, [s.size ≤ 9223372036854775807, accOk (bytesI s) = false ∨ v = 0]) := by kernel_rfl
theorem run (b : B32) (s : ByteArray) (v : Int) (st : Bool) (hs : s.size ≤ 9223372036854775807) (hv : U64 v) : RunsF Tryd.prog G2 0 body (startT fn [cB32.enc b, .o (.a (.v (.string s))), .o (.a (.v (.int .u64 v))), .o (.a (.v (.bool st)))]) [] (EndsM tys fn (endsQ (trip (mkX b s v st) (mkY b s v st) (mkE b s v st)) .none)) := by
  have hb : fn.body = some body := by kernel_rfl
  cases h : inOkS s v with
  | false =>
    have e1 : mkX b s v st = zeroB := by unfold mkX; rw [h, Bool.false_and, cond_false]
    have e2 : mkY b s v st = zeroB80 := by unfold mkY; rw [h, Bool.false_and, cond_false]
    have e3 : mkE b s v st = 1 := by unfold mkE; rw [h, cond_false]
    rw [e1, e2, e3]
    exact runs_of_out tys_ok mixed hb (exb prvR rfl b s v st ) ⟨hs, inOkS_false h, trivial⟩
  | true =>
    obtain ⟨ha, h0⟩ := inOkS_true h
    have hT := inM_len (v := v) (st := st) ha
    cases h2 : inOk (pubV b) (inM s v st) with
    | false =>
      have e1 : mkX b s v st = zeroB := by unfold mkX; rw [h, h2, Bool.true_and, cond_false]
      have e2 : mkY b s v st = zeroB80 := by unfold mkY; rw [h, h2, Bool.true_and, cond_false]
      have e3 : mkE b s v st = 4 := by unfold mkE; rw [h, h2, cond_true, cond_false]
      rw [e1, e2, e3]
      exact runs_of_out tys_ok mixed hb (exn prvR rfl b s v st ) ⟨hs, ha, h0, hv, by rw [encB_len]; omega, Nat.le_refl _, Nat.le_trans hT (by omega), by rw [inM_dt]; unfold prvR; rw [h2, cond_false], trivial⟩
    | true =>
      have e1 : mkX b s v st = lo64 (outV (decP (pgV b (inM s v st)))) := by unfold mkX; rw [h, h2, Bool.true_and, cond_true]
      have e2 : mkY b s v st = prfV b (inM s v st) := by unfold mkY; rw [h, h2, Bool.true_and, cond_true]
      have e3 : mkE b s v st = 0 := by unfold mkE; rw [h, h2, cond_true, cond_true]
      rw [e1, e2, e3]
      obtain ⟨_, h3⟩ := vfy_acc h2
      have hD := prf_ok h2
      exact runs_of_out tys_ok mixed hb (exy prvR rfl (prfV b (inM s v st)) (outV (decP (pgV b (inM s v st)))) b s v st ) ⟨hs, ha, h0, hv, by rw [encB_len]; omega, Nat.le_refl _, Nat.le_trans hT (by omega), by rw [inM_dt]; unfold prvR; rw [h2, cond_true], hD.2.2, h3, trivial⟩
def spec (X : B32 → ByteArray → Int → Bool → B32) (Y : B32 → ByteArray → Int → Bool → B80) (E : B32 → ByteArray → Int → Bool → Int) : List PArg → Option (SV × LEff × Cst)
  | [.val w, .val (.o (.a (.v (.string s)))), .val (.o (.a (.v (.int .u64 v)))), .val (.o (.a (.v (.bool st))))] => match cB32.dec w with
    | some b => some (trip (X b s v st) (Y b s v st) (E b s v st), .none, [s.size ≤ 9223372036854775807, U64 v])
    | none => none
  | _ => none
noncomputable def con (X : B32 → ByteArray → Int → Bool → B32) (hX : X = mkX) (Y : B32 → ByteArray → Int → Bool → B80) (hY : Y = mkY) (E : B32 → ByteArray → Int → Bool → Int) (hE : E = mkE) : Con Tryd.prog G2 := Con.parts tys_ok 10 fn Tryd.func10 (by kernel_rfl) (c := body) (by kernel_rfl) [.val, .val, .val, .val] (spec X Y E)
  (fun ps r e p h hp => by
    subst hX; subst hY; subst hE
    unfold spec at h
    split at h
    · split at h <;> cases h
      exact ⟨rfl, fun b hb => by cases hb⟩
    · cases h)
  (fun ps r e p cap h hp hi => by
    subst hX; subst hY; subst hE
    unfold spec at h
    split at h
    · split at h <;> cases h
      rename_i b hb
      have := cB32.ok _ _ hb
      subst this
      exact run b _ _ _ hp.1 hp.2.1
    · cases h)
end mk
namespace ck
noncomputable abbrev fn := Tryd.f11
noncomputable def body : Code := bodyOf fn
noncomputable def Γ (I : Con Tryd.prog G2) (X : B32 → List Int → B80 → B64) (hX : X = vfX) (E : B32 → List Int → B80 → Int) (hE : E = vfE) : Cons Tryd.prog G2 := [I, vfy.con X hX E hE]
theorem exy (X : B32 → List Int → B80 → B64) (hX : X = vfX) (E : B32 → List Int → B80 → Int) (hE : E = vfE) (x : B64) (e : Int) (b : B32) (s : ByteArray) (v : Int) (st : Bool) (D : B80) : runOutM (Γ inp.con X hX E hE) tys fn 200 [] [cB32.enc b, .o (.a (.v (.string s))), .o (.a (.v (.int .u64 v))), .o (.a (.v (.bool st))), cB80.enc D] [(30, [.s (pairO x e)])] = some (pair32 (lo64 x) e, [s.size ≤ 9223372036854775807, accOk (bytesI s) = true, v ≠ 0, U64 v, 0 + encT (inpL (bytesI s) v st) ≤ (encB (inpL (bytesI s) v st)).length, encT (inpL (bytesI s) v st) ≤ encT (inpL (bytesI s) v st), D.Ok, encT (inpL (bytesI s) v st) ≤ 140737488353900, pairO (X b (((encB (inpL (bytesI s) v st)).drop 0).take (encT (inpL (bytesI s) v st))) D) (E b (((encB (inpL (bytesI s) v st)).drop 0).take (encT (inpL (bytesI s) v st))) D) = pairO x e]) := by kernel_rfl
theorem exb (X : B32 → List Int → B80 → B64) (hX : X = vfX) (E : B32 → List Int → B80 → Int) (hE : E = vfE) (b : B32) (s : ByteArray) (v : Int) (st : Bool) (D : B80) : runOutM (Γ inp.bad X hX E hE) tys fn 200 [] [cB32.enc b, .o (.a (.v (.string s))), .o (.a (.v (.int .u64 v))), .o (.a (.v (.bool st))), cB80.enc D] [] = some (pair32 zeroB 1, [s.size ≤ 9223372036854775807, accOk (bytesI s) = false ∨ v = 0]) := by kernel_rfl
theorem run (b : B32) (s : ByteArray) (v : Int) (st : Bool) (D : B80) (hs : s.size ≤ 9223372036854775807) (hv : U64 v) (hD : D.Ok) : RunsF Tryd.prog G2 0 body (startT fn [cB32.enc b, .o (.a (.v (.string s))), .o (.a (.v (.int .u64 v))), .o (.a (.v (.bool st))), cB80.enc D]) [] (EndsM tys fn (endsQ (pair32 (ckX b s v st D) (ckE b s v st D)) .none)) := by
  have hb : fn.body = some body := by kernel_rfl
  cases h : inOkS s v with
  | false =>
    have e1 : ckX b s v st D = zeroB := by unfold ckX; rw [h, cond_false]
    have e3 : ckE b s v st D = 1 := by unfold ckE; rw [h, cond_false]
    rw [e1, e3]
    exact runs_of_out tys_ok mixed hb (exb vfX rfl vfE rfl b s v st D ) ⟨hs, inOkS_false h, trivial⟩
  | true =>
    obtain ⟨ha, h0⟩ := inOkS_true h
    have hT := inM_len (v := v) (st := st) ha
    have e1 : ckX b s v st D = lo64 (vfX b (inM s v st) D) := by unfold ckX; rw [h, cond_true]
    have e3 : ckE b s v st D = vfE b (inM s v st) D := by unfold ckE; rw [h, cond_true]
    rw [e1, e3]
    exact runs_of_out tys_ok mixed hb (exy vfX rfl vfE rfl (vfX b (inM s v st) D) (vfE b (inM s v st) D) b s v st D ) ⟨hs, ha, h0, hv, by rw [encB_len]; omega, Nat.le_refl _, hD, Nat.le_trans hT (by omega), by rw [inM_dt], trivial⟩
def spec (X : B32 → ByteArray → Int → Bool → B80 → B32) (E : B32 → ByteArray → Int → Bool → B80 → Int) : List PArg → Option (SV × LEff × Cst)
  | [.val w, .val (.o (.a (.v (.string s)))), .val (.o (.a (.v (.int .u64 v)))), .val (.o (.a (.v (.bool st)))), .val w2] => match cB32.dec w with
    | some b => match cB80.dec w2 with
      | some D => some (pair32 (X b s v st D) (E b s v st D), .none, [s.size ≤ 9223372036854775807, U64 v, D.Ok])
      | none => none
    | none => none
  | _ => none
noncomputable def con (X : B32 → ByteArray → Int → Bool → B80 → B32) (hX : X = ckX) (E : B32 → ByteArray → Int → Bool → B80 → Int) (hE : E = ckE) : Con Tryd.prog G2 := Con.parts tys_ok 11 fn Tryd.func11 (by kernel_rfl) (c := body) (by kernel_rfl) [.val, .val, .val, .val, .val] (spec X E)
  (fun ps r e p h hp => by
    subst hX; subst hE
    unfold spec at h
    split at h
    · split at h
      · split at h <;> cases h
        exact ⟨rfl, fun b hb => by cases hb⟩
      · cases h
    · cases h)
  (fun ps r e p cap h hp hi => by
    subst hX; subst hE
    unfold spec at h
    split at h
    · split at h
      · rename_i b hb
        split at h <;> cases h
        rename_i D hD
        have := cB32.ok _ _ hb
        subst this
        have := cB80.ok _ _ hD
        subst this
        exact run b _ _ _ D hp.1 hp.2.1 hp.2.2.1
      · cases h
    · cases h)
end ck
end Go.Proofs.YtbfndladaldajaaDoor

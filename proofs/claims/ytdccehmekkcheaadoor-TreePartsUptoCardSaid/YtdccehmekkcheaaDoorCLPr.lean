/- The law TreeParts: run. -/
import Derived.Test.YtdccehmekkcheaaDoorCLPa
import Derived.Test.YtdccehmekkcheaaDoorCPaP
namespace Go.Proofs.YtdccehmekkcheaaDoor
open Go Go.Eng Go.RowKit
set_option linter.unusedVariables false
set_option linter.unusedSimpArgs false
set_option maxRecDepth 100000
theorem filt_sc {l : List Nd} {i : Nat} (h : i < l.length) (p : Nd → Bool) : (l.take (i + 1)).filter p = bif p (l.getD i zn) then (l.take i).filter p ++ [l.getD i zn] else (l.take i).filter p := by
  rw [List.take_succ_eq_append_getElem h, List.filter_append, getD_lt h]
  cases hp : p l[i] with
  | true => rw [cond_true, List.filter_cons_of_pos hp]; rfl
  | false => rw [cond_false, List.filter_cons_of_neg (by rw [hp]; decide)]; simp
namespace lpar.w
noncomputable def MI (l : List Lf) (k : Int) (n c : Nat) (ty : TypeId) (h : B32) (vs : List Value) (m : Nat) (j : Int) : List Nd → List Nd → List (Option SV)
  | [], _ => MA hV rfl hE rfl hS rfl l k n c ty h vs m j
  | _ :: us, [] => MB hV rfl hE rfl hS rfl l k n c ty h vs m j (us.length + 1)
  | _ :: us, _ :: os => MC hV rfl hE rfl hS rfl l k n c ty h vs m j (us.length + 1) (os.length + 1)
noncomputable def mI (l : List Lf) (k : Int) (n c : Nat) (ty : TypeId) (h : B32) (vs : List Value) (m : Nat) (x : Nd) : List Nd → List Nd → List Blk
  | [], _ => ma hV rfl hE rfl hS rfl l k n c ty h vs m x
  | a :: us, [] => mb hV rfl hE rfl hS rfl l k n c ty h vs m x (nvals (a :: us)) (us.length + 1) none
  | a :: us, b :: os => mc hV rfl hE rfl hS rfl l k n c ty h vs m x (nvals (a :: us)) (us.length + 1) none (nvals (b :: os)) (os.length + 1) none
theorem MI_b (l : List Lf) (k : Int) (n c : Nat) (ty : TypeId) (h : B32) (vs : List Value) (m : Nat) (j : Int) {U : List Nd} (hU : U ≠ []) : MI l k n c ty h vs m j U [] = MB hV rfl hE rfl hS rfl l k n c ty h vs m j U.length := by
  cases U with
  | nil => exact absurd rfl hU
  | cons a r => rfl
theorem MI_c (l : List Lf) (k : Int) (n c : Nat) (ty : TypeId) (h : B32) (vs : List Value) (m : Nat) (j : Int) {U O : List Nd} (hU : U ≠ []) (hO : O ≠ []) : MI l k n c ty h vs m j U O = MC hV rfl hE rfl hS rfl l k n c ty h vs m j U.length O.length := by
  cases U with
  | nil => exact absurd rfl hU
  | cons a r =>
    cases O with
    | nil => exact absurd rfl hO
    | cons a r => rfl
theorem mI_b (l : List Lf) (k : Int) (n c : Nat) (ty : TypeId) (h : B32) (vs : List Value) (m : Nat) (x : Nd) {U : List Nd} (hU : U ≠ []) : mI l k n c ty h vs m x U [] = mb hV rfl hE rfl hS rfl l k n c ty h vs m x (nvals U) U.length none := by
  cases U with
  | nil => exact absurd rfl hU
  | cons a r => rfl
theorem mI_c (l : List Lf) (k : Int) (n c : Nat) (ty : TypeId) (h : B32) (vs : List Value) (m : Nat) (x : Nd) {U O : List Nd} (hU : U ≠ []) (hO : O ≠ []) : mI l k n c ty h vs m x U O = mc hV rfl hE rfl hS rfl l k n c ty h vs m x (nvals U) U.length none (nvals O) O.length none := by
  cases U with
  | nil => exact absurd rfl hU
  | cons a r =>
    cases O with
    | nil => exact absurd rfl hO
    | cons a r => rfl
theorem nv1 (U : List Nd) (y : Nd) : nvals (U ++ [y]) = nvals U ++ y.vals ∧ (U ++ [y]).length = U.length + 1 ∧ U ++ [y] ≠ [] := by
  refine ⟨?_, by simp, by simp⟩
  rw [nvals_app, nvals_one]
theorem turn (l : List Lf) (k : Int) (n c : Nat) (ty : TypeId) (h : B32) (N : List Nd) (hm : N.length ≤ 4000000) (hk : AllOk N) (x : B32) (hx : BOk x) (q : Nat) (hq : q ≤ 256) (U O : List Nd) (i : Nat) (hi : i < N.length) (hUl : U.length ≤ i) (hOl : O.length ≤ i)
    (hU0 : U = [] → O = [] ∧ prN x q (N.getD i zn) = true) (g : Nat → SV) {Post : Ex → List SV → List Blk → Prop}
    (hp : ∀ U' O' g, U' = (bif prN x q (N.getD i zn) then U ++ [N.getD i zn] else U) → O' = (bif !prN x q (N.getD i zn) then O ++ [N.getD i zn] else O) → U' ≠ [] → Post .normal (fill g 0 (MI l k n c ty h (nvals N) N.length ((i + 1 : Nat) : Int) U' O')) (mI l k n c ty h (nvals N) N.length (pfN x q) U' O')) :
    RunsF Tryd.prog GT 1 L (fill g 0 (MI l k n c ty h (nvals N) N.length i U O)) (mI l k n c ty h (nvals N) N.length (pfN x q) U O) Post := by
  have o := offs i 65
  have o1 : 0 + (offI 0 (i : Int) 65 + 1) = i * 65 + 1 := by omega
  have hb : i * 65 + 65 ≤ N.length * 65 := by have := Nat.mul_le_mul_right 65 (show i + 1 ≤ N.length by omega); omega
  have b1 : 0 + (offI 0 (i : Int) 65 + 1) + 32 ≤ (nvals N).length := by rw [o1, nvals_len]; omega
  have b2 : SV.o (.g (takeV (nvals N) (0 + (offI 0 (i : Int) 65 + 1)) 32)) = cB32.enc (N.getD i zn).pre := by rw [o1]; exact ld_pre N hi
  obtain ⟨b3, b4⟩ := ld_node (rfl : N.length = N.length) hi
  have ky := (hk.at hi).1
  have kx := fst_ok hx q
  have hh := pf_holds hx hq (N.getD i zn)
  have hw : IntKind.i64.wrap ((i : Int) + 1) = ((i + 1 : Nat) : Int) := by rw [IntKind.wrap_i64]; omega
  have lu := nvals_len U
  have lo := nvals_len O
  have yl := Nd.vals_len (N.getD i zn)
  have y1 := oneV (N.getD i zn)
  generalize N.getD i zn = y at *
  obtain ⟨u1, u2, u3⟩ := nv1 U y
  obtain ⟨v1, v2, v3⟩ := nv1 O y
  cases hc : prN x q y with
  | true =>
    rw [hc] at hp hh
    have hp' := fun g => hp (U ++ [y]) O g rfl rfl u3
    by_cases hU : U = []
    · obtain ⟨hO, _⟩ := hU0 hU
      subst hU hO
      refine Runs.of_outN tys_ok mixed [0, 1, 2, 3, 5] (t0 hV rfl hE rfl hS rfl l k n c ty h (nvals N) N.length (pfN x q) i ((i + 1 : Nat) : Int) y.pre y g) ⟨decide_eq_true (by omega), by omega, by omega, b1, b2, kx, ky, by rw [hh], by omega, by omega, b3, b4, rfl, by omega, by omega, roomN 1 (by omega), hw, trivial⟩ (iB hV rfl hE rfl hS rfl l k n c ty h (nvals N) N.length _ _ _ _ _ _) rfl fun g => ?_
      have := hp' g
      rwa [MI_b _ _ _ _ _ _ _ _ _ u3, mI_b _ _ _ _ _ _ _ _ _ u3, u1, u2] at this
    · by_cases hO : O = []
      · subst hO
        rw [MI_b _ _ _ _ _ _ _ _ _ hU, mI_b _ _ _ _ _ _ _ _ _ hU]
        have hp2 : ∀ g, Post .normal (fill g 0 (MB hV rfl hE rfl hS rfl l k n c ty h (nvals N) N.length ((i + 1 : Nat) : Int) (U.length + 1))) (mb hV rfl hE rfl hS rfl l k n c ty h (nvals N) N.length (pfN x q) (nvals U ++ y.vals) (U.length + 1) none) := fun g => by
          have := hp' g
          rwa [MI_b _ _ _ _ _ _ _ _ _ u3, mI_b _ _ _ _ _ _ _ _ _ u3, u1, u2] at this
        refine Runs.roomV 4 (U.length + 1) (own := true) (ty := 33) (s := 65) (vs := nvals U) (lo := U.length) rfl ?_ ?_
        · exact Runs.of_outX tys_ok mixed (tBg hV rfl hE rfl hS rfl l k n c ty h (nvals N) N.length (pfN x q) i ((i + 1 : Nat) : Int) y.pre y (nvals U) 0 none U.length g) ⟨decide_eq_true (by omega), by omega, by omega, b1, b2, kx, ky, by rw [hh], by omega, by omega, b3, b4, rfl, by omega, by omega, Nat.le_refl _, y1, hw, trivial⟩ (iB hV rfl hE rfl hS rfl l k n c ty h (nvals N) N.length _ _ _ _ _ _) rfl fun g => hp2 g
        · exact Runs.of_outN tys_ok mixed [0, 1, 2, 3, 6] (tBr hV rfl hE rfl hS rfl l k n c ty h (nvals N) N.length (pfN x q) i ((i + 1 : Nat) : Int) y.pre y (nvals U) U.length none U.length g) ⟨decide_eq_true (by omega), by omega, by omega, b1, b2, kx, ky, by rw [hh], by omega, by omega, b3, b4, rfl, by omega, by omega, Nat.le_refl _, roomN _ (by omega), hw, trivial⟩ (iB hV rfl hE rfl hS rfl l k n c ty h (nvals N) N.length _ _ _ _ _ _) rfl fun g => hp2 g
      · rw [MI_c _ _ _ _ _ _ _ _ _ hU hO, mI_c _ _ _ _ _ _ _ _ _ hU hO]
        have hp2 : ∀ g, Post .normal (fill g 0 (MC hV rfl hE rfl hS rfl l k n c ty h (nvals N) N.length ((i + 1 : Nat) : Int) (U.length + 1) O.length)) (mc hV rfl hE rfl hS rfl l k n c ty h (nvals N) N.length (pfN x q) (nvals U ++ y.vals) (U.length + 1) none (nvals O) O.length none) := fun g => by
          have := hp' g
          rwa [MI_c _ _ _ _ _ _ _ _ _ u3 hO, mI_c _ _ _ _ _ _ _ _ _ u3 hO, u1, u2] at this
        refine Runs.roomV 4 (U.length + 1) (own := true) (ty := 33) (s := 65) (vs := nvals U) (lo := U.length) rfl ?_ ?_
        · exact Runs.of_outX tys_ok mixed (tCg hV rfl hE rfl hS rfl l k n c ty h (nvals N) N.length (pfN x q) i ((i + 1 : Nat) : Int) y.pre y (nvals U) 0 none (nvals O) O.length none U.length O.length g) ⟨decide_eq_true (by omega), by omega, by omega, b1, b2, kx, ky, by rw [hh], by omega, by omega, b3, b4, rfl, by omega, by omega, Nat.le_refl _, y1, hw, trivial⟩ (iC hV rfl hE rfl hS rfl l k n c ty h (nvals N) N.length _ _ _ _ _ _ _ _ _ _) rfl fun g => hp2 g
        · exact Runs.of_outN tys_ok mixed [0, 1, 2, 3, 7, 5] (tCr hV rfl hE rfl hS rfl l k n c ty h (nvals N) N.length (pfN x q) i ((i + 1 : Nat) : Int) y.pre y (nvals U) U.length none (nvals O) O.length none U.length O.length g) ⟨decide_eq_true (by omega), by omega, by omega, b1, b2, kx, ky, by rw [hh], by omega, by omega, b3, b4, rfl, by omega, by omega, Nat.le_refl _, roomN _ (by omega), hw, trivial⟩ (iC hV rfl hE rfl hS rfl l k n c ty h (nvals N) N.length _ _ _ _ _ _ _ _ _ _) rfl fun g => hp2 g
  | false =>
    rw [hc] at hp hh
    have hU : U ≠ [] := fun e => by have := (hU0 e).2; rw [hc] at this; cases this
    have hp' := fun g => hp U (O ++ [y]) g rfl rfl hU
    by_cases hO : O = []
    · subst hO
      rw [MI_b _ _ _ _ _ _ _ _ _ hU, mI_b _ _ _ _ _ _ _ _ _ hU]
      refine Runs.of_outN tys_ok mixed [0, 1, 2, 3, 4, 6] (oB hV rfl hE rfl hS rfl l k n c ty h (nvals N) N.length (pfN x q) i ((i + 1 : Nat) : Int) y.pre y (nvals U) U.length none U.length g) ⟨decide_eq_true (by omega), by omega, by omega, b1, b2, kx, ky, by rw [hh], by omega, by omega, b3, b4, rfl, by omega, by omega, roomN 1 (by omega), hw, trivial⟩ (iC hV rfl hE rfl hS rfl l k n c ty h (nvals N) N.length _ _ _ _ _ _ _ _ _ _) rfl fun g => ?_
      have := hp' g
      rwa [MI_c _ _ _ _ _ _ _ _ _ hU v3, mI_c _ _ _ _ _ _ _ _ _ hU v3, v1, v2] at this
    · rw [MI_c _ _ _ _ _ _ _ _ _ hU hO, mI_c _ _ _ _ _ _ _ _ _ hU hO]
      have hp2 : ∀ g, Post .normal (fill g 0 (MC hV rfl hE rfl hS rfl l k n c ty h (nvals N) N.length ((i + 1 : Nat) : Int) U.length (O.length + 1))) (mc hV rfl hE rfl hS rfl l k n c ty h (nvals N) N.length (pfN x q) (nvals U) U.length none (nvals O ++ y.vals) (O.length + 1) none) := fun g => by
        have := hp' g
        rwa [MI_c _ _ _ _ _ _ _ _ _ hU v3, mI_c _ _ _ _ _ _ _ _ _ hU v3, v1, v2] at this
      refine Runs.roomV 5 (O.length + 1) (own := true) (ty := 33) (s := 65) (vs := nvals O) (lo := O.length) rfl ?_ ?_
      · exact Runs.of_outX tys_ok mixed (oCg hV rfl hE rfl hS rfl l k n c ty h (nvals N) N.length (pfN x q) i ((i + 1 : Nat) : Int) y.pre y (nvals U) U.length none (nvals O) 0 none U.length O.length g) ⟨decide_eq_true (by omega), by omega, by omega, b1, b2, kx, ky, by rw [hh], by omega, by omega, b3, b4, rfl, by omega, by omega, Nat.le_refl _, y1, hw, trivial⟩ (iC hV rfl hE rfl hS rfl l k n c ty h (nvals N) N.length _ _ _ _ _ _ _ _ _ _) rfl fun g => hp2 g
      · exact Runs.of_outN tys_ok mixed [0, 1, 2, 3, 4, 7] (oCr hV rfl hE rfl hS rfl l k n c ty h (nvals N) N.length (pfN x q) i ((i + 1 : Nat) : Int) y.pre y (nvals U) U.length none (nvals O) O.length none U.length O.length g) ⟨decide_eq_true (by omega), by omega, by omega, b1, b2, kx, ky, by rw [hh], by omega, by omega, b3, b4, rfl, by omega, by omega, Nat.le_refl _, roomN _ (by omega), hw, trivial⟩ (iC hV rfl hE rfl hS rfl l k n c ty h (nvals N) N.length _ _ _ _ _ _ _ _ _ _) rfl fun g => hp2 g
theorem root_of {A : List Nd} (hA : Ap A) (h0 : A ≠ []) : rootV hV hE hS A = (hS (joinV hV A), 0) := by
  unfold rootV
  rw [(ap_iff hA.ok).2 hA, cond_true, beq0_f (fun e => h0 (List.length_eq_zero_iff.1 e)), cond_false]
theorem last (l : List Lf) (k : Int) (n c : Nat) (ty : TypeId) (h : B32) (N : List Nd) (x : Nd) (U O : List Nd) (hU0 : U ≠ []) (hUl : U.length ≤ 4000000) (hOl : O.length ≤ 3000000) (hU : Ap U) (hP : Ap (joinV hV U :: O)) (he : hS (joinV hV (joinV hV U :: O)) = h) (g : Nat → SV) :
    RunsF Tryd.prog GT 1 L (fill g 0 (MI l k n c ty h (nvals N) N.length N.length U O)) (mI l k n c ty h (nvals N) N.length x U O) (fun e t' m' => e = .exit 0 ∧ RunsF Tryd.prog GT 1 D t' m' (EndsM tys fn (endsQ (cBool.enc true) .none))) := by
  have hu := List.length_pos_iff.2 hU0
  have q0 : ((U.length : Int) == 0) = false := by rw [← Bool.not_eq_true, beq_iff_eq]; omega
  have lu := nvals_len U
  have lo := nvals_len O
  have d1 : ((nvals U).drop (0 + 0)).take (U.length * 65) = nvals U := dtn rfl
  have d2 : ((nvals O).drop (0 + 0)).take (O.length * 65) = nvals O := dtn rfl
  have ov : ndS (ovV hV U) = ndS (joinV hV U, 0) := by
    unfold ovV
    rw [(ap_iff hU.ok).2 hU, beq0_f (by omega)]
    rfl
  have kp := hP.ok
  have rt : hsS (rootV hV hE hS (joinV hV U :: O)) = hsS (h, 0) := by rw [root_of hP (List.cons_ne_nil _ _), he]
  generalize hj : joinV hV U = y at *
  have yl := Nd.vals_len y
  by_cases hO : O = []
  · subst hO
    rw [MI_b _ _ _ _ _ _ _ _ _ hU0, mI_b _ _ _ _ _ _ _ _ _ hU0]
    refine Runs.of_outX tys_ok mixed (xB hV rfl hE rfl hS rfl l k n c ty h (nvals N) N.length x (nvals U) U.length none N.length U.length g) ⟨decide_eq_false (by omega), trivial⟩ (jB hV rfl hE rfl hS rfl l k n c ty h (nvals N) N.length _ _ _ _ _) rfl fun g => ⟨rfl, ?_⟩
    have e1 : ((y.vals ++ ([] : List Value)).drop (0 + 0)).take ((1 + 0) * 65) = nvals [y] := by
      rw [List.append_nil, nvals_one]; rfl
    refine Runs.of_outN tys_ok mixed [0] (fB hV rfl hE rfl hS rfl l k n c ty h (nvals N) N.length x (nvals U) U.length y h g) ?_ (by kernel_rfl) rfl fun g => EndsM.ret (zr g _) rfl
    rw [d1, d1, e1, ndDec_vals, ndDec_vals]
    exact ⟨q0, by omega, Nat.le_refl _, rfl, hu, roomN _ hUl, by omega, Nat.le_refl _, rfl, rfl, by unfold boundN; omega, hU.ok, ov, rfl, by omega, Nat.le_refl _, fun v hv => (by cases hv), by rw [List.append_nil]; omega, Nat.le_refl _, rfl, rfl, by unfold boundN; omega, kp, rt, eqL_refl _, trivial⟩
  · rw [MI_c _ _ _ _ _ _ _ _ _ hU0 hO, mI_c _ _ _ _ _ _ _ _ _ hU0 hO]
    have ho := List.length_pos_iff.2 hO
    refine Runs.of_outX tys_ok mixed (xC hV rfl hE rfl hS rfl l k n c ty h (nvals N) N.length x (nvals U) U.length none (nvals O) O.length none N.length U.length O.length g) ⟨decide_eq_false (by omega), trivial⟩ (jC hV rfl hE rfl hS rfl l k n c ty h (nvals N) N.length _ _ _ _ _ _ _ _ _) rfl fun g => ⟨rfl, ?_⟩
    have e0 : (y.vals.drop (0 + 0)).take ((0 + 1) * 65) ++ nvals O = nvals (y :: O) := rfl
    have e1 : ((nvals (y :: O)).drop (0 + 0)).take ((0 + 1 + O.length) * 65) = nvals (y :: O) := dtn (by rw [List.length_cons]; omega)
    refine Runs.of_outN tys_ok mixed [0] (fC hV rfl hE rfl hS rfl l k n c ty h (nvals N) N.length x (nvals U) U.length (nvals O) O.length y h g) ?_ (by kernel_rfl) rfl fun g => EndsM.ret (zr g _) rfl
    rw [d1, d1, d2, e0, e1, ndDec_vals, ndDec_vals]
    exact ⟨q0, by omega, Nat.le_refl _, rfl, hu, roomN _ hUl, by omega, Nat.le_refl _, rfl, rfl, by unfold boundN; omega, hU.ok, ov, by omega, by omega, by omega, roomN _ (by omega), by rw [nvals_len, List.length_cons]; omega, Nat.le_refl _, rfl, by rw [List.length_cons]; omega, by unfold boundN; omega, kp, rt, eqL_refl _, trivial⟩
theorem rest (l : List Lf) (k : Int) (n c : Nat) (ty : TypeId) (N : List Nd) (hA : Ap N) (h256 : ∀ n ∈ N, n.len = 256) (h0 : N ≠ []) (hm : N.length ≤ 2000000) (q : Nat) (hq : q ≤ 256) (h : B32) (he : hS (joinV hV N) = h) (g : Nat → SV) :
    RunsF Tryd.prog GT 1 (.seq C8 (.seq (.seq A1 (.block 0 (.loop L))) D)) (fill g 0 (M0 hV rfl hE rfl hS rfl l k n c ty h (nvals N) N.length)) (ma hV rfl hE rfl hS rfl l k n c ty h (nvals N) N.length ⟨q, zB, zB⟩) (EndsM tys fn (endsQ (cBool.enc true) .none)) := by
  have hN := List.length_pos_iff.2 h0
  obtain ⟨p1, p2, p3, p4⟩ := parts hV_ok hA h256 h0 hq
  have ka := (hA.ok _ (getD_mem hN zn)).1
  have hN0 : prN (N.getD 0 zn).pre q (N.getD 0 zn) = true := decide_eq_true (by rw [com_self]; exact hq)
  have b1 : 0 + (offI 0 ((0 : Nat) : Int) 65 + 1) + 32 ≤ (nvals N).length := by have := offs 0 65; rw [nvals_len]; omega
  have b2 : SV.o (.g (takeV (nvals N) (0 * 65 + 1) 32)) = cB32.enc (N.getD 0 zn).pre := ld_pre N hN
  generalize ha : (N.getD 0 zn).pre = a at *
  refine Runs.seq (Runs.of_outX tys_ok mixed (c8 hV rfl hE rfl hS rfl l k n c ty h (nvals N) N.length q a (fstV a q) g) ⟨decide_eq_true (by omega), by omega, by omega, b1, b2, ka, by omega, by omega, rfl, trivial⟩ (i0 hV rfl hE rfl hS rfl l k n c ty h (nvals N) N.length _) rfl fun g => ?_)
  refine Runs.seq (Runs.seq (Runs.of_outX tys_ok mixed (a1 hV rfl hE rfl hS rfl l k n c ty h (nvals N) N.length (pfN a q) g) trivial (iA hV rfl hE rfl hS rfl l k n c ty h (nvals N) N.length _ _) rfl fun g => ?_))
  refine Runs.block ?_
  refine Runs.loopX (fun (i : Nat) => MI l k n c ty h (nvals N) N.length i ((N.take i).filter (prN a q)) ((N.take i).filter fun n => !prN a q n)) (fun i => mI l k n c ty h (nvals N) N.length (pfN a q) ((N.take i).filter (prN a q)) ((N.take i).filter fun n => !prN a q n)) (fun i => i ≤ N.length ∧ (0 < i → (N.take i).filter (prN a q) ≠ [])) (fun i => N.length - i) ?_ 0 ⟨Nat.zero_le _, fun h => absurd h (by omega)⟩ g
  rintro i g ⟨hi, hne⟩
  have hb1 : ((N.take i).filter (prN a q)).length ≤ i := Nat.le_trans (List.length_filter_le _ _) (by rw [List.length_take]; omega)
  have hb2 : ((N.take i).filter fun n => !prN a q n).length ≤ i := Nat.le_trans (List.length_filter_le _ _) (by rw [List.length_take]; omega)
  rcases Nat.lt_or_ge i N.length with hlt | hge
  · refine turn l k n c ty h N (by omega) hA.ok a ka q hq _ _ i hlt hb1 hb2 (fun e => ?_) g fun U' O' g e1 e2 hu => ?_
    · rcases Nat.eq_zero_or_pos i with rfl | hpos
      · exact ⟨rfl, hN0⟩
      · exact absurd e (hne hpos)
    · rw [← filt_sc hlt] at e1
      rw [← filt_sc hlt (fun n => !prN a q n)] at e2
      subst e1 e2
      exact ⟨i + 1, g, rfl, rfl, ⟨by omega, fun _ => hu⟩, by omega⟩
  · obtain rfl : i = N.length := by omega
    rw [List.take_length] at hb1 hb2 ⊢
    refine Runs.mono (last l k n c ty h N (pfN a q) _ _ p1 (by omega) (by omega) p2 p3 (by rw [p4]; exact he) g) fun e t' m' ⟨he', hr⟩ => ?_
    subst he'
    exact hr
theorem run (l : List Lf) (k : Int) (n c : Nat) (ty : TypeId) (hk : (Lit.int .u8 k).wf = true) (hn : l.length = n) (h0 : 0 < n) (hm : n ≤ 2000000) (hc : n ≤ c) (hok : AllL l) :
    RunsF Tryd.prog GT 1 body (startT fn [.o (.a (.sld 0 0 0 n c)), .o (.a (int1 .u8 k))]) [⟨false, ty, .prv (lvals l)⟩] (EndsM tys fn (endsQ (cBool.enc true) .none)) := by
  have hl : (lvals l).length = n * 64 := by rw [← hn]; exact lvals_len l
  have hY : ((lvals l).drop (0 + 0)).take (n * 64) = lvals l := dtw hl
  have hlen := dstA_len l n
  have hne := dstA_pos l n h0
  have hD : AllL (dstA l n) := fun z hz => hok z (dstA_mem l n (by omega) z hz)
  have hd : rndD (dstA l n) (dstA l n).length = false := ne_dup (dstA_ne l n) _ (Nat.le_refl _)
  have hp := List.length_pos_iff.2 hne
  have hV1 : ((lvals (dstA l n)).drop (0 + 0)).take ((dstA l n).length * 64) = lvals (dstA l n) := dtw (lvals_len _)
  have hA := rnd_ap hD hd
  have hR := rndA_len (dstA l n) (dstA l n).length
  have hkr := rnd_nok hD (dstA l n).length (Nat.le_refl _)
  have h256 : ∀ x ∈ rndA (dstA l n) (dstA l n).length, x.len = 256 := fun x hx => by
    obtain ⟨z, _, rfl⟩ := mem_rnd hx
    rfl
  have hwf : 0 ≤ k ∧ k < 256 := by
    simp [Lit.wf, IntKind.min, IntKind.max, IntKind.signed, IntKind.bits] at hk
    exact ⟨hk.1, by omega⟩
  have hq : (IntKind.i64.wrap k).tmod 12 = (((IntKind.i64.wrap k).tmod 12).toNat : Int) ∧ ((IntKind.i64.wrap k).tmod 12).toNat ≤ 256 := by
    have : IntKind.i64.wrap k = k := by rw [IntKind.wrap_i64]; omega
    rw [this]
    have a := Int.tmod_nonneg 12 hwf.1
    have b := Int.tmod_lt_of_pos k (show (0 : Int) < 12 by omega)
    omega
  obtain ⟨hq1, hq2⟩ := hq
  have s := s0 hV rfl hE rfl hS rfl l k n c ty (hS (joinV hV (rndA (dstA l n) (dstA l n).length))) (((IntKind.i64.wrap k).tmod 12).toNat : Int)
  rw [hY, lfDec_vals, hV1, lfDec_vals] at s
  generalize ((IntKind.i64.wrap k).tmod 12).toNat = q at *
  generalize dstA l n = D at *
  have hz : (nvals (rndA D D.length)).length = D.length * 65 := by rw [nvals_len, hR]
  have d1 : ((nvals (rndA D D.length)).drop (0 + 0)).take (D.length * 65) = nvals (rndA D D.length) := dtn hR
  have hne2 : rndA D D.length ≠ [] := by rw [← List.length_pos_iff]; omega
  refine Runs.of_outNP tys_ok mixed 7 [0, 2, 4, 5] s ?_ (i0 _ _ _ _ _ _ _ _ _ _ _ _ _ _ _) (by kernel_rfl) fun g => ?_
  · rw [d1, d1, ndDec_vals]
    exact ⟨by omega, hc, rfl, hn, by omega, h0, by rw [lvals_len]; omega, Nat.le_refl _, rfl, rfl, by omega, hD, hd, hp, by omega, Nat.le_refl _, rfl, hp, roomN _ (by omega), by omega, Nat.le_refl _, rfl, hR, by unfold boundN; omega, hkr, by rw [root_of hA hne2], hq1, trivial⟩
  rw [suf_7]
  have := rest l k n c ty (rndA D D.length) hA h256 hne2 (by omega) q hq2 _ rfl g
  rw [hR] at this
  exact this
end lpar.w
end Go.Proofs.YtdccehmekkcheaaDoor

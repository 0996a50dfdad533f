/- Packages tree, beaconref11: the node over nodes, the root of nodes: walks, contracts of both sides. -/
import Derived.Test.YtdccehmekkcheaaDoorTTrU
namespace Go.Proofs.YtdccehmekkcheaaDoor
open Go Go.Eng Go.RowKit
set_option linter.unusedVariables false
set_option linter.unusedSimpArgs false
set_option maxRecDepth 100000
theorem tjn.ih (H : Nd → Nd → B32) (hH : H = hV) : tjn.IH H boundN := tjn.all H hH boundN (Nat.le_refl _)
theorem rov.ih (H : Nd → Nd → B32) (hH : H = hV) : rov.IH H boundN := rov.all H hH boundN (Nat.le_refl _)
noncomputable def tjn.conF (H : Nd → Nd → B32) (hH : H = hV) : Con Tryd.prog GT := tjn.con H boundN (tjn.ih H hH)
noncomputable def rov.conF (H : Nd → Nd → B32) (hH : H = hV) : Con Tryd.prog GT := rov.con H boundN (rov.ih H hH)
def rootV (H : Nd → Nd → B32) (e : B32) (S : Nd → B32) (l : List Nd) : B32 × Int := bif apartV l then (bif Nat.beq l.length 0 then (e, 0) else (S (joinV H l), 0)) else (zB, 1)
def hsS (x : B32 × Int) : SV := .t [.g (cB32.row x.1), .a (int1 .i64 x.2)]
noncomputable def hE : B32 := shaV [0]
noncomputable def hS (n : Nd) : B32 := shaV (rtB n)
theorem beq0_t {n : Nat} (h : n = 0) : Nat.beq n 0 = true := by subst h; rfl
theorem beq0_f {n : Nat} (h : n ≠ 0) : Nat.beq n 0 = false := by rw [← Bool.not_eq_true, Nat.beq_eq]; exact h
theorem apN_two {l : List Nd} (n : Nat) (hn : l.length = n) : ((nvals l).drop (0 + 0)).take (n * 65) = nvals (ndDec (((nvals l).drop (0 + 0)).take (n * 65))) ∧ ndDec (((nvals l).drop (0 + 0)).take (n * 65)) = l := by
  rw [dtn hn, ndDec_vals]; exact ⟨rfl, rfl⟩
namespace trt
noncomputable abbrev fn := Tryd.f25
noncomputable def body : Code := bodyOf fn
noncomputable def Γ (H : Nd → Nd → B32) (hH : H = hV) : Cons Tryd.prog GT := [tap.con, tjn.conF H hH, ttop.con, S3.s256_con]
def M (e : Int) : List (Option SV) := maskL 19 0 [(2, .o (.a (.ptr 1 0))), (3, .o (.a (int1 .i64 e)))]
def mem (l : List Nd) (ty : TypeId) (z : B32) : List Blk := [⟨false, ty, .prv (nvals l)⟩, ⟨true, 24, .lit (cB32.row z)⟩]
theorem ids (l : List Nd) (ty : TypeId) (z : B32) (e : Int) : idsIn (mem l ty z).length (M e) (mem l ty z) = true := by kernel_rfl
theorem zr (l : List Nd) (ty : TypeId) (z : B32) (e : Int) (g : Nat → SV) : eRes tys (fill g 0 (M e)) (fun k => (mem l ty z)[k]?) fn.results.toList = some [.g (cB32.row z), .a (int1 .i64 e)] := by kernel_rfl
theorem nil (H : Nd → Nd → B32) (hH : H = hV) (a : Option Addr) (h : B32) : runOut (Γ H hH) tys fn 100 [.o (.a (.v (.slice a 0 0)))] [(14, [.s (cB32.enc h)])] = some (hsS (h, 0), [0 + 1 ≤ 1, 1 ≤ 1, cB32.enc (S3.finB (S3.absorb S3.S0 ((([(0 : Int)]).drop 0).take 1))) = cB32.enc h]) := by kernel_rfl
theorem bad (H : Nd → Nd → B32) (hH : H = hV) (l : List Nd) (n c : Nat) (ty : TypeId) : outX (mem l ty zB).length (M 1) (exec (Γ H hH) tys 100 body ⟨startT fn [.o (.a (.sld 0 0 0 n c))], [⟨false, ty, .prv (nvals l)⟩], [(6, [.s (cBool.enc false)])]⟩) = some (.ret, live (M 1), (M 1).length, mem l ty zB, [0 + 0 + n * 65 ≤ (nvals l).length, n ≤ c, ((nvals l).drop (0 + 0)).take (n * 65) = nvals (ndDec (((nvals l).drop (0 + 0)).take (n * 65))), (ndDec (((nvals l).drop (0 + 0)).take (n * 65))).length = n, n < boundN, AllOk (ndDec (((nvals l).drop (0 + 0)).take (n * 65))), cBool.enc (apartV (ndDec (((nvals l).drop (0 + 0)).take (n * 65)))) = cBool.enc false]) := by kernel_rfl
theorem zero (H : Nd → Nd → B32) (hH : H = hV) (l : List Nd) (n c : Nat) (ty : TypeId) (h : B32) : outX (mem l ty h).length (M 0) (exec (Γ H hH) tys 100 body ⟨startT fn [.o (.a (.sld 0 0 0 n c))], [⟨false, ty, .prv (nvals l)⟩], [(6, [.s (cBool.enc true)]), (12, [.b true]), (14, [.s (cB32.enc h)])]⟩) = some (.ret, live (M 0), (M 0).length, mem l ty h, [0 + 0 + n * 65 ≤ (nvals l).length, n ≤ c, ((nvals l).drop (0 + 0)).take (n * 65) = nvals (ndDec (((nvals l).drop (0 + 0)).take (n * 65))), (ndDec (((nvals l).drop (0 + 0)).take (n * 65))).length = n, n < boundN, AllOk (ndDec (((nvals l).drop (0 + 0)).take (n * 65))), cBool.enc (apartV (ndDec (((nvals l).drop (0 + 0)).take (n * 65)))) = cBool.enc true, ((n : Int) == 0) = true, 0 + 1 ≤ 1, 1 ≤ 1, cB32.enc (S3.finB (S3.absorb S3.S0 ((([(0 : Int)]).drop 0).take 1))) = cB32.enc h]) := by kernel_rfl
theorem good (H : Nd → Nd → B32) (hH : H = hV) (l : List Nd) (n c : Nat) (ty : TypeId) (x : Nd) (h : B32) : outX (mem l ty h).length (M 0) (exec (Γ H hH) tys 100 body ⟨startT fn [.o (.a (.sld 0 0 0 n c))], [⟨false, ty, .prv (nvals l)⟩], [(6, [.s (cBool.enc true)]), (12, [.b false]), (16, [.s (cNd.enc x)]), (18, [.s (cB32.enc h)])]⟩) = some (.ret, live (M 0), (M 0).length, mem l ty h, [0 + 0 + n * 65 ≤ (nvals l).length, n ≤ c, ((nvals l).drop (0 + 0)).take (n * 65) = nvals (ndDec (((nvals l).drop (0 + 0)).take (n * 65))), (ndDec (((nvals l).drop (0 + 0)).take (n * 65))).length = n, n < boundN, AllOk (ndDec (((nvals l).drop (0 + 0)).take (n * 65))), cBool.enc (apartV (ndDec (((nvals l).drop (0 + 0)).take (n * 65)))) = cBool.enc true, ((n : Int) == 0) = false, 0 + 0 + n * 65 ≤ (nvals l).length, n ≤ c, ((nvals l).drop (0 + 0)).take (n * 65) = nvals (ndDec (((nvals l).drop (0 + 0)).take (n * 65))), (ndDec (((nvals l).drop (0 + 0)).take (n * 65))).length = n, n < boundN, 1 ≤ n, AllOk (ndDec (((nvals l).drop (0 + 0)).take (n * 65))), apartV (ndDec (((nvals l).drop (0 + 0)).take (n * 65))) = true, cNd.enc (joinV H (ndDec (((nvals l).drop (0 + 0)).take (n * 65)))) = cNd.enc x, 0 + 67 ≤ 67, 67 ≤ 67, cB32.enc (S3.finB (S3.absorb S3.S0 (((rtB x).drop 0).take 67))) = cB32.enc h]) := by kernel_rfl
theorem run (H : Nd → Nd → B32) (hH : H = hV) (E : B32) (hE' : E = hE) (S : Nd → B32) (hS' : S = hS) (l : List Nd) (n c : Nat) (ty : TypeId) (hn : l.length = n) (hm : n < boundN) (hc : n ≤ c) (hok : AllOk l) : RunsF Tryd.prog GT 1 body (startT fn [.o (.a (.sld 0 0 0 n c))]) [⟨false, ty, .prv (nvals l)⟩] (EndsM tys fn (endsQ (hsS (rootV H E S l)) .none)) := by
  obtain ⟨y1, y2⟩ := apN_two n hn
  have hl : (nvals l).length = n * 65 := by rw [← hn]; exact nvals_len l
  unfold rootV
  cases ha : apartV l with
  | false =>
    rw [cond_false]
    exact Runs.of_outX tys_ok mixed (bad H hH l n c ty) ⟨by omega, hc, y1, by rw [y2]; exact hn, hm, by rw [y2]; exact hok, by rw [y2, ha], trivial⟩ (ids _ _ _ _) rfl fun g => EndsM.ret (zr _ _ _ _ g) rfl
  | true =>
    rw [cond_true]
    rcases Nat.eq_zero_or_pos n with h0 | h0
    · rw [beq0_t (by omega), cond_true]
      refine Runs.of_outX tys_ok mixed (zero H hH l n c ty E) ⟨by omega, hc, y1, by rw [y2]; exact hn, hm, by rw [y2]; exact hok, by rw [y2, ha], by rw [beq_iff_eq]; omega, by omega, by omega, ?_, trivial⟩ (ids _ _ _ _) rfl fun g => EndsM.ret (zr _ _ _ _ g) rfl
      rw [dt (n := 1) rfl, sha_of (by show 1 ≤ _; omega), hE']
      rfl
    · have hz : ((n : Int) == 0) = false := by rw [← Bool.not_eq_true, beq_iff_eq]; omega
      rw [beq0_f (by omega), cond_false]
      have hA := (ap_iff hok).1 ha
      have okx := (join_good H (fun a b => by rw [hH]; exact hV_ok a b) hA (by rw [← List.length_pos_iff]; omega)).2.1
      refine Runs.of_outX tys_ok mixed (good H hH l n c ty (joinV H l) (S (joinV H l))) ⟨by omega, hc, y1, by rw [y2]; exact hn, hm, by rw [y2]; exact hok, by rw [y2, ha], hz, by omega, hc, y1, by rw [y2]; exact hn, hm, h0, by rw [y2]; exact hok, by rw [y2, ha], by rw [y2], by omega, by omega, ?_, trivial⟩ (ids _ _ _ _) rfl fun g => EndsM.ret (zr _ _ _ _ g) rfl
      rw [dt (n := 67) rfl, sha_of (by show 67 ≤ _; omega), hS']
      rfl
theorem nil_ok (H : Nd → Nd → B32) (hH : H = hV) (E : B32) (hE' : E = hE) (S : Nd → B32) (hS' : S = hS) : Holds [0 + 1 ≤ 1, 1 ≤ 1, cB32.enc (S3.finB (S3.absorb S3.S0 ((([(0 : Int)]).drop 0).take 1))) = cB32.enc E] := ⟨by omega, by omega, by rw [dt (n := 1) rfl, sha_of (by show 1 ≤ _; omega), hE']; rfl, trivial⟩
def spec (H : Nd → Nd → B32) (E : B32) (S : Nd → B32) : List PArg → Option (SV × LEff × Cst)
  | [.winv _ vs n ty] => some (hsS (rootV H E S (ndDec vs)), .none, [vs = nvals (ndDec vs), (ndDec vs).length = n, n < boundN, AllOk (ndDec vs)])
  | [.val (.o (.a (.v (.slice a 0 0))))] => some (hsS (E, 0), .none, [])
  | _ => none
noncomputable def con (H : Nd → Nd → B32) (hH : H = hV) (E : B32) (hE' : E = hE) (S : Nd → B32) (hS' : S = hS) : Con Tryd.prog GT := Con.parts tys_ok 25 fn Tryd.func25 (by kernel_rfl) (c := body) (by kernel_rfl) [.winv 65] (spec H E S)
  (fun ps r e p h hp => by
    unfold spec at h
    split at h <;> cases h
    · exact ⟨rfl, fun b hb => by simp only [locBlks, PArg.blk, List.append_nil, List.nil_append, List.mem_singleton] at hb; rw [hb]⟩
    · exact ⟨rfl, fun b hb => by simp [locBlks, PArg.blk] at hb⟩)
  (fun ps r e p cap h hp hi => by
    unfold spec at h
    split at h <;> cases h
    · rename_i s vs n ty
      obtain ⟨p1, p2, p3, p4, _⟩ := hp
      have q := run H hH E hE' S hS' (ndDec vs) n (cap 0) ty p2 p3 hi.1.2 p4
      rw [← p1] at q
      exact q
    · exact runs_of_out1 tys_ok mixed (by kernel_rfl) (nil H hH _ E) (nil_ok H hH E hE' S hS'))
end trt
end Go.Proofs.YtdccehmekkcheaaDoor

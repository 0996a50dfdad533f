/- The law TreeOpens: walk. -/
import Derived.Test.YtdccehmekkcheaaDoorTOpn
namespace Go.Proofs.YtdccehmekkcheaaDoor
open Go Go.Eng Go.RowKit
set_option linter.unusedVariables false
set_option linter.unusedSimpArgs false
set_option maxRecDepth 100000
theorem op_eq {l : List Lf} (h : AllL l) (hd : rndD l l.length = false) (x : B32) : opT hV l x = opR hV l x := by
  have hHk : ∀ a b, BOk (hV a b) := hV_ok
  unfold opT opR
  rw [rnd_tnd h hd]
  exact aroV_wit hV hHk true ((ap_iff (tnd_ok h)).1 (tnd_apart h hd)) _
theorem op_len {l : List Lf} (h : AllL l) (hd : rndD l l.length = false) (x : B32) : (opT hV l x).length ≤ l.length := by
  have := aroV_len hV hV_ok true ((ap_iff (tnd_ok h)).1 (tnd_apart h hd)) [x]
  rw [tnd_len] at this
  exact this
namespace lope
noncomputable abbrev fn := Tryd.f7
noncomputable def body : Code := bodyOf fn
def MR : List (Option SV) := maskL 32 0 [(4, .o (.a (.v (.bool true))))]
theorem zr (g : Nat → SV) (mm : Nat → Option Blk) : eRes tys (fill g 0 MR) mm fn.results.toList = some [.a (bool1 true)] := by kernel_rfl
noncomputable def ΓP (H : Nd → Nd → B32) (hH : H = hV) : Cons Tryd.prog GT := [awk11.con, rop.conP H hH, cpl11.conP, top.conP H hH, smn.con]
noncomputable def ΓE (H : Nd → Nd → B32) (hH : H = hV) : Cons Tryd.prog GT := [awk11.con, rop.conE H hH, cpl11.conP, top.conE H hH, smn.con]
noncomputable def ΓZ (H : Nd → Nd → B32) (hH : H = hV) : Cons Tryd.prog GT := [awk11.con, rop.conZ H hH, cpl11.conZ, top.conZ H hH, smn.con]
theorem sP (H : Nd → Nd → B32) (hH : H = hV) (l : List Lf) (n c : Nat) (ty : TypeId) (x : B32) : outN [0] (MR) (exec (ΓP H hH ) tys 100 body ⟨startT fn [.o (.a (.sld 0 0 0 n c)), cB32.enc x], [⟨false, ty, .prv (lvals l)⟩], []⟩) = some (.ret, (live (MR)).map (SV.ren (piF [0])), (MR).length, (([⟨false, ty, .prv (lvals l)⟩] : List Blk)).map (fun b => some (b.ren (piF [0]))), [0 + 0 + n * 64 ≤ (lvals l).length, n ≤ c, ((lvals l).drop (0 + 0)).take (n * 64) = lvals (lfDec (((lvals l).drop (0 + 0)).take (n * 64))), (lfDec (((lvals l).drop (0 + 0)).take (n * 64))).length = n, n ≤ 4000000, AllL (lfDec (((lvals l).drop (0 + 0)).take (n * 64))), BOk x, 0 < n, rndD (lfDec (((lvals l).drop (0 + 0)).take (n * 64))) n = false, 0 + 0 + n * 64 ≤ (lvals l).length, n ≤ c, 64 = 64, 0 < n, Room Tryd.prog 30 n, 0 + 0 + n * 64 ≤ (((lvals l).drop (0 + 0)).take (n * 64)).length, n ≤ n, ((((lvals l).drop (0 + 0)).take (n * 64)).drop (0 + 0)).take (n * 64) = lvals (lfDec (((((lvals l).drop (0 + 0)).take (n * 64)).drop (0 + 0)).take (n * 64))), (lfDec (((((lvals l).drop (0 + 0)).take (n * 64)).drop (0 + 0)).take (n * 64))).length = n, n ≤ 4000000, AllL (lfDec (((((lvals l).drop (0 + 0)).take (n * 64)).drop (0 + 0)).take (n * 64))), BOk x, 0 < n, apartV (tndV (lfDec (((((lvals l).drop (0 + 0)).take (n * 64)).drop (0 + 0)).take (n * 64)))) = true, 0 + 0 + (opT H (lfDec (((((lvals l).drop (0 + 0)).take (n * 64)).drop (0 + 0)).take (n * 64))) x).length * 65 ≤ (nvals (opT H (lfDec (((((lvals l).drop (0 + 0)).take (n * 64)).drop (0 + 0)).take (n * 64))) x)).length, (opT H (lfDec (((((lvals l).drop (0 + 0)).take (n * 64)).drop (0 + 0)).take (n * 64))) x).length ≤ (opT H (lfDec (((((lvals l).drop (0 + 0)).take (n * 64)).drop (0 + 0)).take (n * 64))) x).length, 0 + 0 + (opR H (lfDec (((lvals l).drop (0 + 0)).take (n * 64))) x).length * 65 ≤ (nvals (opR H (lfDec (((lvals l).drop (0 + 0)).take (n * 64))) x)).length, (opR H (lfDec (((lvals l).drop (0 + 0)).take (n * 64))) x).length ≤ (opR H (lfDec (((lvals l).drop (0 + 0)).take (n * 64))) x).length, ((nvals (opT H (lfDec (((((lvals l).drop (0 + 0)).take (n * 64)).drop (0 + 0)).take (n * 64))) x)).drop (0 + 0)).take ((opT H (lfDec (((((lvals l).drop (0 + 0)).take (n * 64)).drop (0 + 0)).take (n * 64))) x).length * 65) = ((nvals (opR H (lfDec (((lvals l).drop (0 + 0)).take (n * 64))) x)).drop (0 + 0)).take ((opR H (lfDec (((lvals l).drop (0 + 0)).take (n * 64))) x).length * 65), (opT H (lfDec (((((lvals l).drop (0 + 0)).take (n * 64)).drop (0 + 0)).take (n * 64))) x).length = (opR H (lfDec (((lvals l).drop (0 + 0)).take (n * 64))) x).length, ((nvals (opT H (lfDec (((((lvals l).drop (0 + 0)).take (n * 64)).drop (0 + 0)).take (n * 64))) x)).drop (0 + 0)).take ((opT H (lfDec (((((lvals l).drop (0 + 0)).take (n * 64)).drop (0 + 0)).take (n * 64))) x).length * 65) = nvals (ndDec (((nvals (opT H (lfDec (((((lvals l).drop (0 + 0)).take (n * 64)).drop (0 + 0)).take (n * 64))) x)).drop (0 + 0)).take ((opT H (lfDec (((((lvals l).drop (0 + 0)).take (n * 64)).drop (0 + 0)).take (n * 64))) x).length * 65))), (ndDec (((nvals (opT H (lfDec (((((lvals l).drop (0 + 0)).take (n * 64)).drop (0 + 0)).take (n * 64))) x)).drop (0 + 0)).take ((opT H (lfDec (((((lvals l).drop (0 + 0)).take (n * 64)).drop (0 + 0)).take (n * 64))) x).length * 65))).length = (opT H (lfDec (((((lvals l).drop (0 + 0)).take (n * 64)).drop (0 + 0)).take (n * 64))) x).length, (opT H (lfDec (((((lvals l).drop (0 + 0)).take (n * 64)).drop (0 + 0)).take (n * 64))) x).length ≤ 8000000]) := by kernel_rfl
theorem sE (H : Nd → Nd → B32) (hH : H = hV) (l : List Lf) (n c : Nat) (ty : TypeId) (x : B32) : outN [0] (MR) (exec (ΓE H hH ) tys 100 body ⟨startT fn [.o (.a (.sld 0 0 0 n c)), cB32.enc x], [⟨false, ty, .prv (lvals l)⟩], []⟩) = some (.ret, (live (MR)).map (SV.ren (piF [0])), (MR).length, (([⟨false, ty, .prv (lvals l)⟩] : List Blk)).map (fun b => some (b.ren (piF [0]))), [0 + 0 + n * 64 ≤ (lvals l).length, n ≤ c, ((lvals l).drop (0 + 0)).take (n * 64) = lvals (lfDec (((lvals l).drop (0 + 0)).take (n * 64))), (lfDec (((lvals l).drop (0 + 0)).take (n * 64))).length = n, n ≤ 4000000, AllL (lfDec (((lvals l).drop (0 + 0)).take (n * 64))), BOk x, rndD (lfDec (((lvals l).drop (0 + 0)).take (n * 64))) n = true, 0 + 0 + n * 64 ≤ (lvals l).length, n ≤ c, 64 = 64, 0 < n, Room Tryd.prog 30 n, 0 + 0 + n * 64 ≤ (((lvals l).drop (0 + 0)).take (n * 64)).length, n ≤ n, ((((lvals l).drop (0 + 0)).take (n * 64)).drop (0 + 0)).take (n * 64) = lvals (lfDec (((((lvals l).drop (0 + 0)).take (n * 64)).drop (0 + 0)).take (n * 64))), (lfDec (((((lvals l).drop (0 + 0)).take (n * 64)).drop (0 + 0)).take (n * 64))).length = n, n ≤ 4000000, AllL (lfDec (((((lvals l).drop (0 + 0)).take (n * 64)).drop (0 + 0)).take (n * 64))), BOk x, apartV (tndV (lfDec (((((lvals l).drop (0 + 0)).take (n * 64)).drop (0 + 0)).take (n * 64)))) = false]) := by kernel_rfl
theorem sZ (H : Nd → Nd → B32) (hH : H = hV) (l : List Lf) (n c : Nat) (ty : TypeId) (x : B32) : outN [0] (MR) (exec (ΓZ H hH ) tys 100 body ⟨startT fn [.o (.a (.sld 0 0 0 n c)), cB32.enc x], [⟨false, ty, .prv (lvals l)⟩], []⟩) = some (.ret, (live (MR)).map (SV.ren (piF [0])), (MR).length, (([⟨false, ty, .prv (lvals l)⟩] : List Blk)).map (fun b => some (b.ren (piF [0]))), [0 + 0 + n * 64 ≤ (lvals l).length, n ≤ c, ((lvals l).drop (0 + 0)).take (n * 64) = lvals (lfDec (((lvals l).drop (0 + 0)).take (n * 64))), (lfDec (((lvals l).drop (0 + 0)).take (n * 64))).length = n, n ≤ 4000000, AllL (lfDec (((lvals l).drop (0 + 0)).take (n * 64))), BOk x, n = 0, 0 + 0 + n * 64 ≤ (lvals l).length, n ≤ c, 64 = 64, n = 0, 0 + 0 + 0 * 64 ≤ 0, 0 ≤ 0, (([] : List Value).drop (0 + 0)).take (0 * 64) = lvals (lfDec ((([] : List Value).drop (0 + 0)).take (0 * 64))), (lfDec ((([] : List Value).drop (0 + 0)).take (0 * 64))).length = 0, 0 ≤ 4000000, AllL (lfDec ((([] : List Value).drop (0 + 0)).take (0 * 64))), BOk x, 0 = 0]) := by kernel_rfl
theorem sN (H : Nd → Nd → B32) (hH : H = hV) (x : B32) (a : Option Addr) : outN [] MR (exec (ΓZ H hH ) tys 100 body ⟨startT fn [.o (.a (.v (.slice a 0 0))), cB32.enc x], [], []⟩) = some (.ret, (live MR).map (SV.ren (piF [])), MR.length, ([] : List Blk).map (fun b => some (b.ren (piF []))), [BOk x, 0 + 0 + 0 * 64 ≤ 0, 0 ≤ 0, (([] : List Value).drop (0 + 0)).take (0 * 64) = lvals (lfDec ((([] : List Value).drop (0 + 0)).take (0 * 64))), (lfDec ((([] : List Value).drop (0 + 0)).take (0 * 64))).length = 0, 0 ≤ 4000000, AllL (lfDec ((([] : List Value).drop (0 + 0)).take (0 * 64))), BOk x, 0 = 0]) := by kernel_rfl
theorem lfDec0 : lfDec ((([] : List Value).drop (0 + 0)).take (0 * 64)) = [] := by rw [show ((([] : List Value).drop (0 + 0)).take (0 * 64)) = [] by simp]; exact lfDec_vals []
theorem run (l : List Lf) (n c : Nat) (ty : TypeId) (x : B32) (hn : l.length = n) (hm : n ≤ 4000000) (hr : 0 < n → Room Tryd.prog 30 n) (hc : n ≤ c) (hok : AllL l) (hx : BOk x) : RunsF Tryd.prog GT 1 body (startT fn [.o (.a (.sld 0 0 0 n c)), cB32.enc x]) [⟨false, ty, .prv (lvals l)⟩] (EndsM tys fn (endsQ (cBool.enc true) .none)) := by
  have hl : (lvals l).length = n * 64 := by rw [← hn]; exact lvals_len l
  have hY : ((lvals l).drop (0 + 0)).take (n * 64) = lvals l := dtw hl
  rcases Nat.eq_zero_or_pos n with h0 | h0
  · refine Runs.of_outN tys_ok mixed [0] (sZ hV rfl l n c ty x) ?_ (by kernel_rfl) rfl fun g => EndsM.ret (zr g _) rfl
    rw [hY, lfDec_vals, lfDec0]
    exact ⟨by omega, hc, rfl, hn, hm, hok, hx, h0, by omega, hc, rfl, h0, by omega, Nat.le_refl _, rfl, rfl, by omega, fun z hz => (by cases hz), hx, rfl, trivial⟩
  · have hap := ap_dup hok
    rw [hn] at hap
    cases hd : rndD l n with
    | true =>
      rw [hd] at hap
      refine Runs.of_outN tys_ok mixed [0] (sE hV rfl l n c ty x) ?_ (by kernel_rfl) rfl fun g => EndsM.ret (zr g _) rfl
      rw [hY, hY, lfDec_vals]
      exact ⟨by omega, hc, rfl, hn, hm, hok, hx, hd, by omega, hc, rfl, h0, hr h0, by omega, Nat.le_refl _, rfl, hn, hm, hok, hx, hap, trivial⟩
    | false =>
      rw [hd] at hap
      have hd' : rndD l l.length = false := by rw [hn]; exact hd
      have e := op_eq hok hd' x
      have le := op_len hok hd' x
      refine Runs.of_outN tys_ok mixed [0] (sP hV rfl l n c ty x) ?_ (by kernel_rfl) rfl fun g => EndsM.ret (zr g _) rfl
      rw [hY, hY, lfDec_vals, ← e, dtn (l := opT hV l x) rfl, ndDec_vals]
      exact ⟨by omega, hc, rfl, hn, hm, hok, hx, h0, hd, by omega, hc, rfl, h0, hr h0, by omega, Nat.le_refl _, rfl, hn, hm, hok, hx, h0, hap, by rw [nvals_len]; omega, Nat.le_refl _, by rw [nvals_len]; omega, Nat.le_refl _, rfl, rfl, rfl, rfl, by omega, trivial⟩
theorem runN (x : B32) (a : Option Addr) (hx : BOk x) : RunsF Tryd.prog GT 0 body (startT fn [.o (.a (.v (.slice a 0 0))), cB32.enc x]) [] (EndsM tys fn (endsQ (cBool.enc true) .none)) := by
  refine Runs.of_outN tys_ok mixed [] (sN hV rfl x a) ?_ (by kernel_rfl) rfl fun g => EndsM.ret (zr g _) rfl
  rw [lfDec0]
  exact ⟨hx, by omega, Nat.le_refl _, rfl, rfl, by omega, fun z hz => (by cases hz), hx, rfl, trivial⟩
end lope
end Go.Proofs.YtdccehmekkcheaaDoor

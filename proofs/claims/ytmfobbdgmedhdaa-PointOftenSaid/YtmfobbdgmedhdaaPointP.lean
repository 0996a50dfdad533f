/- Package point: what its functions compute, limb for limb. -/
import Derived.Test.YtmfobbdgmedhdaaFieldQ
namespace Go.Proofs.Ytmfobbdgmedhdaa
open Go Go.Eng
set_option linter.unusedVariables false
set_option maxRecDepth 100000

structure P20 where
  x : E5
  y : E5
  z : E5
  t : E5
def P20.to (p : P20) : List Int := [p.x.l0, p.x.l1, p.x.l2, p.x.l3, p.x.l4, p.y.l0, p.y.l1, p.y.l2, p.y.l3, p.y.l4, p.z.l0, p.z.l1, p.z.l2, p.z.l3, p.z.l4, p.t.l0, p.t.l1, p.t.l2, p.t.l3, p.t.l4]
def P20.of : List Int → Option P20
  | [a0, a1, a2, a3, a4, b0, b1, b2, b3, b4, c0, c1, c2, c3, c4, d0, d1, d2, d3, d4] => some ⟨⟨a0, a1, a2, a3, a4⟩, ⟨b0, b1, b2, b3, b4⟩, ⟨c0, c1, c2, c3, c4⟩, ⟨d0, d1, d2, d3, d4⟩⟩
  | _ => none
theorem P20.of_to : ∀ l a, P20.of l = some a → P20.to a = l := by
  intro l a h
  unfold P20.of at h
  split at h <;> cases h
  rfl
def cP : Cod P20 := cRow .u64 P20.to P20.of P20.of_to

def curveE : E5 := ⟨929955233495203, 466365720129213, 1662059464998953, 2033849074728123, 1442794654840575⟩
def twiceE : E5 := ⟨1859910466990425, 932731440258426, 1072319116312658, 1815898335770999, 633789495995903⟩
theorem curve_fn : FnOk Try.prog 100 [] (cE5.enc curveE) :=
  FnOk.of_out (Γ := []) tys_ok mixed Try.func100 (n := 100) (orc := []) (cs := []) (by kernel_rfl) trivial rfl rfl
def curve_con : Con Try.prog := con0 100 Try.f100 Try.func100 (by kernel_rfl) (by kernel_rfl) (cE5.enc curveE) [] rfl (fun _ => curve_fn)
theorem twice_fn : FnOk Try.prog 103 [] (cE5.enc twiceE) :=
  FnOk.of_out (Γ := []) tys_ok mixed Try.func103 (n := 100) (orc := []) (cs := []) (by kernel_rfl) trivial rfl rfl
def twice_con : Con Try.prog := con0 103 Try.f103 Try.func103 (by kernel_rfl) (by kernel_rfl) (cE5.enc twiceE) [] rfl (fun _ => twice_fn)
def originP : P20 := ⟨⟨0, 0, 0, 0, 0⟩, oneE, oneE, ⟨0, 0, 0, 0, 0⟩⟩
theorem origin_fn : FnOk Try.prog 101 [] (cP.enc originP) :=
  FnOk.of_out (Γ := [one_con]) tys_ok mixed Try.func101 (n := 100) (orc := []) (cs := []) (by kernel_rfl) trivial rfl rfl
def origin_con : Con Try.prog := con0 101 Try.f101 Try.func101 (by kernel_rfl) (by kernel_rfl) (cP.enc originP) [] rfl (fun _ => origin_fn)
def bxE : E5 := ⟨1738742601995546, 1146398526822698, 2070867633025821, 562264141797630, 587772402128613⟩
def byE : E5 := ⟨1801439850948184, 1351079888211148, 450359962737049, 900719925474099, 1801439850948198⟩
def baseP : P20 := ⟨bxE, byE, oneE, timesF bxE byE⟩
theorem pointB_fn : FnOk Try.prog 69 [] (cP.enc baseP) :=
  FnOk.of_out (Γ := [one_con, times_con]) tys_ok mixed Try.func69 (n := 100) (orc := []) (cs := []) (by kernel_rfl) trivial rfl rfl
def pointB_con : Con Try.prog := con0 69 Try.f69 Try.func69 (by kernel_rfl) (by kernel_rfl) (cP.enc baseP) [] rfl (fun _ => pointB_fn)

def plusA (p q : P20) : E5 := timesF (minusF p.y p.x) (minusF q.y q.x)
def plusB (p q : P20) : E5 := timesF (plusF p.y p.x) (plusF q.y q.x)
def plusC (p q : P20) : E5 := timesF (timesF p.t twiceE) q.t
def plusD (p q : P20) : E5 := plusF (timesF p.z q.z) (timesF p.z q.z)
def mixP (e f g h : E5) : P20 := ⟨timesF e f, timesF g h, timesF f g, timesF e h⟩
def plusP (p q : P20) : P20 := mixP (minusF (plusB p q) (plusA p q)) (minusF (plusD p q) (plusC p q)) (plusF (plusD p q) (plusC p q)) (plusF (plusB p q) (plusA p q))
theorem pplus_fn (p : P20) (q : P20) : FnOk Try.prog 71 [(cP).enc p, (cP).enc q] (cP.enc (plusP p q)) :=
  FnOk.of_out (Γ := [times_con, plus_con, minus_con, twice_con]) tys_ok mixed Try.func71 (n := 100) (orc := []) (cs := []) (by kernel_rfl) trivial rfl rfl
def pplus_con : Con Try.prog := con2 71 Try.f71 Try.func71 (by kernel_rfl) (by kernel_rfl) (cP) (cP) (fun p q => cP.enc (plusP p q)) (fun _ _ => []) (fun _ _ => rfl) (fun p q _ => pplus_fn p q)

def dblA (p : P20) : E5 := timesF p.x p.x
def dblB (p : P20) : E5 := timesF p.y p.y
def dblC (p : P20) : E5 := plusF (timesF p.z p.z) (timesF p.z p.z)
def dblS (p : P20) : E5 := plusF p.x p.y
def dblH (p : P20) : E5 := plusF (dblA p) (dblB p)
def dblE (p : P20) : E5 := minusF (dblH p) (timesF (dblS p) (dblS p))
def dblG (p : P20) : E5 := minusF (dblA p) (dblB p)
def dblF (p : P20) : E5 := plusF (dblC p) (dblG p)
def dblP (p : P20) : P20 := mixP (dblE p) (dblF p) (dblG p) (dblH p)
theorem pdouble_fn (p : P20) : FnOk Try.prog 102 [(cP).enc p] (cP.enc (dblP p)) :=
  FnOk.of_out (Γ := [times_con, plus_con, minus_con]) tys_ok mixed Try.func102 (n := 100) (orc := []) (cs := []) (by kernel_rfl) trivial rfl rfl
def pdouble_con : Con Try.prog := con1 102 Try.f102 Try.func102 (by kernel_rfl) (by kernel_rfl) (cP) (fun p => cP.enc (dblP p)) (fun _ => []) (fun _ => rfl) (fun p _ => pdouble_fn p)
def negP (p : P20) : P20 := ⟨minusF zeroE p.x, p.y, p.z, minusF zeroE p.t⟩
theorem pminus_fn (p : P20) : FnOk Try.prog 67 [(cP).enc p] (cP.enc (negP p)) :=
  FnOk.of_out (Γ := [minus_con]) tys_ok mixed Try.func67 (n := 100) (orc := []) (cs := []) (by kernel_rfl) trivial rfl rfl
def pminus_con : Con Try.prog := con1 67 Try.f67 Try.func67 (by kernel_rfl) (by kernel_rfl) (cP) (fun p => cP.enc (negP p)) (fun _ => []) (fun _ => rfl) (fun p _ => pminus_fn p)
def clrP (p : P20) : P20 := dblP (dblP (dblP p))
theorem pcleared_fn (p : P20) : FnOk Try.prog 75 [(cP).enc p] (cP.enc (clrP p)) :=
  FnOk.of_out (Γ := [pdouble_con]) tys_ok mixed Try.func75 (n := 100) (orc := []) (cs := []) (by kernel_rfl) trivial rfl rfl
def pcleared_con : Con Try.prog := con1 75 Try.f75 Try.func75 (by kernel_rfl) (by kernel_rfl) (cP) (fun p => cP.enc (clrP p)) (fun _ => []) (fun _ => rfl) (fun p _ => pcleared_fn p)

def pyB (p : P20) : B32 := bytesF (timesF p.y (invF p.z))
def pxO (p : P20) : Bool := oddF (timesF p.x (invF p.z))
def set31 (b : B32) (x : Int) : B32 := { b with b31 := x }
def encP (p : P20) : B32 := match pxO p with
  | true => set31 (pyB p) (bits .or .u8 (pyB p).b31 128)
  | false => pyB p
theorem pbytes_fn (p : P20) : FnOk Try.prog 68 [cP.enc p] (cB32.enc (encP p)) := by
  unfold encP
  cases h : pxO p with
  | true => exact FnOk.of_out (Γ := [inverse_con, times_con, bytes_con, odd_con]) tys_ok mixed Try.func68 (n := 100) (orc := [(17, [true])]) (cs := [pxO p = true]) (by kernel_rfl) ⟨h, trivial⟩ rfl rfl
  | false => exact FnOk.of_out (Γ := [inverse_con, times_con, bytes_con, odd_con]) tys_ok mixed Try.func68 (n := 100) (orc := [(17, [false])]) (cs := [pxO p = false]) (by kernel_rfl) ⟨h, trivial⟩ rfl rfl
def pbytes_con : Con Try.prog := con1 68 Try.f68 Try.func68 (by kernel_rfl) (by kernel_rfl) (cP) (fun p => cB32.enc (encP p)) (fun _ => []) (fun _ => rfl) (fun p _ => pbytes_fn p)
def zeroPt : B32 := ⟨1, 0, 0, 0, 0, 0, 0, 0, 0, 0, 0, 0, 0, 0, 0, 0, 0, 0, 0, 0, 0, 0, 0, 0, 0, 0, 0, 0, 0, 0, 0, 0⟩
theorem pzero_fn : FnOk Try.prog 31 [] (cB32.enc zeroPt) :=
  FnOk.of_out (Γ := []) tys_ok mixed Try.func31 (n := 100) (orc := []) (cs := []) (by kernel_rfl) trivial rfl rfl
def pzero_con : Con Try.prog := con0 31 Try.f31 Try.func31 (by kernel_rfl) (by kernel_rfl) (cB32.enc zeroPt) [] rfl (fun _ => pzero_fn)
theorem porigin_fn (p : P20) : FnOk Try.prog 76 [(cP).enc p] (cBool.enc (eqB (encP p) zeroPt)) :=
  FnOk.of_out (Γ := [pbytes_con, pzero_con]) tys_ok mixed Try.func76 (n := 100) (orc := []) (cs := []) (by kernel_rfl) trivial rfl rfl
def porigin_con : Con Try.prog := con1 76 Try.f76 Try.func76 (by kernel_rfl) (by kernel_rfl) (cP) (fun p => cBool.enc (eqB (encP p) zeroPt)) (fun _ => []) (fun _ => rfl) (fun p _ => porigin_fn p)
theorem pgen_fn : FnOk Try.prog 28 [] (cB32.enc (encP baseP)) :=
  FnOk.of_out (Γ := [pointB_con, pbytes_con]) tys_ok mixed Try.func28 (n := 100) (orc := []) (cs := []) (by kernel_rfl) trivial rfl rfl
def pgen_con : Con Try.prog := con0 28 Try.f28 Try.func28 (by kernel_rfl) (by kernel_rfl) (cB32.enc (encP baseP)) [] rfl (fun _ => pgen_fn)

/-! ### Out of bytes -/
def low31 (b : B32) : B32 := set31 b (bits .and .u8 b.b31 127)
def sign31 (b : B32) : Bool := (b.b31.fdiv (2 ^ 7)) == 1
def decY (b : B32) : E5 := ofF (low31 b)
def decU (b : B32) : E5 := minusF (timesF (decY b) (decY b)) oneE
def decV (b : B32) : E5 := plusF (timesF (timesF (decY b) (decY b)) curveE) oneE
def decX (b : B32) : E5 := ratio2 (decU b) (decV b)
def decX' (b : B32) : E5 := match sign31 b with
  | true => minusF zeroE (decX b)
  | false => decX b
def decOk (b : B32) : Bool := match eqB (bytesF (ofF (low31 b))) (low31 b) with
  | false => false
  | true => match ratioOk (decU b) (decV b) with
    | false => false
    | true => match sign31 b with
      | false => true
      | true => !(isF (decX b) zeroE)
def noneP : P20 := ⟨zeroE, zeroE, zeroE, zeroE⟩
def decP (b : B32) : P20 := match decOk b with
  | true => ⟨decX' b, decY b, oneE, timesF (decX' b) (decY b)⟩
  | false => noneP
def flagP (p : P20) (b : Bool) : SV := .t [.g (cP.row p), .a (bool1 b)]
theorem pof_fn (b : B32) : FnOk Try.prog 66 [cB32.enc b] (flagP (decP b) (decOk b)) := by
  unfold decP
  unfold decOk decX'
  cases h1 : eqB (bytesF (ofF (low31 b))) (low31 b) with
  | false => exact FnOk.of_out (Γ := [canonical_con, of_con, times_con, one_con, curve_con, minus_con, plus_con, ratio_con, is_con]) tys_ok mixed Try.func66 (n := 100) (orc := [(19, [false])]) (cs := [eqB (bytesF (ofF (low31 b))) (low31 b) = false]) (by kernel_rfl) ⟨h1, trivial⟩ rfl rfl
  | true =>
    simp only
    cases h2 : ratioOk (decU b) (decV b) with
    | false => exact FnOk.of_out (Γ := [canonical_con, of_con, times_con, one_con, curve_con, minus_con, plus_con, ratio_con, is_con]) tys_ok mixed Try.func66 (n := 100) (orc := [(19, [true]), (38, [false])]) (cs := [eqB (bytesF (ofF (low31 b))) (low31 b) = true, ratioOk (decU b) (decV b) = false]) (by kernel_rfl) ⟨h1, h2, trivial⟩ rfl rfl
    | true =>
      simp only
      cases h3 : sign31 b with
      | false => exact FnOk.of_out (Γ := [canonical_con, of_con, times_con, one_con, curve_con, minus_con, plus_con, ratio_con, is_con]) tys_ok mixed Try.func66 (n := 100) (orc := [(13, [false]), (19, [true]), (38, [true])]) (cs := [sign31 b = false, eqB (bytesF (ofF (low31 b))) (low31 b) = true, ratioOk (decU b) (decV b) = true]) (by kernel_rfl) ⟨h3, h1, h2, trivial⟩ rfl rfl
      | true =>
        simp only
        cases h4 : isF (decX b) zeroE with
        | true => exact FnOk.of_out (Γ := [canonical_con, of_con, times_con, one_con, curve_con, minus_con, plus_con, ratio_con, is_con]) tys_ok mixed Try.func66 (n := 100) (orc := [(13, [true]), (19, [true]), (38, [true]), (46, [true])]) (cs := [sign31 b = true, eqB (bytesF (ofF (low31 b))) (low31 b) = true, ratioOk (decU b) (decV b) = true, isF (decX b) zeroE = true]) (by kernel_rfl) ⟨h3, h1, h2, h4, trivial⟩ rfl rfl
        | false => exact FnOk.of_out (Γ := [canonical_con, of_con, times_con, one_con, curve_con, minus_con, plus_con, ratio_con, is_con]) tys_ok mixed Try.func66 (n := 100) (orc := [(13, [true]), (19, [true]), (38, [true]), (46, [false])]) (cs := [sign31 b = true, eqB (bytesF (ofF (low31 b))) (low31 b) = true, ratioOk (decU b) (decV b) = true, isF (decX b) zeroE = false]) (by kernel_rfl) ⟨h3, h1, h2, h4, trivial⟩ rfl rfl
def pof_con : Con Try.prog := con1 66 Try.f66 Try.func66 (by kernel_rfl) (by kernel_rfl) (cB32) (fun b => flagP (decP b) (decOk b)) (fun _ => []) (fun _ => rfl) (fun b _ => pof_fn b)
end Go.Proofs.Ytmfobbdgmedhdaa

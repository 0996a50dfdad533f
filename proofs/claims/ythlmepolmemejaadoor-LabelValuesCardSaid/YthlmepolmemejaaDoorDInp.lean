/- Packages label and beaconref13: Input: walks, contracts. -/
import Derived.Test.YthlmepolmemejaaDoorDRAcc
import Derived.Test.YthlmepolmemejaaDoorDREnc
namespace Go.Proofs.YthlmepolmemejaaDoor
open Go Go.Eng Go.RowKit
set_option linter.unusedVariables false
set_option linter.unusedSimpArgs false
set_option maxRecDepth 100000
def lab : List Int := [108, 97, 98, 101, 108]
def markB (b : Bool) : Int := match b with | true => 1 | false => 0
def inpL (s : List Int) (v : Int) (b : Bool) : List (List Int) := [lab, s, num8 v, [markB b]]
def inpR (s : ByteArray) (w : List Int) (m : Int) : List (List Int) := [([108, 97, 98, 101, 108].drop 0).take 5, ((bytesI s).drop 0).take s.size, (w.drop 0).take 8, ([m].drop 0).take 1]
theorem inpR_eq (s : ByteArray) (w : List Int) (m : Int) (hw : w.length = 8) : inpR s w m = [lab, bytesI s, w, [m]] := by
  unfold inpR
  rw [dt (bytesI s) s.size (bytesI_length s), dt w 8 hw]
  rfl
theorem inpT {s : List Int} {v : Int} {b : Bool} (h : accOk s = true) : encT (inpL s v b) ≤ 1048576 := by
  have h3 : s.length ≤ 32 := by
    unfold accOk at h
    simp only [Bool.and_eq_true, decide_eq_true_eq] at h
    exact h.2.2
  simp only [inpL, encT, encL, lab, num8, List.length_cons, List.length_nil]
  omega
def U64 (v : Int) : Prop := 0 ≤ v ∧ v < 18446744073709551616
def badRes : SV := .t [.a (.v (.slice none 0 0)), .a (.v (.int .i64 1))]
namespace inp
noncomputable abbrev fn := Tryd.f9
noncomputable def body : Code := bodyOf fn
noncomputable def Γ {G : Glob} : Cons Tryd.prog G := [acc_con, num_con, enc.k4.con]
noncomputable def etrue (G : Glob) (s : ByteArray) (v : Int) : St := outS (Γ (G := G)) tys 200 body ⟨startT fn [.o (.a (.v (.string s))), .o (.a (.v (.int .u64 v))), .o (.a (.v (.bool true)))], [], [(10, [.b true]), (14, [.b false])]⟩
theorem extrue {G : Glob} (s : ByteArray) (v : Int) : exec (Γ (G := G)) tys 200 body ⟨startT fn [.o (.a (.v (.string s))), .o (.a (.v (.int .u64 v))), .o (.a (.v (.bool true)))], [], [(10, [.b true]), (14, [.b false])]⟩ = some (.ret, ⟨(etrue G s v).tm, (etrue G s v).mem, (etrue G s v).orc⟩, [accOk (bytesI s) = true, (v == 0) = false, 0 + 5 ≤ 5, 0 + s.size ≤ (bytesI s).length, 0 + 8 ≤ ((b4 (numH v) ++ b4 (numL v))).length, 0 + 1 ≤ 1, encT (inpR s (b4 (numH v) ++ b4 (numL v)) 1) ≤ 1048576]) := by kernel_rfl
theorem restrue {G : Glob} (s : ByteArray) (v : Int) : eRes tys (etrue G s v).tm (fun k => (etrue G s v).mem[k]?) fn.results.toList = some [.a (.sld 5 0 0 (encT (inpR s (b4 (numH v) ++ b4 (numL v)) 1)) (encT (inpR s (b4 (numH v) ++ b4 (numL v)) 1))), .a (.v (.int .i64 0))] := by kernel_rfl
theorem rowtrue {G : Glob} (s : ByteArray) (v : Int) : (etrue G s v).mem[5]? = some ⟨true, 5, .run .u8 (encB (inpR s (b4 (numH v) ++ b4 (numL v)) 1))⟩ := by kernel_rfl
noncomputable def eAtrue (G : Glob) (s : ByteArray) (v : Int) : St := outS (Γ (G := G)) tys 200 body ⟨startT fn [.o (.a (.v (.string s))), .o (.a (.v (.int .u64 v))), .o (.a (.v (.bool true)))], [], [(10, [.b false])]⟩
theorem exAtrue {G : Glob} (s : ByteArray) (v : Int) : exec (Γ (G := G)) tys 200 body ⟨startT fn [.o (.a (.v (.string s))), .o (.a (.v (.int .u64 v))), .o (.a (.v (.bool true)))], [], [(10, [.b false])]⟩ = some (.ret, ⟨(eAtrue G s v).tm, (eAtrue G s v).mem, (eAtrue G s v).orc⟩, [accOk (bytesI s) = false]) := by kernel_rfl
theorem resAtrue {G : Glob} (s : ByteArray) (v : Int) : eRes tys (eAtrue G s v).tm (fun k => (eAtrue G s v).mem[k]?) fn.results.toList = some [.a (.v (.slice none 0 0)), .a (.v (.int .i64 1))] := by kernel_rfl
noncomputable def eBtrue (G : Glob) (s : ByteArray) (v : Int) : St := outS (Γ (G := G)) tys 200 body ⟨startT fn [.o (.a (.v (.string s))), .o (.a (.v (.int .u64 v))), .o (.a (.v (.bool true)))], [], [(10, [.b true]), (14, [.b true])]⟩
theorem exBtrue {G : Glob} (s : ByteArray) (v : Int) : exec (Γ (G := G)) tys 200 body ⟨startT fn [.o (.a (.v (.string s))), .o (.a (.v (.int .u64 v))), .o (.a (.v (.bool true)))], [], [(10, [.b true]), (14, [.b true])]⟩ = some (.ret, ⟨(eBtrue G s v).tm, (eBtrue G s v).mem, (eBtrue G s v).orc⟩, [accOk (bytesI s) = true, (v == 0) = true]) := by kernel_rfl
theorem resBtrue {G : Glob} (s : ByteArray) (v : Int) : eRes tys (eBtrue G s v).tm (fun k => (eBtrue G s v).mem[k]?) fn.results.toList = some [.a (.v (.slice none 0 0)), .a (.v (.int .i64 1))] := by kernel_rfl
noncomputable def efalse (G : Glob) (s : ByteArray) (v : Int) : St := outS (Γ (G := G)) tys 200 body ⟨startT fn [.o (.a (.v (.string s))), .o (.a (.v (.int .u64 v))), .o (.a (.v (.bool false)))], [], [(10, [.b true]), (14, [.b false])]⟩
theorem exfalse {G : Glob} (s : ByteArray) (v : Int) : exec (Γ (G := G)) tys 200 body ⟨startT fn [.o (.a (.v (.string s))), .o (.a (.v (.int .u64 v))), .o (.a (.v (.bool false)))], [], [(10, [.b true]), (14, [.b false])]⟩ = some (.ret, ⟨(efalse G s v).tm, (efalse G s v).mem, (efalse G s v).orc⟩, [accOk (bytesI s) = true, (v == 0) = false, 0 + 5 ≤ 5, 0 + s.size ≤ (bytesI s).length, 0 + 8 ≤ ((b4 (numH v) ++ b4 (numL v))).length, 0 + 1 ≤ 1, encT (inpR s (b4 (numH v) ++ b4 (numL v)) 0) ≤ 1048576]) := by kernel_rfl
theorem resfalse {G : Glob} (s : ByteArray) (v : Int) : eRes tys (efalse G s v).tm (fun k => (efalse G s v).mem[k]?) fn.results.toList = some [.a (.sld 5 0 0 (encT (inpR s (b4 (numH v) ++ b4 (numL v)) 0)) (encT (inpR s (b4 (numH v) ++ b4 (numL v)) 0))), .a (.v (.int .i64 0))] := by kernel_rfl
theorem rowfalse {G : Glob} (s : ByteArray) (v : Int) : (efalse G s v).mem[5]? = some ⟨true, 5, .run .u8 (encB (inpR s (b4 (numH v) ++ b4 (numL v)) 0))⟩ := by kernel_rfl
noncomputable def eAfalse (G : Glob) (s : ByteArray) (v : Int) : St := outS (Γ (G := G)) tys 200 body ⟨startT fn [.o (.a (.v (.string s))), .o (.a (.v (.int .u64 v))), .o (.a (.v (.bool false)))], [], [(10, [.b false])]⟩
theorem exAfalse {G : Glob} (s : ByteArray) (v : Int) : exec (Γ (G := G)) tys 200 body ⟨startT fn [.o (.a (.v (.string s))), .o (.a (.v (.int .u64 v))), .o (.a (.v (.bool false)))], [], [(10, [.b false])]⟩ = some (.ret, ⟨(eAfalse G s v).tm, (eAfalse G s v).mem, (eAfalse G s v).orc⟩, [accOk (bytesI s) = false]) := by kernel_rfl
theorem resAfalse {G : Glob} (s : ByteArray) (v : Int) : eRes tys (eAfalse G s v).tm (fun k => (eAfalse G s v).mem[k]?) fn.results.toList = some [.a (.v (.slice none 0 0)), .a (.v (.int .i64 1))] := by kernel_rfl
noncomputable def eBfalse (G : Glob) (s : ByteArray) (v : Int) : St := outS (Γ (G := G)) tys 200 body ⟨startT fn [.o (.a (.v (.string s))), .o (.a (.v (.int .u64 v))), .o (.a (.v (.bool false)))], [], [(10, [.b true]), (14, [.b true])]⟩
theorem exBfalse {G : Glob} (s : ByteArray) (v : Int) : exec (Γ (G := G)) tys 200 body ⟨startT fn [.o (.a (.v (.string s))), .o (.a (.v (.int .u64 v))), .o (.a (.v (.bool false)))], [], [(10, [.b true]), (14, [.b true])]⟩ = some (.ret, ⟨(eBfalse G s v).tm, (eBfalse G s v).mem, (eBfalse G s v).orc⟩, [accOk (bytesI s) = true, (v == 0) = true]) := by kernel_rfl
theorem resBfalse {G : Glob} (s : ByteArray) (v : Int) : eRes tys (eBfalse G s v).tm (fun k => (eBfalse G s v).mem[k]?) fn.results.toList = some [.a (.v (.slice none 0 0)), .a (.v (.int .i64 1))] := by kernel_rfl
theorem run {G : Glob} (s : ByteArray) (v : Int) (b : Bool) (hs : s.size ≤ 9223372036854775807) (ha : accOk (bytesI s) = true) (h0 : v ≠ 0) (hv : U64 v) :
    RunsF Tryd.prog G 0 body (startT fn [.o (.a (.v (.string s))), .o (.a (.v (.int .u64 v))), .o (.a (.v (.bool b)))]) [] (EndsM tys fn (endsQ (encRes (inpL (bytesI s) v b)) (.new 5 (.run .u8 (encB (inpL (bytesI s) v b)))))) := by
  have hw : (b4 (numH v) ++ b4 (numL v)) = num8 v := num8_eq hv.1 hv.2
  have hb : (v == 0) = false := by simpa using h0
  have hl : ∀ m, inpR s (b4 (numH v) ++ b4 (numL v)) m = [lab, bytesI s, num8 v, [m]] := fun m => by rw [hw]; exact inpR_eq s _ m rfl
  have h8 : 0 + 8 ≤ ((b4 (numH v) ++ b4 (numL v))).length := by rw [hw]; show 0 + 8 ≤ 8; omega
  cases b with
  | true =>
    have e : inpR s (b4 (numH v) ++ b4 (numL v)) 1 = inpL (bytesI s) v true := hl 1
    refine Runs.of_exec tys_ok mixed (extrue s v) ⟨ha, hb, by decide, by rw [bytesI_length]; omega, h8, by decide, by rw [e]; exact inpT ha, trivial⟩ (EndsM.ret (restrue s v) ⟨5, ?_, ?_⟩)
    · rw [e]; rfl
    · rw [rowtrue, e]
  | false =>
    have e : inpR s (b4 (numH v) ++ b4 (numL v)) 0 = inpL (bytesI s) v false := hl 0
    refine Runs.of_exec tys_ok mixed (exfalse s v) ⟨ha, hb, by decide, by rw [bytesI_length]; omega, h8, by decide, by rw [e]; exact inpT ha, trivial⟩ (EndsM.ret (resfalse s v) ⟨5, ?_, ?_⟩)
    · rw [e]; rfl
    · rw [rowfalse, e]
theorem runBad {G : Glob} (s : ByteArray) (v : Int) (b : Bool) (hs : s.size ≤ 9223372036854775807) (ha : accOk (bytesI s) = false ∨ v = 0) :
    RunsF Tryd.prog G 0 body (startT fn [.o (.a (.v (.string s))), .o (.a (.v (.int .u64 v))), .o (.a (.v (.bool b)))]) [] (EndsM tys fn (endsQ badRes .none)) := by
  cases hA : accOk (bytesI s) with
  | false => cases b with
    | true => exact Runs.of_exec tys_ok mixed (exAtrue s v) ⟨hA, trivial⟩ (EndsM.ret (resAtrue s v) rfl)
    | false => exact Runs.of_exec tys_ok mixed (exAfalse s v) ⟨hA, trivial⟩ (EndsM.ret (resAfalse s v) rfl)
  | true =>
    have h0 : v = 0 := by
      rcases ha with h | h
      · rw [hA] at h; cases h
      · exact h
    have hb : (v == 0) = true := by simpa using h0
    cases b with
    | true => exact Runs.of_exec tys_ok mixed (exBtrue s v) ⟨hA, hb, trivial⟩ (EndsM.ret (resBtrue s v) rfl)
    | false => exact Runs.of_exec tys_ok mixed (exBfalse s v) ⟨hA, hb, trivial⟩ (EndsM.ret (resBfalse s v) rfl)
def spec : List PArg → Option (SV × LEff × Cst)
  | [.val (.o (.a (.v (.string s)))), .val (.o (.a (.v (.int .u64 v)))), .val (.o (.a (.v (.bool b))))] => some (encRes (inpL (bytesI s) v b), .new 5 (.run .u8 (encB (inpL (bytesI s) v b))), [s.size ≤ 9223372036854775807, accOk (bytesI s) = true, v ≠ 0, U64 v])
  | _ => none
def badSpec : List PArg → Option (SV × LEff × Cst)
  | [.val (.o (.a (.v (.string s)))), .val (.o (.a (.v (.int .u64 v)))), .val (.o (.a (.v (.bool b))))] => some (badRes, .none, [s.size ≤ 9223372036854775807, accOk (bytesI s) = false ∨ v = 0])
  | _ => none
noncomputable def con {G : Glob} : Con Tryd.prog G := Con.parts tys_ok 9 fn Tryd.func9 (by kernel_rfl) (c := body) (by kernel_rfl) [.val, .val, .val] spec
  (fun ps r e p h hp => by
    unfold spec at h
    split at h <;> cases h
    exact ⟨rfl, fun b hb => by cases hb⟩)
  (fun ps r e p cap h hp hi => by
    unfold spec at h
    split at h <;> cases h
    exact run _ _ _ hp.1 hp.2.1 hp.2.2.1 hp.2.2.2.1)
noncomputable def bad {G : Glob} : Con Tryd.prog G := Con.parts tys_ok 9 fn Tryd.func9 (by kernel_rfl) (c := body) (by kernel_rfl) [.val, .val, .val] badSpec
  (fun ps r e p h hp => by
    unfold badSpec at h
    split at h <;> cases h
    exact ⟨rfl, fun b hb => by cases hb⟩)
  (fun ps r e p cap h hp hi => by
    unfold badSpec at h
    split at h <;> cases h
    exact runBad _ _ _ hp.1 hp.2.1)
end inp
end Go.Proofs.YthlmepolmemejaaDoor

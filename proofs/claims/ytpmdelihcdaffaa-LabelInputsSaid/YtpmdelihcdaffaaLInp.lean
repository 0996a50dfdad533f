/- The law of a label's input: no two inputs are one; walked; its content. -/
import Derived.Test.YtpmdelihcdaffaaInp
namespace Go.Proofs.Ytpmdelihcdaffaa
open Go Go.Eng Go.RowKit
set_option linter.unusedVariables false
set_option linter.unusedSimpArgs false
set_option maxRecDepth 100000

/-! ### No two inputs are one -/
def Byt8 (n : Int) : Prop := 0 ≤ n ∧ n < 256
theorem b4_byt (v : Int) : ∀ y ∈ b4 v, Byt8 y := by
  intro y hy
  unfold b4 at hy
  simp only [List.mem_cons, List.not_mem_nil, or_false] at hy
  unfold Byt8
  rcases hy with rfl | rfl | rfl | rfl <;> rw [wu8] <;> omega
theorem num8_byt (v : Int) : ∀ y ∈ num8 v, Byt8 y := by
  intro y hy
  unfold num8 at hy
  simp only [List.mem_cons, List.not_mem_nil, or_false] at hy
  unfold Byt8
  rcases hy with rfl | rfl | rfl | rfl | rfl | rfl | rfl | rfl <;> rw [wu8] <;> omega
theorem bytesI_byt (s : ByteArray) : ∀ y ∈ bytesI s, Byt8 y := by
  intro y hy
  unfold bytesI at hy
  obtain ⟨c, _, rfl⟩ := List.mem_map.1 hy
  have := c.toNat_lt
  unfold Byt8
  omega
theorem inp_byt (s : ByteArray) (v : Int) (b : Bool) : ∀ y ∈ encB (inpL (bytesI s) v b), Byt8 y := by
  intro y hy
  simp only [encB, encR, inpL, List.mem_append, List.not_mem_nil, or_false] at hy
  rcases hy with hy | hy | hy | hy | hy | hy | hy | hy | hy
  · exact b4_byt _ y hy
  · exact b4_byt _ y hy
  · simp only [lab, List.mem_cons, List.not_mem_nil, or_false] at hy
    unfold Byt8
    omega
  · exact b4_byt _ y hy
  · exact bytesI_byt s y hy
  · exact b4_byt _ y hy
  · exact num8_byt v y hy
  · exact b4_byt _ y hy
  · rw [List.mem_singleton] at hy
    subst hy
    cases b <;> exact ⟨by decide, by decide⟩
theorem text_push : ∀ (ys : List Int) (r : ByteArray), (ys.foldl (fun r n => r.push (UInt8.ofNat n.toNat)) r).data.toList = r.data.toList ++ ys.map fun n => UInt8.ofNat n.toNat
  | [], r => by simp
  | y :: t, r => by
    rw [List.foldl_cons, text_push t]
    simp [ByteArray.push]
theorem text_bytes {ys : List Int} (h : ∀ y ∈ ys, Byt8 y) : bytesI (textOf ys) = ys := by
  unfold bytesI textOf
  rw [text_push]
  simp only [List.map_append, List.map_map]
  have e : (ByteArray.empty.data.toList : List UInt8) = [] := rfl
  rw [e, List.map_nil, List.nil_append]
  conv => rhs; rw [← List.map_id ys]
  apply List.map_congr_left
  intro y hy
  obtain ⟨h0, h1⟩ := h y hy
  simp only [Function.comp_apply, id]
  have : (UInt8.ofNat y.toNat).toNat = y.toNat := by
    rw [UInt8.toNat_ofNat']
    omega
  rw [this]
  omega
theorem bytesI_of_toList {a b : ByteArray} (h : a.toList = b.toList) : bytesI a = bytesI b := by
  unfold bytesI
  rw [toList_data, toList_data] at h
  rw [h]
theorem toList_of_bytesI {a b : ByteArray} (h : bytesI a = bytesI b) : a.toList = b.toList := by
  unfold bytesI at h
  rw [toList_data, toList_data]
  have : ∀ (x y : List UInt8), x.map (fun b => (b.toNat : Int)) = y.map (fun b => (b.toNat : Int)) → x = y := by
    intro x
    induction x with
    | nil => intro y hy; cases y with | nil => rfl | cons c t => cases hy
    | cons c t ih =>
      intro y hy
      cases y with
      | nil => cases hy
      | cons d u =>
        simp only [List.map_cons, List.cons.injEq] at hy
        have hc : c = d := UInt8.toNat_inj.1 (by omega)
        rw [hc, ih u hy.2]
  exact this _ _ h
theorem num8_inj {v u : Int} (hv : U64 v) (hu : U64 u) (h : num8 v = num8 u) : v = u := by
  obtain ⟨h0, h1⟩ := hv
  obtain ⟨g0, g1⟩ := hu
  unfold num8 at h
  simp only [Int.fdiv_eq_ediv_of_nonneg _ (show (0 : Int) ≤ 16777216 by decide), Int.fdiv_eq_ediv_of_nonneg _ (show (0 : Int) ≤ 65536 by decide), Int.fdiv_eq_ediv_of_nonneg _ (show (0 : Int) ≤ 256 by decide), Int.fdiv_eq_ediv_of_nonneg _ (show (0 : Int) ≤ 72057594037927936 by decide), Int.fdiv_eq_ediv_of_nonneg _ (show (0 : Int) ≤ 281474976710656 by decide), Int.fdiv_eq_ediv_of_nonneg _ (show (0 : Int) ≤ 1099511627776 by decide), Int.fdiv_eq_ediv_of_nonneg _ (show (0 : Int) ≤ 4294967296 by decide), Int.fdiv_eq_ediv_of_nonneg _ (show (0 : Int) ≤ 1 by decide), wu8, List.cons.injEq, and_true] at h
  obtain ⟨q1, q2, q3, q4, q5, q6, q7, q8⟩ := h
  have e7 : v / 72057594037927936 = u / 72057594037927936 := by omega
  have e6 : v / 281474976710656 = u / 281474976710656 := by omega
  have e5 : v / 1099511627776 = u / 1099511627776 := by omega
  have e4 : v / 4294967296 = u / 4294967296 := by omega
  have e3 : v / 16777216 = u / 16777216 := by omega
  have e2 : v / 65536 = u / 65536 := by omega
  have e1 : v / 256 = u / 256 := by omega
  omega
theorem b4_inj {n m : Nat} (hn : n ≤ 32) (hm : m ≤ 32) (h : b4 (n : Int) = b4 (m : Int)) : n = m := by
  unfold b4 at h
  simp only [List.cons.injEq, and_true] at h
  have := h.2.2.2
  rw [wu8, wu8] at this
  omega
theorem acc_len {xs : List Int} (h : accOk xs = true) : xs.length ≤ 32 := by
  unfold accOk at h
  simp only [Bool.and_eq_true, decide_eq_true_eq] at h
  exact h.2.2
theorem enc_inj {s t : List Int} {v u : Int} {a b : Bool} (hs : accOk s = true) (ht : accOk t = true) (hv : U64 v) (hu : U64 u) (h : encB (inpL s v a) = encB (inpL t u b)) : s = t ∧ v = u ∧ a = b := by
  have h1 : b4 (4 : Nat) ++ (b4 (5 : Nat) ++ (lab ++ (b4 (s.length : Int) ++ (s ++ (b4 (8 : Nat) ++ (num8 v ++ (b4 (1 : Nat) ++ ([markB a] ++ [])))))))) = b4 (4 : Nat) ++ (b4 (5 : Nat) ++ (lab ++ (b4 (t.length : Int) ++ (t ++ (b4 (8 : Nat) ++ (num8 u ++ (b4 (1 : Nat) ++ ([markB b] ++ [])))))))) := h
  replace h1 := List.append_cancel_left h1
  replace h1 := List.append_cancel_left h1
  replace h1 := List.append_cancel_left h1
  obtain ⟨h2, h3⟩ := List.append_inj h1 rfl
  have hl := b4_inj (acc_len hs) (acc_len ht) h2
  obtain ⟨h4, h5⟩ := List.append_inj h3 hl
  replace h5 := List.append_cancel_left h5
  obtain ⟨h6, h7⟩ := List.append_inj h5 rfl
  replace h7 := List.append_cancel_left h7
  refine ⟨h4, num8_inj hv hu h6, ?_⟩
  simp only [List.append_nil, List.cons.injEq, and_true] at h7
  cases a <;> cases b <;> first | rfl | exact absurd h7 (by decide)
/-- What the text of an input's answer holds. -/
def inpText (s : ByteArray) (v : Int) (b : Bool) : ByteArray := textOf (((encB (inpL (bytesI s) v b)).drop 0).take (encT (inpL (bytesI s) v b)))
theorem inpText_eq (s : ByteArray) (v : Int) (b : Bool) : inpText s v b = textOf (encB (inpL (bytesI s) v b)) := by
  unfold inpText
  rw [dt _ _ (encB_len _)]
theorem text_inj {s t : ByteArray} {v u : Int} {a b : Bool} (hs : accOk (bytesI s) = true) (ht : accOk (bytesI t) = true) (hv : U64 v) (hu : U64 u) (h : (inpText s v a).toList = (inpText t u b).toList) : s.toList = t.toList ∧ v = u ∧ a = b := by
  rw [inpText_eq, inpText_eq] at h
  have := bytesI_of_toList h
  rw [text_bytes (inp_byt s v a), text_bytes (inp_byt t u b)] at this
  obtain ⟨h1, h2, h3⟩ := enc_inj hs ht hv hu this
  exact ⟨toList_of_bytesI h1, h2, h3⟩

/-! ### awake -/
namespace awk
noncomputable abbrev fn := Try.f4
noncomputable def body : Code := bodyOf fn
def sa : ByteArray := ⟨#[97]⟩
def sA : ByteArray := ⟨#[65]⟩
def MA : List (Option SV) := maskL 24 0 [(1, .o (.a (.sld 0 0 0 35 35))), (2, .o (.a (.v (.int .i64 0))))]
def mA : List Blk := [⟨true, 5, .run .u8 (encB (inpL (bytesI sa) 1 true))⟩]
theorem idsA : idsIn mA.length MA mA = true := by kernel_rfl
theorem s1 {G : Glob} : outX mA.length MA (exec ([inp.con] : Cons Try.prog G) tys 200 (cpre 2 body) ⟨startT fn [], [], []⟩) = some (.normal, live MA, MA.length, mA, [sa.size ≤ 9223372036854775807, accOk (bytesI sa) = true, (1 : Int) ≠ 0, U64 1]) := by kernel_rfl
noncomputable def e (G : Glob) (g : Nat → SV) : St := outS ([inp.bad] : Cons Try.prog G) tys 200 (csuf 2 body) ⟨fill g 0 MA, mA, []⟩
theorem ex {G : Glob} (g : Nat → SV) : exec ([inp.bad] : Cons Try.prog G) tys 200 (csuf 2 body) ⟨fill g 0 MA, mA, []⟩ = some (.ret, ⟨(e G g).tm, (e G g).mem, []⟩, [sA.size ≤ 9223372036854775807, accOk (bytesI sA) = false ∨ (1 : Int) = 0]) := by kernel_rfl
theorem res {G : Glob} (g : Nat → SV) : eRes tys (e G g).tm (fun k => (e G g).mem[k]?) fn.results.toList = some [.a (bool1 true)] := by kernel_rfl
theorem run {G : Glob} : RunsF Try.prog G 0 body (startT fn []) [] (EndsM tys fn (endsQ (cBool.enc true) .none)) := by
  refine Runs.of_outXP tys_ok mixed 2 s1 ⟨by decide, by kernel_rfl, by decide, ⟨by decide, by decide⟩, trivial⟩ idsA rfl fun g => ?_
  exact Runs.of_exec tys_ok mixed (ex g) ⟨by decide, .inl (by kernel_rfl), trivial⟩ (EndsM.ret (res g) rfl)
def spec : List PArg → Option (SV × LEff × Cst)
  | [] => some (.o (.a (bool1 true)), .none, [])
  | _ => none
noncomputable def con {G : Glob} : Con Try.prog G := Con.parts tys_ok 4 fn Try.func4 (by kernel_rfl) (c := body) (by kernel_rfl) [] spec
  (fun ps r e p h hp => by
    unfold spec at h
    split at h <;> cases h
    exact ⟨rfl, fun b hb => by cases hb⟩)
  (fun ps r e p cap h hp hi => by
    unfold spec at h
    split at h <;> cases h
    exact run)
end awk

/-! ### The law -/
namespace linp
noncomputable abbrev fn := Try.f3
noncomputable def body : Code := bodyOf fn
abbrev sv (s : ByteArray) : SV := .o (.a (.v (.string s)))
abbrev iv (v : Int) : SV := .o (.a (.v (.int .u64 v)))
abbrev bv (b : Bool) : SV := .o (.a (.v (.bool b)))
def M4 (s t : ByteArray) (v u : Int) (a b : Bool) : List (Option SV) := maskL 77 0 [(0, sv s), (1, sv t), (2, iv v), (3, iv u), (4, bv a), (5, bv b), (13, .o (.a (.slg 0 (encT (inpL (bytesI s) v a))))), (14, .o (.a (.v (.int .i64 0)))), (15, .o (.a (.sld 1 0 0 (encT (inpL (bytesI s) v a)) (encT (inpL (bytesI s) v a))))), (16, .o (.a (.v (.int .i64 0))))]
def N4 (s t : ByteArray) (v u : Int) (a b : Bool) : List (Option SV) := maskL 77 0 [(0, sv s), (1, sv t), (2, iv v), (3, iv u), (4, bv a), (5, bv b), (13, .o (.a (.v (.slice none 0 0)))), (14, .o (.a (.v (.int .i64 1)))), (15, .o (.a (.v (.slice none 0 0)))), (16, .o (.a (.v (.int .i64 1))))]
def m4 (s : ByteArray) (v : Int) (a : Bool) : List Blk := [⟨true, 5, .gro .u8 (encB (inpL (bytesI s) v a)) (encT (inpL (bytesI s) v a)) none⟩, ⟨true, 5, .run .u8 (encB (inpL (bytesI s) v a))⟩]
theorem idsM (s t : ByteArray) (v u : Int) (a b : Bool) : idsIn (m4 s v a).length (M4 s t v u a b ) (m4 s v a) = true := by kernel_rfl
theorem idsN (s t : ByteArray) (v u : Int) (a b : Bool) : idsIn ([] : List Blk).length (N4 s t v u a b ) [] = true := by kernel_rfl
theorem sM {G : Glob} (s t : ByteArray) (v u : Int) (a b : Bool) : outX (m4 s v a).length (M4 s t v u a b ) (exec ([awk.con, rinp.con, inp.con] : Cons Try.prog G) tys 200 (cpre 4 body) ⟨startT fn [sv s, sv t, iv v, iv u, bv a, bv b], [], []⟩) = some (.normal, live (M4 s t v u a b ), (M4 s t v u a b ).length, m4 s v a, [s.size ≤ 9223372036854775807, accOk (bytesI s) = true, v ≠ 0, U64 v, s.size ≤ 9223372036854775807, accOk (bytesI s) = true, v ≠ 0, U64 v]) := by kernel_rfl
theorem sN {G : Glob} (s t : ByteArray) (v u : Int) (a b : Bool) : outX ([] : List Blk).length (N4 s t v u a b ) (exec ([awk.con, rinp.bad, inp.bad] : Cons Try.prog G) tys 200 (cpre 4 body) ⟨startT fn [sv s, sv t, iv v, iv u, bv a, bv b], [], []⟩) = some (.normal, live (N4 s t v u a b ), (N4 s t v u a b ).length, [], [s.size ≤ 9223372036854775807, accOk (bytesI s) = false ∨ v = 0, s.size ≤ 9223372036854775807, accOk (bytesI s) = false ∨ v = 0]) := by kernel_rfl
noncomputable def eP1 (G : Glob) (s t : ByteArray) (v u : Int) (a b : Bool) (g : Nat → SV) : St := outS ([inp.con] : Cons Try.prog G) tys 200 (csuf 4 body) ⟨fill g 0 (M4 s t v u a b ), m4 s v a, [(50, [.b false]), (62, [.b false]), (65, [.b false])]⟩
theorem exP1 {G : Glob} (s t : ByteArray) (v u : Int) (a b : Bool) (g : Nat → SV) : exec ([inp.con] : Cons Try.prog G) tys 200 (csuf 4 body) ⟨fill g 0 (M4 s t v u a b ), m4 s v a, [(50, [.b false]), (62, [.b false]), (65, [.b false])]⟩ = some (.ret, ⟨(eP1 G s t v u a b g).tm, (eP1 G s t v u a b g).mem, (eP1 G s t v u a b g).orc⟩, [t.size ≤ 9223372036854775807, accOk (bytesI t) = true, u ≠ 0, U64 u, 0 + encT (inpL (bytesI s) v a) ≤ (encB (inpL (bytesI s) v a)).length, 0 + encT (inpL (bytesI s) v a) ≤ (encB (inpL (bytesI s) v a)).length, (!(inpText s v a).toList == (inpText s v a).toList) = false, 0 + encT (inpL (bytesI s) v a) ≤ (encB (inpL (bytesI s) v a)).length, 0 + encT (inpL (bytesI t) u b) ≤ (encB (inpL (bytesI t) u b)).length, ((inpText s v a).toList == (inpText t u b).toList) = false, (s.toList == t.toList) = false]) := by kernel_rfl
theorem resP1 {G : Glob} (s t : ByteArray) (v u : Int) (a b : Bool) (g : Nat → SV) : eRes tys (eP1 G s t v u a b g).tm (fun k => (eP1 G s t v u a b g).mem[k]?) fn.results.toList = some [.a (bool1 true)] := by kernel_rfl
noncomputable def eP2 (G : Glob) (s t : ByteArray) (v u : Int) (a b : Bool) (g : Nat → SV) : St := outS ([inp.con] : Cons Try.prog G) tys 200 (csuf 4 body) ⟨fill g 0 (M4 s t v u a b ), m4 s v a, [(50, [.b false]), (62, [.b false]), (65, [.b true]), (69, [.b false])]⟩
theorem exP2 {G : Glob} (s t : ByteArray) (v u : Int) (a b : Bool) (g : Nat → SV) : exec ([inp.con] : Cons Try.prog G) tys 200 (csuf 4 body) ⟨fill g 0 (M4 s t v u a b ), m4 s v a, [(50, [.b false]), (62, [.b false]), (65, [.b true]), (69, [.b false])]⟩ = some (.ret, ⟨(eP2 G s t v u a b g).tm, (eP2 G s t v u a b g).mem, (eP2 G s t v u a b g).orc⟩, [t.size ≤ 9223372036854775807, accOk (bytesI t) = true, u ≠ 0, U64 u, 0 + encT (inpL (bytesI s) v a) ≤ (encB (inpL (bytesI s) v a)).length, 0 + encT (inpL (bytesI s) v a) ≤ (encB (inpL (bytesI s) v a)).length, (!(inpText s v a).toList == (inpText s v a).toList) = false, 0 + encT (inpL (bytesI s) v a) ≤ (encB (inpL (bytesI s) v a)).length, 0 + encT (inpL (bytesI t) u b) ≤ (encB (inpL (bytesI t) u b)).length, ((inpText s v a).toList == (inpText t u b).toList) = false, (s.toList == t.toList) = true, (v == u) = false]) := by kernel_rfl
theorem resP2 {G : Glob} (s t : ByteArray) (v u : Int) (a b : Bool) (g : Nat → SV) : eRes tys (eP2 G s t v u a b g).tm (fun k => (eP2 G s t v u a b g).mem[k]?) fn.results.toList = some [.a (bool1 true)] := by kernel_rfl
noncomputable def eP3 (G : Glob) (s t : ByteArray) (v u : Int) (a b : Bool) (g : Nat → SV) : St := outS ([inp.con] : Cons Try.prog G) tys 200 (csuf 4 body) ⟨fill g 0 (M4 s t v u a b ), m4 s v a, [(50, [.b false]), (62, [.b false]), (65, [.b true]), (69, [.b true]), (74, [.b false])]⟩
theorem exP3 {G : Glob} (s t : ByteArray) (v u : Int) (a b : Bool) (g : Nat → SV) : exec ([inp.con] : Cons Try.prog G) tys 200 (csuf 4 body) ⟨fill g 0 (M4 s t v u a b ), m4 s v a, [(50, [.b false]), (62, [.b false]), (65, [.b true]), (69, [.b true]), (74, [.b false])]⟩ = some (.ret, ⟨(eP3 G s t v u a b g).tm, (eP3 G s t v u a b g).mem, (eP3 G s t v u a b g).orc⟩, [t.size ≤ 9223372036854775807, accOk (bytesI t) = true, u ≠ 0, U64 u, 0 + encT (inpL (bytesI s) v a) ≤ (encB (inpL (bytesI s) v a)).length, 0 + encT (inpL (bytesI s) v a) ≤ (encB (inpL (bytesI s) v a)).length, (!(inpText s v a).toList == (inpText s v a).toList) = false, 0 + encT (inpL (bytesI s) v a) ≤ (encB (inpL (bytesI s) v a)).length, 0 + encT (inpL (bytesI t) u b) ≤ (encB (inpL (bytesI t) u b)).length, ((inpText s v a).toList == (inpText t u b).toList) = false, (s.toList == t.toList) = true, (v == u) = true, (a == b) = false]) := by kernel_rfl
theorem resP3 {G : Glob} (s t : ByteArray) (v u : Int) (a b : Bool) (g : Nat → SV) : eRes tys (eP3 G s t v u a b g).tm (fun k => (eP3 G s t v u a b g).mem[k]?) fn.results.toList = some [.a (bool1 true)] := by kernel_rfl
noncomputable def eP4 (G : Glob) (s t : ByteArray) (v u : Int) (a b : Bool) (g : Nat → SV) : St := outS ([inp.con] : Cons Try.prog G) tys 200 (csuf 4 body) ⟨fill g 0 (M4 s t v u a b ), m4 s v a, [(50, [.b false]), (62, [.b true]), (65, [.b true]), (69, [.b true]), (74, [.b true])]⟩
theorem exP4 {G : Glob} (s t : ByteArray) (v u : Int) (a b : Bool) (g : Nat → SV) : exec ([inp.con] : Cons Try.prog G) tys 200 (csuf 4 body) ⟨fill g 0 (M4 s t v u a b ), m4 s v a, [(50, [.b false]), (62, [.b true]), (65, [.b true]), (69, [.b true]), (74, [.b true])]⟩ = some (.ret, ⟨(eP4 G s t v u a b g).tm, (eP4 G s t v u a b g).mem, (eP4 G s t v u a b g).orc⟩, [t.size ≤ 9223372036854775807, accOk (bytesI t) = true, u ≠ 0, U64 u, 0 + encT (inpL (bytesI s) v a) ≤ (encB (inpL (bytesI s) v a)).length, 0 + encT (inpL (bytesI s) v a) ≤ (encB (inpL (bytesI s) v a)).length, (!(inpText s v a).toList == (inpText s v a).toList) = false, 0 + encT (inpL (bytesI s) v a) ≤ (encB (inpL (bytesI s) v a)).length, 0 + encT (inpL (bytesI t) u b) ≤ (encB (inpL (bytesI t) u b)).length, ((inpText s v a).toList == (inpText t u b).toList) = true, (s.toList == t.toList) = true, (v == u) = true, (a == b) = true]) := by kernel_rfl
theorem resP4 {G : Glob} (s t : ByteArray) (v u : Int) (a b : Bool) (g : Nat → SV) : eRes tys (eP4 G s t v u a b g).tm (fun k => (eP4 G s t v u a b g).mem[k]?) fn.results.toList = some [.a (bool1 true)] := by kernel_rfl
noncomputable def eQ (G : Glob) (s t : ByteArray) (v u : Int) (a b : Bool) (g : Nat → SV) : St := outS ([inp.bad] : Cons Try.prog G) tys 200 (csuf 4 body) ⟨fill g 0 (M4 s t v u a b ), m4 s v a, [(50, [.b false])]⟩
theorem exQ {G : Glob} (s t : ByteArray) (v u : Int) (a b : Bool) (g : Nat → SV) : exec ([inp.bad] : Cons Try.prog G) tys 200 (csuf 4 body) ⟨fill g 0 (M4 s t v u a b ), m4 s v a, [(50, [.b false])]⟩ = some (.ret, ⟨(eQ G s t v u a b g).tm, (eQ G s t v u a b g).mem, (eQ G s t v u a b g).orc⟩, [t.size ≤ 9223372036854775807, accOk (bytesI t) = false ∨ u = 0, 0 + encT (inpL (bytesI s) v a) ≤ (encB (inpL (bytesI s) v a)).length, 0 + encT (inpL (bytesI s) v a) ≤ (encB (inpL (bytesI s) v a)).length, (!(inpText s v a).toList == (inpText s v a).toList) = false]) := by kernel_rfl
theorem resQ {G : Glob} (s t : ByteArray) (v u : Int) (a b : Bool) (g : Nat → SV) : eRes tys (eQ G s t v u a b g).tm (fun k => (eQ G s t v u a b g).mem[k]?) fn.results.toList = some [.a (bool1 true)] := by kernel_rfl
noncomputable def eR (G : Glob) (s t : ByteArray) (v u : Int) (a b : Bool) (g : Nat → SV) : St := outS ([inp.con] : Cons Try.prog G) tys 200 (csuf 4 body) ⟨fill g 0 (N4 s t v u a b ), [], [(50, [.b false])]⟩
theorem exR {G : Glob} (s t : ByteArray) (v u : Int) (a b : Bool) (g : Nat → SV) : exec ([inp.con] : Cons Try.prog G) tys 200 (csuf 4 body) ⟨fill g 0 (N4 s t v u a b ), [], [(50, [.b false])]⟩ = some (.ret, ⟨(eR G s t v u a b g).tm, (eR G s t v u a b g).mem, (eR G s t v u a b g).orc⟩, [t.size ≤ 9223372036854775807, accOk (bytesI t) = true, u ≠ 0, U64 u, (!(textOf []).toList == (textOf []).toList) = false]) := by kernel_rfl
theorem resR {G : Glob} (s t : ByteArray) (v u : Int) (a b : Bool) (g : Nat → SV) : eRes tys (eR G s t v u a b g).tm (fun k => (eR G s t v u a b g).mem[k]?) fn.results.toList = some [.a (bool1 true)] := by kernel_rfl
noncomputable def eS (G : Glob) (s t : ByteArray) (v u : Int) (a b : Bool) (g : Nat → SV) : St := outS ([inp.bad] : Cons Try.prog G) tys 200 (csuf 4 body) ⟨fill g 0 (N4 s t v u a b ), [], [(50, [.b false])]⟩
theorem exS {G : Glob} (s t : ByteArray) (v u : Int) (a b : Bool) (g : Nat → SV) : exec ([inp.bad] : Cons Try.prog G) tys 200 (csuf 4 body) ⟨fill g 0 (N4 s t v u a b ), [], [(50, [.b false])]⟩ = some (.ret, ⟨(eS G s t v u a b g).tm, (eS G s t v u a b g).mem, (eS G s t v u a b g).orc⟩, [t.size ≤ 9223372036854775807, accOk (bytesI t) = false ∨ u = 0, (!(textOf []).toList == (textOf []).toList) = false]) := by kernel_rfl
theorem resS {G : Glob} (s t : ByteArray) (v u : Int) (a b : Bool) (g : Nat → SV) : eRes tys (eS G s t v u a b g).tm (fun k => (eS G s t v u a b g).mem[k]?) fn.results.toList = some [.a (bool1 true)] := by kernel_rfl
theorem ne_self (l : List UInt8) : (!l == l) = false := by simp
theorem walk {G : Glob} (s t : ByteArray) (v u : Int) (a b : Bool) (hs : s.size ≤ 9223372036854775807) (ht : t.size ≤ 9223372036854775807) (hv : U64 v) (hu : U64 u) :
    RunsF Try.prog G 0 body (startT fn [sv s, sv t, iv v, iv u, bv a, bv b]) [] (EndsM tys fn (endsQ (cBool.enc true) .none)) := by
  have l1 : 0 + encT (inpL (bytesI s) v a) ≤ (encB (inpL (bytesI s) v a)).length := by rw [encB_len]; omega
  have l2 : 0 + encT (inpL (bytesI t) u b) ≤ (encB (inpL (bytesI t) u b)).length := by rw [encB_len]; omega
  by_cases o1 : accOk (bytesI s) = true ∧ v ≠ 0
  · refine Runs.of_outXP tys_ok mixed 4 (sM s t v u a b ) ⟨hs, o1.1, o1.2, hv, hs, o1.1, o1.2, hv, trivial⟩ (idsM s t v u a b ) rfl fun g => ?_
    by_cases o2 : accOk (bytesI t) = true ∧ u ≠ 0
    · have key : ∀ {E : Bool}, ((inpText s v a).toList == (inpText t u b).toList) = E → E = true → s.toList = t.toList ∧ v = u ∧ a = b := fun {E} h hE => by
        subst hE
        exact text_inj o1.1 o2.1 hv hu (by simpa using h)
      have back : s.toList = t.toList → v = u → a = b → ((inpText s v a).toList == (inpText t u b).toList) = true := fun h1 h2 h3 => by
        subst h2 h3
        have : bytesI s = bytesI t := bytesI_of_toList h1
        rw [inpText_eq, inpText_eq, this]
        simp
      have no : ¬ (s.toList = t.toList ∧ v = u ∧ a = b) → ((inpText s v a).toList == (inpText t u b).toList) = false := fun h => by
        cases hE : ((inpText s v a).toList == (inpText t u b).toList) with
        | false => rfl
        | true => exact absurd (key hE rfl) h
      by_cases c1 : s.toList = t.toList
      · by_cases c2 : v = u
        · by_cases c3 : a = b
          · exact Runs.of_exec tys_ok mixed (exP4 s t v u a b g) ⟨ht, o2.1, o2.2, hu, l1, l1, ne_self _, l1, l2, back c1 c2 c3, by simpa using c1, by simpa using c2, by simpa using c3, trivial⟩ (EndsM.ret (resP4 s t v u a b g) rfl)
          · exact Runs.of_exec tys_ok mixed (exP3 s t v u a b g) ⟨ht, o2.1, o2.2, hu, l1, l1, ne_self _, l1, l2, no fun h => c3 h.2.2, by simpa using c1, by simpa using c2, by simpa using c3, trivial⟩ (EndsM.ret (resP3 s t v u a b g) rfl)
        · exact Runs.of_exec tys_ok mixed (exP2 s t v u a b g) ⟨ht, o2.1, o2.2, hu, l1, l1, ne_self _, l1, l2, no fun h => c2 h.2.1, by simpa using c1, by simpa using c2, trivial⟩ (EndsM.ret (resP2 s t v u a b g) rfl)
      · exact Runs.of_exec tys_ok mixed (exP1 s t v u a b g) ⟨ht, o2.1, o2.2, hu, l1, l1, ne_self _, l1, l2, no fun h => c1 h.1, by simpa using c1, trivial⟩ (EndsM.ret (resP1 s t v u a b g) rfl)
    · have o2' : accOk (bytesI t) = false ∨ u = 0 := by
        cases hA : accOk (bytesI t) with
        | false => exact .inl rfl
        | true => exact .inr (Classical.byContradiction fun h => o2 ⟨hA, h⟩)
      exact Runs.of_exec tys_ok mixed (exQ s t v u a b g) ⟨ht, o2', l1, l1, ne_self _, trivial⟩ (EndsM.ret (resQ s t v u a b g) rfl)
  · have o1' : accOk (bytesI s) = false ∨ v = 0 := by
      cases hA : accOk (bytesI s) with
      | false => exact .inl rfl
      | true => exact .inr (Classical.byContradiction fun h => o1 ⟨hA, h⟩)
    refine Runs.of_outXP tys_ok mixed 4 (sN s t v u a b ) ⟨hs, o1', hs, o1', trivial⟩ (idsN s t v u a b ) rfl fun g => ?_
    by_cases o2 : accOk (bytesI t) = true ∧ u ≠ 0
    · exact Runs.of_exec tys_ok mixed (exR s t v u a b g) ⟨ht, o2.1, o2.2, hu, ne_self _, trivial⟩ (EndsM.ret (resR s t v u a b g) rfl)
    · have o2' : accOk (bytesI t) = false ∨ u = 0 := by
        cases hA : accOk (bytesI t) with
        | false => exact .inl rfl
        | true => exact .inr (Classical.byContradiction fun h => o2 ⟨hA, h⟩)
      exact Runs.of_exec tys_ok mixed (exS s t v u a b g) ⟨ht, o2', ne_self _, trivial⟩ (EndsM.ret (resS s t v u a b g) rfl)
end linp
def noG : Glob := fun _ => none
theorem noG_ok (w : World) : GlobOk noG w := fun g cs h => by cases h
theorem linp_ok (s t : ByteArray) (v u : Int) (a b : Bool) (W : World) (hs : s.size ≤ maxLen) (ht : t.size ≤ maxLen) (hv : (Lit.int .u64 v).wf = true) (hu : (Lit.int .u64 u).wf = true) :
    Calls Try.prog 3 #[.string s, .string t, .int .u64 v, .int .u64 u, .bool a, .bool b] W fun e W' => e = .returned (.bool true) ∧ Below W.heap.size W W' := by
  have h8 : ∀ n : Int, (Lit.int .u64 n).wf = true → U64 n := fun n h => by
    simp [Lit.wf, IntKind.min, IntKind.max, IntKind.signed, IntKind.bits] at h
    exact ⟨h.1, by omega⟩
  have hm : maxLen = 9223372036854775807 := by decide
  rw [hm] at hs ht
  exact law_calls tys_ok Try.func3 (c := linp.body) (by kernel_rfl) (l := []) (args := [linp.sv s, linp.sv t, linp.iv v, linp.iv u, linp.bv a, linp.bv b]) (r := cBool.enc true) (noG_ok W) (fun _ => ⟨0, 0, 0⟩) (fun i b h => by cases h) (fun x hx k hk => by
    simp only [List.mem_cons, List.not_mem_nil, or_false] at hx
    rcases hx with rfl | rfl | rfl | rfl | rfl | rfl <;> cases hk) rfl (linp.walk s t v u a b hs ht (h8 v hv) (h8 u hu))
end Go.Proofs.Ytpmdelihcdaffaa

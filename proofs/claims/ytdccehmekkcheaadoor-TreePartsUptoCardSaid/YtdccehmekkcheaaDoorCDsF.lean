/- beaconlaw11.distinct: walk, contracts. -/
import Derived.Test.YtdccehmekkcheaaDoorCLTo
import Derived.Test.YtdccehmekkcheaaDoorCTLs
namespace Go.Proofs.YtdccehmekkcheaaDoor
open Go Go.Eng Go.RowKit
set_option linter.unusedVariables false
set_option linter.unusedSimpArgs false
set_option maxRecDepth 100000
def newA (out : List Lf) (x : B32) : Nat → Bool
  | 0 => true
  | k + 1 => newA out x k && !eqL (out.getD k zl).lab.to x.to
def dstA (l : List Lf) : Nat → List Lf
  | 0 => []
  | i + 1 => bif newA (dstA l i) (l.getD i zl).lab (dstA l i).length then dstA l i ++ [l.getD i zl] else dstA l i
theorem newA_iff (out : List Lf) (x : B32) : ∀ k, newA out x k = true ↔ ∀ j, j < k → (out.getD j zl).lab ≠ x
  | 0 => ⟨fun _ j hj => absurd hj (by omega), fun _ => rfl⟩
  | k + 1 => by
    rw [newA, Bool.and_eq_true, newA_iff out x k, Bool.not_eq_true', ← Bool.not_eq_true, eqL_iff]
    constructor
    · rintro ⟨h1, h2⟩ j hj
      rcases Nat.lt_or_ge j k with h | h
      · exact h1 j h
      · obtain rfl : j = k := by omega
        exact fun e => h2 (by rw [e])
    · intro h
      exact ⟨fun j hj => h j (by omega), fun e => h k (by omega) (to_inj e)⟩
theorem dstA_len (l : List Lf) : ∀ i, (dstA l i).length ≤ i
  | 0 => Nat.le_refl _
  | i + 1 => by
    have := dstA_len l i
    rw [dstA]
    cases newA (dstA l i) (l.getD i zl).lab (dstA l i).length with
    | true => rw [cond_true, List.length_append]; simp; omega
    | false => rw [cond_false]; omega
theorem dstA_pos (l : List Lf) : ∀ i, 0 < i → dstA l i ≠ []
  | 0, h => absurd h (by omega)
  | i + 1, _ => by
    rw [dstA]
    cases hq : newA (dstA l i) (l.getD i zl).lab (dstA l i).length with
    | true => rw [cond_true]; simp
    | false =>
      rw [cond_false]
      intro e
      rw [e] at hq
      cases hq
theorem dstA_mem (l : List Lf) : ∀ i, i ≤ l.length → ∀ z ∈ dstA l i, z ∈ l
  | 0, _, z, hz => by cases hz
  | i + 1, hi, z, hz => by
    rw [dstA] at hz
    cases hq : newA (dstA l i) (l.getD i zl).lab (dstA l i).length with
    | true =>
      rw [hq, cond_true] at hz
      rcases List.mem_append.1 hz with h | h
      · exact dstA_mem l i (by omega) z h
      · rw [List.mem_singleton.1 h]; exact getD_mem (by omega) _
    | false => rw [hq, cond_false] at hz; exact dstA_mem l i (by omega) z hz
theorem dstA_ne (l : List Lf) : ∀ i, ((dstA l i).map leafV).Pairwise NeP
  | 0 => List.Pairwise.nil
  | i + 1 => by
    rw [dstA]
    cases hq : newA (dstA l i) (l.getD i zl).lab (dstA l i).length with
    | true =>
      rw [cond_true, List.map_append, List.pairwise_append]
      refine ⟨dstA_ne l i, List.pairwise_singleton _ _, fun a ha b hb => ?_⟩
      obtain ⟨z, hz, rfl⟩ := List.mem_map.1 ha
      obtain rfl := List.mem_singleton.1 hb
      obtain ⟨j, hj, rfl⟩ := List.mem_iff_getElem.1 hz
      have := (newA_iff _ _ _).1 hq j hj
      rw [getD_lt hj] at this
      exact this
    | false => rw [cond_false]; exact dstA_ne l i
namespace dst
noncomputable abbrev fn := Tryd.f23
noncomputable def body : Code := bodyOf fn
noncomputable def L : Code := cL (cB (cs2 (cs1 (csuf 2 body))))
noncomputable def A1 : Code := cs1 (cs1 (csuf 2 body))
noncomputable def D : Code := cs2 (csuf 2 body)
noncomputable def X : Code := cB (cs1 (csuf 2 L))
noncomputable def R13 : Code := cs2 (csuf 2 L)
noncomputable def LI : Code := cL (cB (cs2 (cs1 (csuf 2 X))))
noncomputable def A6 : Code := cs1 (cs1 (csuf 2 X))
noncomputable def E : Code := cs2 (csuf 2 X)
noncomputable def Γ : Cons Tryd.prog GT := []
theorem suf_eq : csuf 2 body = .seq (.seq A1 (.block 0 (.loop L))) D := by kernel_rfl
theorem suf_L : csuf 2 L = .seq (.block 1 X) R13 := by kernel_rfl
theorem suf_X : csuf 2 X = .seq (.seq A6 (.block 2 (.loop LI))) E := by kernel_rfl
def m0 (l : List Lf) (ty : TypeId) : List Blk := [⟨false, ty, .prv (lvals l)⟩]
def ms (l : List Lf) (ty : TypeId) (vs : List Value) (lo : Nat) (hi : Option Nat) : List Blk := [⟨false, ty, .prv (lvals l)⟩, ⟨true, 30, .grv 64 vs lo hi⟩]
def M0 (l : List Lf) (n c : Nat) (ty : TypeId) : List (Option SV) := maskL 42 0 [(0, .o (.a (.sld 0 0 0 n c))), (3, .o (.a (.v (.slice none 0 0))))]
def MAz (l : List Lf) (n c : Nat) (ty : TypeId) : List (Option SV) := maskL 42 0 [(0, .o (.a (.sld 0 0 0 n c))), (3, .o (.a (.v (.slice none 0 0)))), (8, .o (.a (int1 .i64 n))), (9, .o (.a (int1 .i64 0)))]
def MBz (l : List Lf) (n c : Nat) (ty : TypeId) : List (Option SV) := maskL 42 0 [(0, .o (.a (.sld 0 0 0 n c))), (3, .o (.a (.v (.slice none 0 0)))), (4, .o (.a (int1 .i64 0))), (5, .o (.a (.v (.bool true)))), (8, .o (.a (int1 .i64 n))), (9, .o (.a (int1 .i64 0)))]
def MCz (l : List Lf) (n c : Nat) (ty : TypeId) : List (Option SV) := maskL 42 0 [(0, .o (.a (.sld 0 0 0 n c))), (3, .o (.a (.v (.slice none 0 0)))), (4, .o (.a (int1 .i64 0))), (5, .o (.a (.v (.bool true)))), (8, .o (.a (int1 .i64 n))), (9, .o (.a (int1 .i64 0))), (13, .o (.a (int1 .i64 0))), (14, .o (.a (int1 .i64 0)))]
def MAs (l : List Lf) (n c : Nat) (ty : TypeId) (i : Int) (r : Nat) : List (Option SV) := maskL 42 0 [(0, .o (.a (.sld 0 0 0 n c))), (3, .o (.a (.slg 1 r))), (8, .o (.a (int1 .i64 n))), (9, .o (.a (int1 .i64 i)))]
def MBs (l : List Lf) (n c : Nat) (ty : TypeId) (i : Int) (r : Nat) (f : Bool) : List (Option SV) := maskL 42 0 [(0, .o (.a (.sld 0 0 0 n c))), (3, .o (.a (.slg 1 r))), (4, .o (.a (int1 .i64 i))), (5, .o (.a (.v (.bool f)))), (8, .o (.a (int1 .i64 n))), (9, .o (.a (int1 .i64 i)))]
def MCs (l : List Lf) (n c : Nat) (ty : TypeId) (i : Int) (r : Nat) (f : Bool) (k : Int) : List (Option SV) := maskL 42 0 [(0, .o (.a (.sld 0 0 0 n c))), (3, .o (.a (.slg 1 r))), (4, .o (.a (int1 .i64 i))), (5, .o (.a (.v (.bool f)))), (8, .o (.a (int1 .i64 n))), (9, .o (.a (int1 .i64 i))), (13, .o (.a (int1 .i64 r))), (14, .o (.a (int1 .i64 k)))]
def MDz (l : List Lf) (n c : Nat) (ty : TypeId) : List (Option SV) := maskL 42 0 [(3, .o (.a (.v (.slice none 0 0))))]
def MDs (l : List Lf) (n c : Nat) (ty : TypeId) (r : Nat) : List (Option SV) := maskL 42 0 [(3, .o (.a (.slg 1 r)))]
def MRz (l : List Lf) (n c : Nat) (ty : TypeId) : List (Option SV) := maskL 42 0 [(2, .o (.a (.v (.slice none 0 0))))]
def MRs (l : List Lf) (n c : Nat) (ty : TypeId) (r : Nat) : List (Option SV) := maskL 42 0 [(2, .o (.a (.slg 1 r)))]
theorem i0 (l : List Lf) (n c : Nat) (ty : TypeId) : idsIn (m0 l ty).length (M0 l n c ty ) (m0 l ty) = true := by kernel_rfl
theorem iAz (l : List Lf) (n c : Nat) (ty : TypeId) : idsIn (m0 l ty).length (MAz l n c ty ) (m0 l ty) = true := by kernel_rfl
theorem iBz (l : List Lf) (n c : Nat) (ty : TypeId) : idsIn (m0 l ty).length (MBz l n c ty ) (m0 l ty) = true := by kernel_rfl
theorem iCz (l : List Lf) (n c : Nat) (ty : TypeId) : idsIn (m0 l ty).length (MCz l n c ty ) (m0 l ty) = true := by kernel_rfl
theorem iDz (l : List Lf) (n c : Nat) (ty : TypeId) : idsIn (m0 l ty).length (MDz l n c ty ) (m0 l ty) = true := by kernel_rfl
theorem iRz (l : List Lf) (n c : Nat) (ty : TypeId) : idsIn (m0 l ty).length (MRz l n c ty ) (m0 l ty) = true := by kernel_rfl
theorem iAs (l : List Lf) (n c : Nat) (ty : TypeId) (vs : List Value) (lo : Nat) (hi : Option Nat) (i : Int) (r : Nat) : idsIn (ms l ty vs lo hi).length (MAs l n c ty i r) (ms l ty vs lo hi) = true := by kernel_rfl
theorem iBs (l : List Lf) (n c : Nat) (ty : TypeId) (vs : List Value) (lo : Nat) (hi : Option Nat) (i : Int) (r : Nat) (f : Bool) : idsIn (ms l ty vs lo hi).length (MBs l n c ty i r f) (ms l ty vs lo hi) = true := by kernel_rfl
theorem iCs (l : List Lf) (n c : Nat) (ty : TypeId) (vs : List Value) (lo : Nat) (hi : Option Nat) (i : Int) (r : Nat) (f : Bool) (k : Int) : idsIn (ms l ty vs lo hi).length (MCs l n c ty i r f k) (ms l ty vs lo hi) = true := by kernel_rfl
theorem iDs (l : List Lf) (n c : Nat) (ty : TypeId) (vs : List Value) (lo : Nat) (hi : Option Nat) (r : Nat) : idsIn (ms l ty vs lo hi).length (MDs l n c ty r) (ms l ty vs lo hi) = true := by kernel_rfl
theorem iRs (l : List Lf) (n c : Nat) (ty : TypeId) (vs : List Value) (lo : Nat) (hi : Option Nat) (r : Nat) : idsIn (ms l ty vs lo hi).length (MRs l n c ty r) (ms l ty vs lo hi) = true := by kernel_rfl
theorem s0 (l : List Lf) (n c : Nat) (ty : TypeId) : outX (m0 l ty).length (M0 l n c ty ) (exec Γ tys 300 (cpre 2 body) ⟨startT fn [.o (.a (.sld 0 0 0 n c))], [⟨false, ty, .prv (lvals l)⟩], []⟩) = some (.normal, live (M0 l n c ty ), (M0 l n c ty ).length, m0 l ty, []) := by kernel_rfl
theorem a1 (l : List Lf) (n c : Nat) (ty : TypeId) (g : Nat → SV) : outX (m0 l ty).length (MAz l n c ty ) (exec Γ tys 300 A1 ⟨fill g 0 (M0 l n c ty ), m0 l ty, []⟩) = some (.normal, live (MAz l n c ty ), (MAz l n c ty ).length, m0 l ty, []) := by kernel_rfl
theorem otz (l : List Lf) (n c : Nat) (ty : TypeId) (g : Nat → SV) : outX (m0 l ty).length (MDz l n c ty ) (exec Γ tys 300 L ⟨fill g 0 (MAz l n c ty ), m0 l ty, [(10, [.b false])]⟩) = some ((.exit 0), live (MDz l n c ty ), (MDz l n c ty ).length, m0 l ty, [decide ((0 : Int) < n) = false]) := by kernel_rfl
theorem ots (l : List Lf) (n c : Nat) (ty : TypeId) (vs : List Value) (lo : Nat) (hi : Option Nat) (i : Int) (r : Nat) (g : Nat → SV) : outX (ms l ty vs lo hi).length (MDs l n c ty r) (exec Γ tys 300 L ⟨fill g 0 (MAs l n c ty i r), ms l ty vs lo hi, [(10, [.b false])]⟩) = some ((.exit 0), live (MDs l n c ty r), (MDs l n c ty r).length, ms l ty vs lo hi, [decide (i < n) = false]) := by kernel_rfl
theorem hdz (l : List Lf) (n c : Nat) (ty : TypeId) (g : Nat → SV) : outX (m0 l ty).length (MAz l n c ty ) (exec Γ tys 300 (cpre 2 L) ⟨fill g 0 (MAz l n c ty ), m0 l ty, [(10, [.b true])]⟩) = some (.normal, live (MAz l n c ty ), (MAz l n c ty ).length, m0 l ty, [decide ((0 : Int) < n) = true]) := by kernel_rfl
theorem hds (l : List Lf) (n c : Nat) (ty : TypeId) (vs : List Value) (lo : Nat) (hi : Option Nat) (i : Int) (r : Nat) (g : Nat → SV) : outX (ms l ty vs lo hi).length (MAs l n c ty i r) (exec Γ tys 300 (cpre 2 L) ⟨fill g 0 (MAs l n c ty i r), ms l ty vs lo hi, [(10, [.b true])]⟩) = some (.normal, live (MAs l n c ty i r), (MAs l n c ty i r).length, ms l ty vs lo hi, [decide (i < n) = true]) := by kernel_rfl
theorem xz (l : List Lf) (n c : Nat) (ty : TypeId) (g : Nat → SV) : outX (m0 l ty).length (MBz l n c ty ) (exec Γ tys 300 (cpre 2 X) ⟨fill g 0 (MAz l n c ty ), m0 l ty, []⟩) = some (.normal, live (MBz l n c ty ), (MBz l n c ty ).length, m0 l ty, []) := by kernel_rfl
theorem xs (l : List Lf) (n c : Nat) (ty : TypeId) (vs : List Value) (lo : Nat) (hi : Option Nat) (i : Int) (r : Nat) (g : Nat → SV) : outX (ms l ty vs lo hi).length (MBs l n c ty i r true) (exec Γ tys 300 (cpre 2 X) ⟨fill g 0 (MAs l n c ty i r), ms l ty vs lo hi, []⟩) = some (.normal, live (MBs l n c ty i r true), (MBs l n c ty i r true).length, ms l ty vs lo hi, []) := by kernel_rfl
theorem bz (l : List Lf) (n c : Nat) (ty : TypeId) (g : Nat → SV) : outX (m0 l ty).length (MCz l n c ty ) (exec Γ tys 300 A6 ⟨fill g 0 (MBz l n c ty ), m0 l ty, []⟩) = some (.normal, live (MCz l n c ty ), (MCz l n c ty ).length, m0 l ty, []) := by kernel_rfl
theorem bs (l : List Lf) (n c : Nat) (ty : TypeId) (vs : List Value) (lo : Nat) (hi : Option Nat) (i : Int) (r : Nat) (g : Nat → SV) : outX (ms l ty vs lo hi).length (MCs l n c ty i r true 0) (exec Γ tys 300 A6 ⟨fill g 0 (MBs l n c ty i r true), ms l ty vs lo hi, []⟩) = some (.normal, live (MCs l n c ty i r true 0), (MCs l n c ty i r true 0).length, ms l ty vs lo hi, []) := by kernel_rfl
theorem inz (l : List Lf) (n c : Nat) (ty : TypeId) (g : Nat → SV) : outX (m0 l ty).length (MBz l n c ty ) (exec Γ tys 300 LI ⟨fill g 0 (MCz l n c ty ), m0 l ty, []⟩) = some ((.exit 2), live (MBz l n c ty ), (MBz l n c ty ).length, m0 l ty, []) := by kernel_rfl
theorem int (l : List Lf) (n c : Nat) (ty : TypeId) (vs : List Value) (lo : Nat) (hi : Option Nat) (i : Int) (r : Nat) (k k' : Int) (u v : B32) (g : Nat → SV) : outX (ms l ty vs lo hi).length (MCs l n c ty i r true k') (exec Γ tys 300 LI ⟨fill g 0 (MCs l n c ty i r true k), ms l ty vs lo hi, [(15, [.b true]), (23, [.ds (cB32.enc u)]), (28, [.ds (cB32.enc v)]), (29, [.b true]), (31, [.n k'])]⟩) = some (.normal, live (MCs l n c ty i r true k'), (MCs l n c ty i r true k').length, ms l ty vs lo hi, [decide (k < r) = true, 0 ≤ k, k < r, 0 + offI 0 k 64 + 32 ≤ vs.length, SV.o (.g (takeV vs (0 + offI 0 k 64) 32)) = cB32.enc u, 0 ≤ i, i < n, 0 + offI 0 i 64 + 32 ≤ (lvals l).length, SV.o (.g (takeV (lvals l) (0 + offI 0 i 64) 32)) = cB32.enc v, (!eqL u.to v.to) = true, IntKind.i64.wrap (k + 1) = k']) := by kernel_rfl
theorem inf (l : List Lf) (n c : Nat) (ty : TypeId) (vs : List Value) (lo : Nat) (hi : Option Nat) (i : Int) (r : Nat) (k k' : Int) (u v : B32) (g : Nat → SV) : outX (ms l ty vs lo hi).length (MCs l n c ty i r false k') (exec Γ tys 300 LI ⟨fill g 0 (MCs l n c ty i r true k), ms l ty vs lo hi, [(15, [.b true]), (23, [.ds (cB32.enc u)]), (28, [.ds (cB32.enc v)]), (29, [.b false]), (31, [.n k'])]⟩) = some (.normal, live (MCs l n c ty i r false k'), (MCs l n c ty i r false k').length, ms l ty vs lo hi, [decide (k < r) = true, 0 ≤ k, k < r, 0 + offI 0 k 64 + 32 ≤ vs.length, SV.o (.g (takeV vs (0 + offI 0 k 64) 32)) = cB32.enc u, 0 ≤ i, i < n, 0 + offI 0 i 64 + 32 ≤ (lvals l).length, SV.o (.g (takeV (lvals l) (0 + offI 0 i 64) 32)) = cB32.enc v, (!eqL u.to v.to) = false, IntKind.i64.wrap (k + 1) = k']) := by kernel_rfl
theorem ino (l : List Lf) (n c : Nat) (ty : TypeId) (vs : List Value) (lo : Nat) (hi : Option Nat) (i : Int) (r : Nat) (k k' : Int) (g : Nat → SV) : outX (ms l ty vs lo hi).length (MCs l n c ty i r false k') (exec Γ tys 300 LI ⟨fill g 0 (MCs l n c ty i r false k), ms l ty vs lo hi, [(15, [.b true]), (31, [.n k'])]⟩) = some (.normal, live (MCs l n c ty i r false k'), (MCs l n c ty i r false k').length, ms l ty vs lo hi, [decide (k < r) = true, IntKind.i64.wrap (k + 1) = k']) := by kernel_rfl
theorem ine (l : List Lf) (n c : Nat) (ty : TypeId) (vs : List Value) (lo : Nat) (hi : Option Nat) (i : Int) (r : Nat) (f : Bool) (k : Int) (g : Nat → SV) : outX (ms l ty vs lo hi).length (MBs l n c ty i r f) (exec Γ tys 300 LI ⟨fill g 0 (MCs l n c ty i r f k), ms l ty vs lo hi, [(15, [.b false])]⟩) = some ((.exit 2), live (MBs l n c ty i r f), (MBs l n c ty i r f).length, ms l ty vs lo hi, [decide (k < r) = false]) := by kernel_rfl
theorem ez (l : List Lf) (n c : Nat) (ty : TypeId) (x : Lf) (g : Nat → SV) : outN [0, 2] (MAs l n c ty 0 1) (exec Γ tys 100 E ⟨fill g 0 (MBz l n c ty ), m0 l ty, [(37, [.ds (cLf.enc x)]), (38, [.dyn])]⟩) = some (.normal, (live (MAs l n c ty 0 1)).map (SV.ren (piF [0, 2])), (MAs l n c ty 0 1).length, (ms l ty x.vals 1 none).map (fun b => some (b.ren (piF [0, 2]))), [0 ≤ (0 : Int), (0 : Int) < n, 0 + offI 0 0 64 + 64 ≤ (lvals l).length, SV.o (.g (takeV (lvals l) (0 + offI 0 0 64) 64)) = cLf.enc x, 64 = 1 * 64, 0 + 0 + 1 * 64 ≤ x.vals.length, 0 < 1, Room Tryd.prog 30 1]) := by kernel_rfl
theorem eF (l : List Lf) (n c : Nat) (ty : TypeId) (vs : List Value) (lo : Nat) (hi : Option Nat) (i : Int) (r : Nat) (g : Nat → SV) : outX (ms l ty vs lo hi).length (MAs l n c ty i r) (exec Γ tys 300 E ⟨fill g 0 (MBs l n c ty i r false), ms l ty vs lo hi, []⟩) = some (.normal, live (MAs l n c ty i r), (MAs l n c ty i r).length, ms l ty vs lo hi, []) := by kernel_rfl
theorem eg (l : List Lf) (n c : Nat) (ty : TypeId) (vs : List Value) (lo : Nat) (hi : Option Nat) (i : Int) (r : Nat) (x : Lf) (g : Nat → SV) : outX (ms l ty (vs ++ x.vals) (r + 1) none).length (MAs l n c ty i (r + 1)) (exec Γ tys 300 E ⟨fill g 0 (MBs l n c ty i r true), ms l ty vs (r + 1) none, [(37, [.ds (cLf.enc x)]), (38, [.dyn]), (39, [.dyn])]⟩) = some (.normal, live (MAs l n c ty i (r + 1)), (MAs l n c ty i (r + 1)).length, ms l ty (vs ++ x.vals) (r + 1) none, [0 ≤ i, i < n, 0 + offI 0 i 64 + 64 ≤ (lvals l).length, SV.o (.g (takeV (lvals l) (0 + offI 0 i 64) 64)) = cLf.enc x, 64 = 1 * 64, 0 + 0 + 1 * 64 ≤ x.vals.length, r * 64 = vs.length, r + 1 ≤ r + 1, ∀ v ∈ x.vals, v.oneCell' = true]) := by kernel_rfl
theorem er (l : List Lf) (n c : Nat) (ty : TypeId) (vs : List Value) (lo : Nat) (hi : Option Nat) (i : Int) (r : Nat) (x : Lf) (g : Nat → SV) : outN [0, 3] (MAs l n c ty i (r + 1)) (exec Γ tys 100 E ⟨fill g 0 (MBs l n c ty i r true), ms l ty vs lo (some (r + 1)), [(37, [.ds (cLf.enc x)]), (38, [.dyn]), (39, [.dyn])]⟩) = some (.normal, (live (MAs l n c ty i (r + 1))).map (SV.ren (piF [0, 3])), (MAs l n c ty i (r + 1)).length, (ms l ty (vs ++ x.vals) (r + 1) none).map (fun b => some (b.ren (piF [0, 3]))), [0 ≤ i, i < n, 0 + offI 0 i 64 + 64 ≤ (lvals l).length, SV.o (.g (takeV (lvals l) (0 + offI 0 i 64) 64)) = cLf.enc x, 64 = 1 * 64, 0 + 0 + 1 * 64 ≤ x.vals.length, r * 64 = vs.length, r + 1 ≤ r + 1, Room Tryd.prog 30 (r + 1)]) := by kernel_rfl
theorem nx (l : List Lf) (n c : Nat) (ty : TypeId) (vs : List Value) (lo : Nat) (hi : Option Nat) (i : Int) (r : Nat) (i' : Int) (g : Nat → SV) : outX (ms l ty vs lo hi).length (MAs l n c ty i' r) (exec Γ tys 300 R13 ⟨fill g 0 (MAs l n c ty i r), ms l ty vs lo hi, [(40, [.n i'])]⟩) = some (.normal, live (MAs l n c ty i' r), (MAs l n c ty i' r).length, ms l ty vs lo hi, [IntKind.i64.wrap (i + 1) = i']) := by kernel_rfl
theorem fz (l : List Lf) (n c : Nat) (ty : TypeId) (g : Nat → SV) : outX (m0 l ty).length (MRz l n c ty ) (exec Γ tys 300 D ⟨fill g 0 (MDz l n c ty ), m0 l ty, []⟩) = some (.ret, live (MRz l n c ty ), (MRz l n c ty ).length, m0 l ty, []) := by kernel_rfl
theorem fs (l : List Lf) (n c : Nat) (ty : TypeId) (vs : List Value) (lo : Nat) (hi : Option Nat) (r : Nat) (g : Nat → SV) : outX (ms l ty vs lo hi).length (MRs l n c ty r) (exec Γ tys 300 D ⟨fill g 0 (MDs l n c ty r), ms l ty vs lo hi, []⟩) = some (.ret, live (MRs l n c ty r), (MRs l n c ty r).length, ms l ty vs lo hi, []) := by kernel_rfl
theorem zz (l : List Lf) (n c : Nat) (ty : TypeId) (g : Nat → SV) : eRes tys (fill g 0 (MRz l n c ty )) (fun k => (m0 l ty)[k]?) fn.results.toList = some [.a (.v (.slice none 0 0))] := by kernel_rfl
theorem zs (l : List Lf) (n c : Nat) (ty : TypeId) (vs : List Value) (lo : Nat) (hi : Option Nat) (r : Nat) (g : Nat → SV) : eRes tys (fill g 0 (MRs l n c ty r)) (fun k => (ms l ty vs lo hi)[k]?) fn.results.toList = some [.a (.slg 1 r)] := by kernel_rfl
theorem nil_out (a : Option Addr) : runOut Γ tys fn 300 [.o (.a (.v (.slice a 0 0)))] [] = some (.o (.a (.v (.slice none 0 0))), []) := by kernel_rfl
theorem oneLv (x : Lf) : ∀ v ∈ x.vals, v.oneCell' = true := fun v hv => by
  unfold Lf.vals at hv
  obtain ⟨i, _, rfl⟩ := List.mem_map.1 hv
  rfl
theorem ld_llab (l : List Lf) {i : Nat} (hi : i < l.length) : 0 + offI 0 (i : Int) 64 + 32 ≤ (lvals l).length ∧ SV.o (.g (takeV (lvals l) (0 + offI 0 (i : Int) 64) 32)) = cB32.enc (l.getD i zl).lab := by
  have hb : i * 64 + 64 ≤ l.length * 64 := by have := Nat.mul_le_mul_right 64 (show i + 1 ≤ l.length by omega); omega
  rw [offs, lvals_len]
  refine ⟨by omega, ?_⟩
  have := takeV_flat Lf.vals_len l zl 0 32 hi (by omega)
  rw [Nat.add_zero] at this
  rw [this]
  rfl
theorem ld_leaf (l : List Lf) {i : Nat} (hi : i < l.length) : 0 + offI 0 (i : Int) 64 + 64 ≤ (lvals l).length ∧ SV.o (.g (takeV (lvals l) (0 + offI 0 (i : Int) 64) 64)) = cLf.enc (l.getD i zl) := by
  have hb : i * 64 + 64 ≤ l.length * 64 := by have := Nat.mul_le_mul_right 64 (show i + 1 ≤ l.length by omega); omega
  rw [offs, lvals_len]
  exact ⟨by omega, ld_lf l hi⟩
theorem turn (l : List Lf) (n c : Nat) (ty : TypeId) (hn : l.length = n) (hm : n ≤ 4000000) (out : List Lf) (h1 : out ≠ []) (i : Nat) (hi : i < n) (hol : out.length ≤ i) (g : Nat → SV) {Post : Ex → List SV → List Blk → Prop}
    (h : ∀ out' g, out' = (bif newA out (l.getD i zl).lab out.length then out ++ [l.getD i zl] else out) → Post .normal (fill g 0 (MAs l n c ty i out'.length)) (ms l ty (lvals out') out'.length none)) :
    RunsF Tryd.prog GT 1 (csuf 2 X) (fill g 0 (MBs l n c ty i out.length true)) (ms l ty (lvals out) out.length none) Post := by
  have hlo : (lvals out).length = out.length * 64 := lvals_len out
  obtain ⟨c1, c2⟩ := ld_llab l (show i < l.length by omega)
  obtain ⟨d1, d2⟩ := ld_leaf l (show i < l.length by omega)
  rw [suf_X]
  refine Runs.seq (Runs.seq (Runs.of_outX tys_ok mixed (bs l n c ty _ _ _ i out.length g) trivial (iCs l n c ty _ _ _ _ _ _ _) rfl fun g => ?_))
  refine Runs.block ?_
  refine Runs.loopX (fun (k : Nat) => MCs l n c ty i out.length (newA out (l.getD i zl).lab k) (k : Int)) (fun _ => ms l ty (lvals out) out.length none) (fun k => k ≤ out.length) (fun k => out.length - k) ?_ 0 (Nat.zero_le _) g
  rintro k g hk
  rcases Nat.lt_or_ge k out.length with hlt | hge
  · obtain ⟨a1, a2⟩ := ld_llab out hlt
    have hw : IntKind.i64.wrap ((k : Int) + 1) = ((k + 1 : Nat) : Int) := by rw [IntKind.wrap_i64]; omega
    have hs : newA out (l.getD i zl).lab (k + 1) = (newA out (l.getD i zl).lab k && !eqL (out.getD k zl).lab.to (l.getD i zl).lab.to) := rfl
    cases hf : newA out (l.getD i zl).lab k with
    | false =>
      rw [hf, Bool.false_and] at hs
      refine Runs.of_outX tys_ok mixed (ino l n c ty _ _ _ i out.length _ ((k + 1 : Nat) : Int) g) ⟨decide_eq_true (by omega), hw, trivial⟩ (iCs l n c ty _ _ _ _ _ _ _) rfl fun g => ?_
      exact ⟨k + 1, g, by rw [hs], rfl, by omega, by omega⟩
    | true =>
      rw [hf, Bool.true_and] at hs
      cases hq : (!eqL (out.getD k zl).lab.to (l.getD i zl).lab.to) with
      | true =>
        rw [hq] at hs
        refine Runs.of_outX tys_ok mixed (int l n c ty _ _ _ i out.length _ ((k + 1 : Nat) : Int) _ _ g) ⟨decide_eq_true (by omega), by omega, by omega, a1, a2, by omega, by omega, c1, c2, hq, hw, trivial⟩ (iCs l n c ty _ _ _ _ _ _ _) rfl fun g => ?_
        exact ⟨k + 1, g, by rw [hs], rfl, by omega, by omega⟩
      | false =>
        rw [hq] at hs
        refine Runs.of_outX tys_ok mixed (inf l n c ty _ _ _ i out.length _ ((k + 1 : Nat) : Int) _ _ g) ⟨decide_eq_true (by omega), by omega, by omega, a1, a2, by omega, by omega, c1, c2, hq, hw, trivial⟩ (iCs l n c ty _ _ _ _ _ _ _) rfl fun g => ?_
        exact ⟨k + 1, g, by rw [hs], rfl, by omega, by omega⟩
  · obtain rfl : k = out.length := by omega
    refine Runs.of_outX tys_ok mixed (ine l n c ty _ _ _ i out.length _ _ g) ⟨decide_eq_false (by omega), trivial⟩ (iBs l n c ty _ _ _ _ _ _) rfl fun g => ?_
    show RunsF _ _ _ _ _ _ _
    cases hf : newA out (l.getD i zl).lab out.length with
    | false =>
      rw [hf, cond_false] at h
      exact Runs.of_outX tys_ok mixed (eF l n c ty _ _ _ i out.length g) trivial (iAs l n c ty _ _ _ _ _) rfl fun g => h out g rfl
    | true =>
      rw [hf, cond_true] at h
      have el : (out ++ [l.getD i zl]).length = out.length + 1 := by simp
      have ev : lvals (out ++ [l.getD i zl]) = lvals out ++ (l.getD i zl).vals := by rw [lvals_app, show lvals [l.getD i zl] = (l.getD i zl).vals from List.append_nil _]
      have h' := fun g => h (out ++ [l.getD i zl]) g rfl
      rw [el, ev] at h'
      refine Runs.roomV 1 (out.length + 1) (own := true) (ty := 30) (s := 64) (vs := lvals out) (lo := out.length) rfl ?_ ?_
      · exact Runs.of_outX tys_ok mixed (eg l n c ty (lvals out) 0 none i out.length _ g) ⟨by omega, by omega, d1, d2, rfl, by rw [Lf.vals_len]; omega, by omega, Nat.le_refl _, oneLv _, trivial⟩ (iAs l n c ty _ _ _ _ _) rfl fun g => h' g
      · exact Runs.of_outN tys_ok mixed [0, 3] (er l n c ty (lvals out) out.length none i out.length _ g) ⟨by omega, by omega, d1, d2, rfl, by rw [Lf.vals_len]; omega, by omega, Nat.le_refl _, roomLf _ (by omega), trivial⟩ (iAs l n c ty _ _ _ _ _) rfl fun g => h' g
def MA (l : List Lf) (n c : Nat) (ty : TypeId) : Nat → List (Option SV)
  | 0 => MAz l n c ty
  | i + 1 => MAs l n c ty ((i + 1 : Nat) : Int) (dstA l (i + 1)).length
def mA (l : List Lf) (ty : TypeId) : Nat → List Blk
  | 0 => m0 l ty
  | i + 1 => ms l ty (lvals (dstA l (i + 1))) (dstA l (i + 1)).length none
noncomputable def Q (l : List Lf) (n : Nat) (r : SV) (m : List Blk) : Prop :=
  (n = 0 ∧ endsQ (.o (.a (.v (.slice none 0 0)))) .none r m) ∨ (0 < n ∧ endsQ (.o (.a (.slg 0 (dstA l n).length))) (.new 30 (.grv 64 (lvals (dstA l n)) (dstA l n).length none)) r m)
theorem run (l : List Lf) (n c : Nat) (ty : TypeId) (hn : l.length = n) (hm : n ≤ 4000000) : RunsF Tryd.prog GT 1 body (startT fn [.o (.a (.sld 0 0 0 n c))]) [⟨false, ty, .prv (lvals l)⟩] (EndsM tys fn (fun r m => Q l n r m)) := by
  refine Runs.of_outXP tys_ok mixed 2 (s0 l n c ty) trivial (i0 l n c ty) rfl fun g => ?_
  rw [suf_eq]
  refine Runs.seq (Runs.seq (Runs.of_outX tys_ok mixed (a1 l n c ty g) trivial (iAz l n c ty) rfl fun g => ?_))
  refine Runs.block ?_
  refine Runs.loopX (fun (i : Nat) => MA l n c ty i) (fun i => mA l ty i) (fun i => i ≤ n) (fun i => n - i) ?_ 0 (Nat.zero_le _) g
  rintro i g hi
  rcases Nat.lt_or_ge i n with h | h
  · cases i with
    | zero =>
      obtain ⟨d1, d2⟩ := ld_leaf l (show 0 < l.length by omega)
      refine Runs.of_outXP tys_ok mixed 2 (hdz l n c ty g) ⟨decide_eq_true (by omega), trivial⟩ (iAz l n c ty) rfl fun g => ?_
      rw [suf_L]
      refine Runs.seq (Runs.block ?_)
      refine Runs.of_outXP tys_ok mixed 2 (xz l n c ty g) trivial (iBz l n c ty) rfl fun g => ?_
      rw [suf_X]
      refine Runs.seq (Runs.seq (Runs.of_outX tys_ok mixed (bz l n c ty g) trivial (iCz l n c ty) rfl fun g => ?_))
      refine Runs.block ?_
      refine Runs.loopX (fun (_ : Unit) => MCz l n c ty) (fun _ => m0 l ty) (fun _ => True) (fun _ => 0) ?_ () trivial g
      rintro _ g _
      refine Runs.of_outX tys_ok mixed (inz l n c ty g) trivial (iBz l n c ty) rfl fun g => ?_
      show RunsF _ _ _ _ _ _ _
      refine Runs.of_outN tys_ok mixed [0, 2] (ez l n c ty _ g) ⟨by omega, by omega, d1, d2, rfl, by rw [Lf.vals_len]; omega, by omega, roomLf 1 (by omega), trivial⟩ (iAs l n c ty _ _ _ _ _) rfl fun g => ?_
      show RunsF _ _ _ _ _ _ _
      refine Runs.of_outX tys_ok mixed (nx l n c ty _ _ _ _ _ ((1 : Nat) : Int) g) ⟨by rw [IntKind.wrap_i64]; rfl, trivial⟩ (iAs l n c ty _ _ _ _ _) rfl fun g => ?_
      refine ⟨1, g, rfl, ?_, by omega, by omega⟩
      show ms l ty _ 1 none = ms l ty (lvals [l.getD 0 zl]) 1 none
      rw [show lvals [l.getD 0 zl] = (l.getD 0 zl).vals from List.append_nil _]
    | succ i =>
      have hp := dstA_pos l (i + 1) (by omega)
      have hle := dstA_len l (i + 1)
      refine Runs.of_outXP tys_ok mixed 2 (hds l n c ty _ _ _ _ _ g) ⟨decide_eq_true (by omega), trivial⟩ (iAs l n c ty _ _ _ _ _) rfl fun g => ?_
      rw [suf_L]
      refine Runs.seq (Runs.block ?_)
      refine Runs.of_outXP tys_ok mixed 2 (xs l n c ty _ _ _ _ _ g) trivial (iBs l n c ty _ _ _ _ _ _) rfl fun g => ?_
      refine turn l n c ty hn hm (dstA l (i + 1)) hp (i + 1) h hle g fun out' g he => ?_
      show RunsF _ _ _ _ _ _ _
      have he : out' = dstA l (i + 1 + 1) := he
      subst he
      refine Runs.of_outX tys_ok mixed (nx l n c ty _ _ _ _ _ ((i + 1 + 1 : Nat) : Int) g) ⟨by rw [IntKind.wrap_i64]; omega, trivial⟩ (iAs l n c ty _ _ _ _ _) rfl fun g => ?_
      exact ⟨i + 1 + 1, g, rfl, rfl, by omega, by omega⟩
  · obtain rfl : i = n := by omega
    cases i with
    | zero =>
      refine Runs.of_outX tys_ok mixed (otz l 0 c ty g) ⟨decide_eq_false (by omega), trivial⟩ (iDz l 0 c ty) rfl fun g => ?_
      show RunsF _ _ _ _ _ _ _
      exact Runs.of_outX tys_ok mixed (fz l 0 c ty g) trivial (iRz l 0 c ty) rfl fun g => EndsM.ret (zz l 0 c ty g) (.inl ⟨rfl, rfl⟩)
    | succ i =>
      refine Runs.of_outX tys_ok mixed (ots l (i + 1) c ty _ _ _ _ _ g) ⟨decide_eq_false (by omega), trivial⟩ (iDs l (i + 1) c ty _ _ _ _) rfl fun g => ?_
      show RunsF _ _ _ _ _ _ _
      exact Runs.of_outX tys_ok mixed (fs l (i + 1) c ty _ _ _ _ g) trivial (iRs l (i + 1) c ty _ _ _ _) rfl fun g => EndsM.ret (zs l (i + 1) c ty _ _ _ _ g) (.inr ⟨by omega, 1, rfl, rfl⟩)
def specZ : List PArg → Option (SV × LEff × Cst)
  | [.winv _ vs n ty] => some (.o (.a (.v (.slice none 0 0))), .none, [vs = lvals (lfDec vs), (lfDec vs).length = n, n = 0])
  | [.val (.o (.a (.v (.slice a 0 0))))] => some (.o (.a (.v (.slice none 0 0))), .none, [])
  | _ => none
def specP : List PArg → Option (SV × LEff × Cst)
  | [.winv _ vs n ty] => some (.o (.a (.slg 0 (dstA (lfDec vs) n).length)), .new 30 (.grv 64 (lvals (dstA (lfDec vs) n)) (dstA (lfDec vs) n).length none), [vs = lvals (lfDec vs), (lfDec vs).length = n, n ≤ 4000000, 0 < n])
  | _ => none
noncomputable def conZ : Con Tryd.prog GT := Con.parts tys_ok 23 fn Tryd.func23 (by kernel_rfl) (c := body) (by kernel_rfl) [.winv 64] specZ
  (fun ps r e p h hp => by
    unfold specZ at h
    split at h <;> cases h
    · exact ⟨rfl, fun b hb => by simp only [locBlks, PArg.blk, List.append_nil, List.nil_append, List.mem_singleton] at hb; rw [hb]⟩
    · exact ⟨rfl, fun b hb => by simp [locBlks, PArg.blk] at hb⟩)
  (fun ps r e p cap h hp hi => by
    unfold specZ at h
    split at h <;> cases h
    · rename_i s vs n ty
      obtain ⟨p1, p2, p3, _⟩ := hp
      have q := run (lfDec vs) n (cap 0) ty p2 (by omega)
      rw [← p1] at q
      refine Runs.mono q fun e t m => endsM_mono fun r m h => ?_
      rcases h with ⟨_, h⟩ | ⟨h', _⟩
      · exact h
      · omega
    · exact runs_of_out1 tys_ok mixed (by kernel_rfl) (nil_out _) trivial)
noncomputable def conP : Con Tryd.prog GT := Con.parts tys_ok 23 fn Tryd.func23 (by kernel_rfl) (c := body) (by kernel_rfl) [.winv 64] specP
  (fun ps r e p h hp => by
    unfold specP at h
    split at h <;> cases h
    exact ⟨rfl, fun b hb => by simp only [locBlks, PArg.blk, List.append_nil, List.nil_append, List.mem_singleton] at hb; rw [hb]⟩)
  (fun ps r e p cap h hp hi => by
    unfold specP at h
    split at h <;> cases h
    rename_i s vs n ty
    obtain ⟨p1, p2, p3, p4, _⟩ := hp
    have q := run (lfDec vs) n (cap 0) ty p2 p3
    rw [← p1] at q
    refine Runs.mono q fun e t m => endsM_mono fun r m h => ?_
    rcases h with ⟨h', _⟩ | ⟨_, h⟩
    · omega
    · exact h)
end dst
end Go.Proofs.YtdccehmekkcheaaDoor

/- Package beaconref07: Encode of longer lists of slices: walks, contracts. -/
import Derived.Test.YthlmepolmemejaaDoorDEncN
import Derived.Test.YthlmepolmemejaaDoorDREnc
namespace Go.Proofs.YthlmepolmemejaaDoor
open Go Go.Eng Go.RowKit
set_option linter.unusedVariables false
set_option linter.unusedSimpArgs false
set_option maxRecDepth 100000
namespace renc
namespace k2n
def args (a : Option Addr) (z : Nat) (y1 : List Int) (n1 : Nat) (t1 : TypeId) (ty : TypeId) : List Blk := [⟨false, ty, .lit [.slg 1 n1, .v (.slice a 0 z)]⟩, ⟨false, t1, .pre .u8 y1⟩]
def mem0 (a : Option Addr) (z : Nat) (y1 : List Int) (n1 : Nat) (t1 : TypeId) (ty : TypeId) : List Blk := args a z y1 n1 t1 ty ++ [⟨true, 5, .lit ((b4 2).map (int1 .u8))⟩]
def mem (a : Option Addr) (z : Nat) (y1 : List Int) (n1 : Nat) (t1 : TypeId) (ty : TypeId) (D : List Int) (lo : Nat) (hi : Option Nat) : List Blk := args a z y1 n1 t1 ty ++ [⟨true, 5, .gro .u8 D lo hi⟩]
def M0 : List (Option SV) := maskL 61 0 [(0, .o (.a (.slc 0 0 2 2))), (6, .o (.a (.slc 2 0 4 4)))]
def M1 (i : Int) : List (Option SV) := maskL 61 0 [(0, .o (.a (.slc 0 0 2 2))), (6, .o (.a (.slc 2 0 4 4))), (41, .o (.a (.v (.int .i64 2)))), (42, .o (.a (.v (.int .i64 i))))]
def M2 (i : Int) (n : Nat) : List (Option SV) := maskL 61 0 [(0, .o (.a (.slc 0 0 2 2))), (6, .o (.a (.slg 2 n))), (41, .o (.a (.v (.int .i64 2)))), (42, .o (.a (.v (.int .i64 i))))]
def N1 (i : Int) : List (Option SV) := maskL 61 0 [(0, .o (.a (.slc 0 0 2 2))), (6, .o (.a (.slc 2 0 4 4))), (7, .o (.a (.v (.int .i64 i)))), (41, .o (.a (.v (.int .i64 2)))), (42, .o (.a (.v (.int .i64 i))))]
def N2 (i : Int) (n : Nat) : List (Option SV) := maskL 61 0 [(0, .o (.a (.slc 0 0 2 2))), (6, .o (.a (.slg 2 n))), (7, .o (.a (.v (.int .i64 i)))), (41, .o (.a (.v (.int .i64 2)))), (42, .o (.a (.v (.int .i64 i))))]
def MZ (n : Nat) : List (Option SV) := maskL 61 0 [(6, .o (.a (.slg 2 n)))]
theorem ids0 (a : Option Addr) (z : Nat) (y1 : List Int) (n1 : Nat) (t1 : TypeId) (ty : TypeId) : idsIn (mem0 a z y1 n1 t1 ty ).length (M0) (mem0 a z y1 n1 t1 ty ) = true := by kernel_rfl
theorem ids1 (a : Option Addr) (z : Nat) (y1 : List Int) (n1 : Nat) (t1 : TypeId) (ty : TypeId) (i : Int) : idsIn (mem0 a z y1 n1 t1 ty ).length (M1 i) (mem0 a z y1 n1 t1 ty ) = true := by kernel_rfl
theorem idsN1 (a : Option Addr) (z : Nat) (y1 : List Int) (n1 : Nat) (t1 : TypeId) (ty : TypeId) (i : Int) : idsIn (mem0 a z y1 n1 t1 ty ).length (N1 i) (mem0 a z y1 n1 t1 ty ) = true := by kernel_rfl
theorem ids2 (a : Option Addr) (z : Nat) (y1 : List Int) (n1 : Nat) (t1 : TypeId) (ty : TypeId) (D : List Int) (n lo : Nat) (hi : Option Nat) (i : Int) : idsIn (mem a z y1 n1 t1 ty D lo hi).length (M2 i n) (mem a z y1 n1 t1 ty D lo hi) = true := by kernel_rfl
theorem idsN2 (a : Option Addr) (z : Nat) (y1 : List Int) (n1 : Nat) (t1 : TypeId) (ty : TypeId) (D : List Int) (n lo : Nat) (hi : Option Nat) (i : Int) : idsIn (mem a z y1 n1 t1 ty D lo hi).length (N2 i n) (mem a z y1 n1 t1 ty D lo hi) = true := by kernel_rfl
theorem idsZ (a : Option Addr) (z : Nat) (y1 : List Int) (n1 : Nat) (t1 : TypeId) (ty : TypeId) (D : List Int) (n lo : Nat) (hi : Option Nat) : idsIn (mem a z y1 n1 t1 ty D lo hi).length (MZ n) (mem a z y1 n1 t1 ty D lo hi) = true := by kernel_rfl
def c0 (a : Option Addr) (z : Nat) (y1 : List Int) (n1 : Nat) (t1 : TypeId) (ty : TypeId) : Cst := [decide (((n1 : Nat) : Int) > 1048576) = false, IntKind.i64.wrap (((4 : Nat) : Int) + 4) = ((4 + 4 : Nat) : Int), IntKind.i64.wrap (((4 + 4 : Nat) : Int) + ((n1 : Nat) : Int)) = ((4 + 4 + n1 : Nat) : Int), decide (((4 + 4 + n1 : Nat) : Int) > 1048576) = false, IntKind.i64.wrap (((4 + 4 + n1 : Nat) : Int) + 4) = ((4 + 4 + n1 + 4 : Nat) : Int), IntKind.i64.wrap (((4 + 4 + n1 + 4 : Nat) : Int) + ((0 : Nat) : Int)) = ((4 + 4 + n1 + 4 + 0 : Nat) : Int), decide (((4 + 4 + n1 + 4 + 0 : Nat) : Int) > 1048576) = false, decide (((4 + 4 + n1 + 4 + 0 : Nat) : Int) > 1048576) = false]
theorem holds0 (a : Option Addr) (z : Nat) (y1 : List Int) (n1 : Nat) (t1 : TypeId) (ty : TypeId) (hT : 4 + 4 + n1 + 4 + 0 ≤ 1048576) : Holds (c0 a z y1 n1 t1 ty ) := ⟨decide_eq_false (by omega), by rw [wi64 _ (by omega) (by omega)] <;> omega, by rw [wi64 _ (by omega) (by omega)] <;> omega, decide_eq_false (by omega), by rw [wi64 _ (by omega) (by omega)] <;> omega, by rw [wi64 _ (by omega) (by omega)] <;> omega, decide_eq_false (by omega), decide_eq_false (by omega), trivial⟩
theorem s0 {G : Glob} (a : Option Addr) (z : Nat) (y1 : List Int) (n1 : Nat) (t1 : TypeId) (ty : TypeId) : outX (mem0 a z y1 n1 t1 ty ).length M0 (exec (Γ (G := G)) tys 200 (cpre 5 body) ⟨startT fn [.o (.a (.slc 0 0 2 2))], args a z y1 n1 t1 ty , [(18, [.b false]), (20, [.n ((4 + 4 : Nat) : Int), .n ((4 + 4 + n1 + 4 : Nat) : Int)]), (26, [.n ((4 + 4 + n1 : Nat) : Int), .n ((4 + 4 + n1 + 4 + 0 : Nat) : Int)]), (28, [.b false, .b false]), (35, [.b false])]⟩) = some (.normal, live M0, M0.length, mem0 a z y1 n1 t1 ty , c0 a z y1 n1 t1 ty ) := by kernel_rfl
theorem a14 {G : Glob} (a : Option Addr) (z : Nat) (y1 : List Int) (n1 : Nat) (t1 : TypeId) (ty : TypeId) (g : Nat → SV) : outX (mem0 a z y1 n1 t1 ty ).length (M1 0) (exec (Γ (G := G)) tys 200 A14 ⟨fill g 0 (M0), mem0 a z y1 n1 t1 ty , []⟩) = some (.normal, live (M1 0), (M1 0).length, mem0 a z y1 n1 t1 ty , []) := by kernel_rfl
theorem hd0 {G : Glob} (a : Option Addr) (z : Nat) (y1 : List Int) (n1 : Nat) (t1 : TypeId) (ty : TypeId) (g : Nat → SV) : outX (mem0 a z y1 n1 t1 ty ).length (M1 0) (exec (Γ (G := G)) tys 100 (cpre 2 L) ⟨fill g 0 (M1 0), mem0 a z y1 n1 t1 ty , []⟩) = some (.normal, live (M1 0), (M1 0).length, mem0 a z y1 n1 t1 ty , []) := by kernel_rfl
theorem x0 {G : Glob} (a : Option Addr) (z : Nat) (y1 : List Int) (n1 : Nat) (t1 : TypeId) (ty : TypeId) (g : Nat → SV) : outX (mem0 a z y1 n1 t1 ty ).length (N1 0) (exec (Γ (G := G)) tys 100 (cpre 1 B3) ⟨fill g 0 (M1 0), mem0 a z y1 n1 t1 ty , []⟩) = some (.normal, live (N1 0), (N1 0).length, mem0 a z y1 n1 t1 ty , []) := by kernel_rfl
theorem p0 {G : Glob} (a : Option Addr) (z : Nat) (y1 : List Int) (n1 : Nat) (t1 : TypeId) (ty : TypeId) (g : Nat → SV) : outNL [0, 1, 4] (N2 0 (4 + 4)) (runOps (Γ (G := G)) tys (opsOf R17).toList ((opsOf R17).toList.take 9) ⟨fill g 0 (N1 0), mem0 a z y1 n1 t1 ty , []⟩) = some ((live (N2 0 (4 + 4))).map (SV.ren (piF [0, 1, 4])), (N2 0 (4 + 4)).length, (mem a z y1 n1 t1 ty (b4 2 ++ b4 ((n1 : Nat) : Int)) (4 + 4) none).map (fun b => some (b.ren (piF [0, 1, 4]))), [0 + 4 ≤ 4, 0 + 4 ≤ 4, 4 < 4 + 4, Room Tryd.prog 5 (4 + 4)]) := by kernel_rfl
theorem r0 {G : Glob} (a : Option Addr) (z : Nat) (y1 : List Int) (n1 : Nat) (t1 : TypeId) (ty : TypeId) (D : List Int) (n : Nat) (g : Nat → SV) : outXL (mem a z y1 n1 t1 ty (D ++ ((y1.drop 0).take n1)) (n + n1) none).length (N2 0 (n + n1)) (runOps (Γ (G := G)) tys (opsOf R18).toList ((opsOf R18).toList.take 7) ⟨fill g 0 (N2 0 n), mem a z y1 n1 t1 ty D (n + n1) none, []⟩) = some (live (N2 0 (n + n1)), (N2 0 (n + n1)).length, mem a z y1 n1 t1 ty (D ++ ((y1.drop 0).take n1)) (n + n1) none, [0 + n1 ≤ y1.length, n = D.length, n + n1 ≤ n + n1]) := by kernel_rfl
theorem s0' {G : Glob} (a : Option Addr) (z : Nat) (y1 : List Int) (n1 : Nat) (t1 : TypeId) (ty : TypeId) (D : List Int) (n : Nat) (lo : Nat) (g : Nat → SV) : outNL [0, 1, 3] (N2 0 (n + n1)) (runOps (Γ (G := G)) tys (opsOf R18).toList ((opsOf R18).toList.take 7) ⟨fill g 0 (N2 0 n), mem a z y1 n1 t1 ty D lo (some (n + n1)), []⟩) = some ((live (N2 0 (n + n1))).map (SV.ren (piF [0, 1, 3])), (N2 0 (n + n1)).length, (mem a z y1 n1 t1 ty (D ++ ((y1.drop 0).take n1)) (n + n1) none).map (fun b => some (b.ren (piF [0, 1, 3]))), [0 + n1 ≤ y1.length, n = D.length, n + n1 ≤ n + n1, Room Tryd.prog 5 (n + n1)]) := by kernel_rfl
theorem e0 {G : Glob} (a : Option Addr) (z : Nat) (y1 : List Int) (n1 : Nat) (t1 : TypeId) (ty : TypeId) (D : List Int) (n : Nat) (lo : Nat) (g : Nat → SV) : outX (mem a z y1 n1 t1 ty D lo none).length (M2 1 n) (exec (Γ (G := G)) tys 100 R19 ⟨fill g 0 (N2 0 n), mem a z y1 n1 t1 ty D lo none, []⟩) = some (.normal, live (M2 1 n), (M2 1 n).length, mem a z y1 n1 t1 ty D lo none, []) := by kernel_rfl
theorem hd1 {G : Glob} (a : Option Addr) (z : Nat) (y1 : List Int) (n1 : Nat) (t1 : TypeId) (ty : TypeId) (D : List Int) (n : Nat) (lo : Nat) (g : Nat → SV) : outX (mem a z y1 n1 t1 ty D lo none).length (M2 1 n) (exec (Γ (G := G)) tys 100 (cpre 2 L) ⟨fill g 0 (M2 1 n), mem a z y1 n1 t1 ty D lo none, []⟩) = some (.normal, live (M2 1 n), (M2 1 n).length, mem a z y1 n1 t1 ty D lo none, []) := by kernel_rfl
theorem x1 {G : Glob} (a : Option Addr) (z : Nat) (y1 : List Int) (n1 : Nat) (t1 : TypeId) (ty : TypeId) (D : List Int) (n : Nat) (lo : Nat) (g : Nat → SV) : outX (mem a z y1 n1 t1 ty D lo none).length (N2 1 n) (exec (Γ (G := G)) tys 100 (cpre 1 B3) ⟨fill g 0 (M2 1 n), mem a z y1 n1 t1 ty D lo none, []⟩) = some (.normal, live (N2 1 n), (N2 1 n).length, mem a z y1 n1 t1 ty D lo none, []) := by kernel_rfl
theorem p1 {G : Glob} (a : Option Addr) (z : Nat) (y1 : List Int) (n1 : Nat) (t1 : TypeId) (ty : TypeId) (D : List Int) (n : Nat) (g : Nat → SV) : outXL (mem a z y1 n1 t1 ty (D ++ b4 ((0 : Nat) : Int)) (n + 4) none).length (N2 1 (n + 4)) (runOps (Γ (G := G)) tys (opsOf R17).toList ((opsOf R17).toList.take 9) ⟨fill g 0 (N2 1 n), mem a z y1 n1 t1 ty D (n + 4) none, []⟩) = some (live (N2 1 (n + 4)), (N2 1 (n + 4)).length, mem a z y1 n1 t1 ty (D ++ b4 ((0 : Nat) : Int)) (n + 4) none, [0 + 4 ≤ 4, n = D.length, n + 4 ≤ n + 4]) := by kernel_rfl
theorem q1 {G : Glob} (a : Option Addr) (z : Nat) (y1 : List Int) (n1 : Nat) (t1 : TypeId) (ty : TypeId) (D : List Int) (n : Nat) (lo : Nat) (g : Nat → SV) : outNL [0, 1, 4] (N2 1 (n + 4)) (runOps (Γ (G := G)) tys (opsOf R17).toList ((opsOf R17).toList.take 9) ⟨fill g 0 (N2 1 n), mem a z y1 n1 t1 ty D lo (some (n + 4)), []⟩) = some ((live (N2 1 (n + 4))).map (SV.ren (piF [0, 1, 4])), (N2 1 (n + 4)).length, (mem a z y1 n1 t1 ty (D ++ b4 ((0 : Nat) : Int)) (n + 4) none).map (fun b => some (b.ren (piF [0, 1, 4]))), [0 + 4 ≤ 4, n = D.length, n + 4 ≤ n + 4, Room Tryd.prog 5 (n + 4)]) := by kernel_rfl
theorem r1 {G : Glob} (a : Option Addr) (z : Nat) (y1 : List Int) (n1 : Nat) (t1 : TypeId) (ty : TypeId) (D : List Int) (n : Nat) (g : Nat → SV) : outXL (mem a z y1 n1 t1 ty (D ++ ([] : List Int)) (n + 0) none).length (N2 1 (n + 0)) (runOps (Γ (G := G)) tys (opsOf R18).toList ((opsOf R18).toList.take 7) ⟨fill g 0 (N2 1 n), mem a z y1 n1 t1 ty D (n + 0) none, []⟩) = some (live (N2 1 (n + 0)), (N2 1 (n + 0)).length, mem a z y1 n1 t1 ty (D ++ ([] : List Int)) (n + 0) none, [n = D.length, n + 0 ≤ n + 0]) := by kernel_rfl
theorem s1' {G : Glob} (a : Option Addr) (z : Nat) (y1 : List Int) (n1 : Nat) (t1 : TypeId) (ty : TypeId) (D : List Int) (n : Nat) (lo : Nat) (g : Nat → SV) : outNL [0, 1, 3] (N2 1 (n + 0)) (runOps (Γ (G := G)) tys (opsOf R18).toList ((opsOf R18).toList.take 7) ⟨fill g 0 (N2 1 n), mem a z y1 n1 t1 ty D lo (some (n + 0)), []⟩) = some ((live (N2 1 (n + 0))).map (SV.ren (piF [0, 1, 3])), (N2 1 (n + 0)).length, (mem a z y1 n1 t1 ty (D ++ ([] : List Int)) (n + 0) none).map (fun b => some (b.ren (piF [0, 1, 3]))), [n = D.length, n + 0 ≤ n + 0, Room Tryd.prog 5 (n + 0)]) := by kernel_rfl
theorem e1 {G : Glob} (a : Option Addr) (z : Nat) (y1 : List Int) (n1 : Nat) (t1 : TypeId) (ty : TypeId) (D : List Int) (n : Nat) (lo : Nat) (g : Nat → SV) : outX (mem a z y1 n1 t1 ty D lo none).length (M2 2 n) (exec (Γ (G := G)) tys 100 R19 ⟨fill g 0 (N2 1 n), mem a z y1 n1 t1 ty D lo none, []⟩) = some (.normal, live (M2 2 n), (M2 2 n).length, mem a z y1 n1 t1 ty D lo none, []) := by kernel_rfl
theorem u0 {G : Glob} (a : Option Addr) (z : Nat) (y1 : List Int) (n1 : Nat) (t1 : TypeId) (ty : TypeId) {Post : Ex → List SV → List Blk → Prop} (hp : ∀ g, Post .normal (fill g 0 (N2 0 (4 + 4))) (mem a z y1 n1 t1 ty (b4 2 ++ b4 ((n1 : Nat) : Int)) (4 + 4) none)) (g : Nat → SV) :
    RunsL Tryd.prog G 2 (opsOf R17) (opsOf R17).toList (fill g 0 (N1 0)) (mem0 a z y1 n1 t1 ty ) Post := by
  refine RunsL.of_outN tys_ok 9 _ (p0 a z y1 n1 t1 ty g) ⟨by omega, by omega, by omega, room8 _ (by omega), trivial⟩ (idsN2 a z y1 n1 t1 ty _ _ _ _ _) rfl fun g => ?_
  rw [nil17]
  exact RunsL.nil (hp g)
theorem v0 {G : Glob} (a : Option Addr) (z : Nat) (y1 : List Int) (n1 : Nat) (t1 : TypeId) (ty : TypeId) (D : List Int) (n lo : Nat) (hD : n = D.length) (hn : n ≤ 1048576) (hy : y1.length = n1) (hm : n1 ≤ 1048576) {Post : Ex → List SV → List Blk → Prop} (hp : ∀ g, Post .normal (fill g 0 (N2 0 (n + n1))) (mem a z y1 n1 t1 ty (D ++ ((y1.drop 0).take n1)) (n + n1) none)) (g : Nat → SV) :
    RunsL Tryd.prog G 2 (opsOf R18) (opsOf R18).toList (fill g 0 (N2 0 n)) (mem a z y1 n1 t1 ty D lo none) Post := by
  refine RunsL.room 2 (n + n1) (own := true) (ty := 5) (kd := .u8) (xs := D) (lo := lo) rfl ?_ ?_
  · refine RunsL.of_outX tys_ok 7 (r0 a z y1 n1 t1 ty D n g) ⟨by omega, hD, by omega, trivial⟩ (idsN2 a z y1 n1 t1 ty _ _ _ _ _) rfl fun g => ?_
    rw [nil18]
    exact RunsL.nil (hp g)
  · refine RunsL.of_outN tys_ok 7 _ (s0' a z y1 n1 t1 ty D n lo g) ⟨by omega, hD, by omega, room8 _ (by omega), trivial⟩ (idsN2 a z y1 n1 t1 ty _ _ _ _ _) rfl fun g => ?_
    rw [nil18]
    exact RunsL.nil (hp g)
theorem u1 {G : Glob} (a : Option Addr) (z : Nat) (y1 : List Int) (n1 : Nat) (t1 : TypeId) (ty : TypeId) (D : List Int) (n lo : Nat) (hD : n = D.length) (hn : n ≤ 1048576) {Post : Ex → List SV → List Blk → Prop} (hp : ∀ g, Post .normal (fill g 0 (N2 1 (n + 4))) (mem a z y1 n1 t1 ty (D ++ b4 ((0 : Nat) : Int)) (n + 4) none)) (g : Nat → SV) :
    RunsL Tryd.prog G 2 (opsOf R17) (opsOf R17).toList (fill g 0 (N2 1 n)) (mem a z y1 n1 t1 ty D lo none) Post := by
  refine RunsL.room 2 (n + 4) (own := true) (ty := 5) (kd := .u8) (xs := D) (lo := lo) rfl ?_ ?_
  · refine RunsL.of_outX tys_ok 9 (p1 a z y1 n1 t1 ty D n g) ⟨by omega, hD, by omega, trivial⟩ (idsN2 a z y1 n1 t1 ty _ _ _ _ _) rfl fun g => ?_
    rw [nil17]
    exact RunsL.nil (hp g)
  · refine RunsL.of_outN tys_ok 9 _ (q1 a z y1 n1 t1 ty D n lo g) ⟨by omega, hD, by omega, room8 _ (by omega), trivial⟩ (idsN2 a z y1 n1 t1 ty _ _ _ _ _) rfl fun g => ?_
    rw [nil17]
    exact RunsL.nil (hp g)
theorem v1 {G : Glob} (a : Option Addr) (z : Nat) (y1 : List Int) (n1 : Nat) (t1 : TypeId) (ty : TypeId) (D : List Int) (n lo : Nat) (hD : n = D.length) (hn : n ≤ 1048576) (hm : 0 ≤ 1048576) {Post : Ex → List SV → List Blk → Prop} (hp : ∀ g, Post .normal (fill g 0 (N2 1 (n + 0))) (mem a z y1 n1 t1 ty (D ++ ([] : List Int)) (n + 0) none)) (g : Nat → SV) :
    RunsL Tryd.prog G 2 (opsOf R18) (opsOf R18).toList (fill g 0 (N2 1 n)) (mem a z y1 n1 t1 ty D lo none) Post := by
  refine RunsL.room 2 (n + 0) (own := true) (ty := 5) (kd := .u8) (xs := D) (lo := lo) rfl ?_ ?_
  · refine RunsL.of_outX tys_ok 7 (r1 a z y1 n1 t1 ty D n g) ⟨hD, by omega, trivial⟩ (idsN2 a z y1 n1 t1 ty _ _ _ _ _) rfl fun g => ?_
    rw [nil18]
    exact RunsL.nil (hp g)
  · refine RunsL.of_outN tys_ok 7 _ (s1' a z y1 n1 t1 ty D n lo g) ⟨hD, by omega, room8 _ (by omega), trivial⟩ (idsN2 a z y1 n1 t1 ty _ _ _ _ _) rfl fun g => ?_
    rw [nil18]
    exact RunsL.nil (hp g)
theorem hz {G : Glob} (a : Option Addr) (z : Nat) (y1 : List Int) (n1 : Nat) (t1 : TypeId) (ty : TypeId) (D : List Int) (n lo : Nat) (g : Nat → SV) : outX (mem a z y1 n1 t1 ty D lo none).length (MZ n) (exec (Γ (G := G)) tys 100 L ⟨fill g 0 (M2 2 n), mem a z y1 n1 t1 ty D lo none, []⟩) = some (.exit 2, live (MZ n), (MZ n).length, mem a z y1 n1 t1 ty D lo none, []) := by kernel_rfl
noncomputable def fin (G : Glob) (a : Option Addr) (z : Nat) (y1 : List Int) (n1 : Nat) (t1 : TypeId) (ty : TypeId) (D : List Int) (n lo : Nat) (g : Nat → SV) : St := outS (Γ (G := G)) tys 100 renc.D ⟨fill g 0 (MZ n), mem a z y1 n1 t1 ty D lo none, []⟩
theorem d {G : Glob} (a : Option Addr) (z : Nat) (y1 : List Int) (n1 : Nat) (t1 : TypeId) (ty : TypeId) (D : List Int) (n lo : Nat) (g : Nat → SV) : exec (Γ (G := G)) tys 100 renc.D ⟨fill g 0 (MZ n), mem a z y1 n1 t1 ty D lo none, []⟩ = some (.ret, ⟨(fin G a z y1 n1 t1 ty D n lo g).tm, (fin G a z y1 n1 t1 ty D n lo g).mem, []⟩, []) := by kernel_rfl
theorem res {G : Glob} (a : Option Addr) (z : Nat) (y1 : List Int) (n1 : Nat) (t1 : TypeId) (ty : TypeId) (D : List Int) (n lo : Nat) (g : Nat → SV) : eRes tys (fin G a z y1 n1 t1 ty D n lo g).tm (fun k => (fin G a z y1 n1 t1 ty D n lo g).mem[k]?) fn.results.toList = some [.a (.slg 2 n), .a (.v (.int .i64 0))] := by kernel_rfl
theorem row {G : Glob} (a : Option Addr) (z : Nat) (y1 : List Int) (n1 : Nat) (t1 : TypeId) (ty : TypeId) (D : List Int) (n lo : Nat) (g : Nat → SV) : (fin G a z y1 n1 t1 ty D n lo g).mem[2]? = some ⟨true, 5, .gro .u8 D lo none⟩ := by kernel_rfl
def Mx (a : Option Addr) (z : Nat) (y1 : List Int) (n1 : Nat) (t1 : TypeId) (ty : TypeId) : Nat → List (Option SV)
  | 0 => M1 0
  | 1 => M2 1 (4 + 4 + n1)
  | _ => M2 2 (4 + 4 + n1 + 4 + 0)
def Bx (a : Option Addr) (z : Nat) (y1 : List Int) (n1 : Nat) (t1 : TypeId) (ty : TypeId) : Nat → List Blk
  | 0 => mem0 a z y1 n1 t1 ty 
  | 1 => mem a z y1 n1 t1 ty (b4 2 ++ b4 ((n1 : Nat) : Int) ++ ((y1.drop 0).take n1)) (4 + 4 + n1) none
  | _ => mem a z y1 n1 t1 ty (b4 2 ++ b4 ((n1 : Nat) : Int) ++ ((y1.drop 0).take n1) ++ b4 ((0 : Nat) : Int) ++ ([] : List Int)) (4 + 4 + n1 + 4 + 0) none
theorem walk {G : Glob} (a : Option Addr) (z : Nat) (y1 : List Int) (n1 : Nat) (t1 : TypeId) (ty : TypeId) (h1 : y1.length = n1) (hT : encT [y1, []] ≤ 1048576) :
    RunsF Tryd.prog G 2 body (startT fn [.o (.a (.slc 0 0 2 2))]) (args a z y1 n1 t1 ty ) (EndsM tys fn (endsQ (rencRes [y1, []]) (.new 5 (.gro .u8 (encB [y1, []]) (encT [y1, []]) none)))) := by
  have hE : encT [y1, []] = 4 + 4 + n1 + 4 + 0 := by simp only [encT, encL, List.length_nil]; omega
  have el1 : ((y1.drop 0).take n1).length = n1 := by rw [dt y1 n1 h1]; exact h1
  refine Runs.of_outXP tys_ok mixed 5 (s0 a z y1 n1 t1 ty ) (holds0 a z y1 n1 t1 ty (by omega)) (ids0 a z y1 n1 t1 ty ) rfl fun g => ?_
  rw [suf_eq]
  refine Runs.seq (Runs.seq (Runs.of_outX tys_ok mixed (a14 a z y1 n1 t1 ty g) trivial (ids1 a z y1 n1 t1 ty 0) rfl fun g => ?_))
  refine Runs.block ?_
  refine Runs.loopX (Mx a z y1 n1 t1 ty ) (Bx a z y1 n1 t1 ty ) (fun i => i ≤ 2) (fun i => 2 - i) ?_ 0 (by omega) g
  intro i g hi
  obtain rfl | rfl | rfl : i = 0 ∨ i = 1 ∨ i = 2 := by omega
  · refine Runs.of_outXP tys_ok mixed 2 (hd0 a z y1 n1 t1 ty g) trivial (ids1 a z y1 n1 t1 ty 0) rfl fun g => ?_
    rw [L_eq]
    refine Runs.seq (Runs.block (Runs.of_outXP tys_ok mixed 1 (x0 a z y1 n1 t1 ty g) trivial (idsN1 a z y1 n1 t1 ty 0) rfl fun g => ?_))
    rw [B3_eq]
    refine Runs.seq (Runs.region (u0 a z y1 n1 t1 ty (fun g => ?_) g))
    refine Runs.region (v0 a z y1 n1 t1 ty (b4 2 ++ b4 ((n1 : Nat) : Int)) (4 + 4) (4 + 4) (by simp only [List.length_append, b4_len, el1]) (by omega) h1 (by omega) (fun g => ?_) g)
    exact Runs.of_outX tys_ok mixed (e0 a z y1 n1 t1 ty _ _ _ g) trivial (ids2 a z y1 n1 t1 ty _ _ _ _ _) rfl fun g => ⟨1, g, rfl, rfl, by omega, by omega⟩
  · refine Runs.of_outXP tys_ok mixed 2 (hd1 a z y1 n1 t1 ty (b4 2 ++ b4 ((n1 : Nat) : Int) ++ ((y1.drop 0).take n1)) (4 + 4 + n1) (4 + 4 + n1) g) trivial (ids2 a z y1 n1 t1 ty _ _ _ _ _) rfl fun g => ?_
    rw [L_eq]
    refine Runs.seq (Runs.block (Runs.of_outXP tys_ok mixed 1 (x1 a z y1 n1 t1 ty _ _ _ g) trivial (idsN2 a z y1 n1 t1 ty _ _ _ _ _) rfl fun g => ?_))
    rw [B3_eq]
    refine Runs.seq (Runs.region (u1 a z y1 n1 t1 ty (b4 2 ++ b4 ((n1 : Nat) : Int) ++ ((y1.drop 0).take n1)) (4 + 4 + n1) (4 + 4 + n1) (by simp only [List.length_append, b4_len, el1]) (by omega) (fun g => ?_) g))
    refine Runs.region (v1 a z y1 n1 t1 ty (b4 2 ++ b4 ((n1 : Nat) : Int) ++ ((y1.drop 0).take n1) ++ b4 ((0 : Nat) : Int)) (4 + 4 + n1 + 4) (4 + 4 + n1 + 4) (by simp only [List.length_append, b4_len, el1]) (by omega) (by omega) (fun g => ?_) g)
    exact Runs.of_outX tys_ok mixed (e1 a z y1 n1 t1 ty _ _ _ g) trivial (ids2 a z y1 n1 t1 ty _ _ _ _ _) rfl fun g => ⟨2, g, rfl, rfl, by omega, by omega⟩
  · refine Runs.of_outX tys_ok mixed (hz a z y1 n1 t1 ty (b4 2 ++ b4 ((n1 : Nat) : Int) ++ ((y1.drop 0).take n1) ++ b4 ((0 : Nat) : Int) ++ ([] : List Int)) (4 + 4 + n1 + 4 + 0) (4 + 4 + n1 + 4 + 0) g) trivial (idsZ a z y1 n1 t1 ty _ _ _ _) rfl fun g => ?_
    refine Runs.of_exec tys_ok mixed (d a z y1 n1 t1 ty _ _ _ g) trivial (EndsM.ret (res a z y1 n1 t1 ty _ _ _ g) ⟨2, ?_, ?_⟩)
    · unfold rencRes
      rw [hE]
      rfl
    · rw [row, hE]
      congr 3
      simp only [dt y1 n1 h1, encB, encR, List.append_assoc, List.append_nil, h1]
      rfl
def D : Dec Tryd.prog LstA := Dec.listV Tryd.prog .u8 [true, false] rencRes (fun ls => .new 5 (.gro .u8 (encB ls) (encT ls) none)) (fun ls => [encT ls ≤ 1048576]) (fun ls => rfl)
noncomputable def con {G : Glob} : Con Tryd.prog G := Con.hand tys_ok 17 fn Tryd.func17 (by kernel_rfl) (c := body) (by kernel_rfl) D
  (fun x hc hi => by
    obtain ⟨its, m, ty⟩ := x
    obtain ⟨⟨hs, hn, hy⟩, hv⟩ := hi
    have hp := (holds_append hc).2.1
    simp only at hs hn hy hp
    obtain ⟨a1, t1, rfl, q1⟩ := shp_cons hs
    obtain ⟨a2, t2, rfl, q2⟩ := shp_v q1
    obtain rfl := shp_nil q2
    have hn : m = 2 := hn
    subst hn
    obtain ⟨p0, c0, rfl⟩ := hv a2 (by simp)
    exact walk p0 c0 a1.ys a1.n a1.ty ty (hy a1 (by simp [winsI])) hp)
end k2n
end renc
end Go.Proofs.YthlmepolmemejaaDoor

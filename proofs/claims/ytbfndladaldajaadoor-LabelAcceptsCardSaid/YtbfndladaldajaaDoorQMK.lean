/- Package beaconref01: its table, rotations, and padded: walked, with contracts. -/
import Derived.Test.YtbfndladaldajaaDoorQMH
import Derived.Laws.MathBits
namespace Go.Proofs.YtbfndladaldajaaDoor
open Go Go.Eng Go.RowKit
set_option linter.unusedVariables false
set_option maxRecDepth 100000
def padZ (n bk ln : Nat) : Nat := (bk - (n + 1 + ln) % bk) % bk
def lenE (bt : Int) (i : Nat) : Int := cond (Nat.ble 8 i) 0 (byteAt bt (8 * i))
def lenB (bt : Int) : Nat → List Int
  | 0 => []
  | i + 1 => lenE bt i :: lenB bt i
def lenV (n : Nat) : Int := IntKind.u64.wrap (IntKind.u64.wrap (n : Int) * 8)
def padR (ys : List Int) (bk ln : Nat) : List Int := ys ++ ([128] ++ (List.replicate (padZ ys.length bk ln) 0 ++ lenB (lenV ys.length) ln))
theorem lenB_length (bt : Int) : ∀ i, (lenB bt i).length = i
  | 0 => rfl
  | i + 1 => by rw [lenB, List.length_cons, lenB_length]
namespace padd
noncomputable abbrev fn := Tryd.f36
noncomputable def body : Code := bodyOf fn
noncomputable def R0 : Code := cs1 body
noncomputable def R1 : Code := cs1 (cs2 body)
noncomputable def R2 : Code := cs1 (cs2 (cs2 body))
noncomputable def T3 : Code := cs2 (cs2 (cs2 body))
noncomputable def L1 : Code := cL (cB (cs1 T3))
noncomputable def R5 : Code := cs1 (cs2 T3)
noncomputable def T6 : Code := cs2 (cs2 T3)
noncomputable def R6 : Code := cs1 (cs1 T6)
noncomputable def L2 : Code := cL (cB (cs2 (cs1 T6)))
noncomputable def D : Code := cs2 T6
theorem body_eq : body = .seq R0 (.seq R1 (.seq R2 (.seq (.block 0 (.loop L1)) (.seq R5 (.seq (.seq R6 (.block 2 (.loop L2))) D))))) := by kernel_rfl
namespace win64
def M0 (ys : List Int) (n c : Nat) (ty : TypeId) : List (Option SV) := maskL 51 0 [(0, .o (.a (.sld 0 0 0 n c))), (1, (cInt .i64).enc (64)), (2, (cInt .i64).enc (8))]
def M1 (ys : List Int) (n c : Nat) (ty : TypeId) (len : Nat) : List (Option SV) := maskL 51 0 [(0, .o (.a (.sld 0 0 0 n c))), (1, (cInt .i64).enc (64)), (2, (cInt .i64).enc (8)), (7, .o (.a (.slg 1 len)))]
def M2 (ys : List Int) (n c : Nat) (ty : TypeId) (len : Nat) (bt : Int) : List (Option SV) := maskL 51 0 [(0, .o (.a (.sld 0 0 0 n c))), (1, (cInt .i64).enc (64)), (2, (cInt .i64).enc (8)), (7, .o (.a (.slg 1 len))), (8, (cInt .u64).enc bt)]
def M3 (ys : List Int) (n c : Nat) (ty : TypeId) (len : Nat) (bt : Int) (j : Nat) : List (Option SV) := maskL 51 0 [(0, .o (.a (.sld 0 0 0 n c))), (1, (cInt .i64).enc (64)), (2, (cInt .i64).enc (8)), (7, .o (.a (.slg 1 len))), (8, (cInt .u64).enc bt), (9, (cInt .i64).enc (((j : Nat) : Int) - 1))]
def mem0 (ys : List Int) (n c : Nat) (ty : TypeId) : List Blk := [⟨false, ty, .pre .u8 ys⟩]
def mem (ys : List Int) (n c : Nat) (ty : TypeId) (xs : List Int) (lo : Nat) (hi : Option Nat) : List Blk := [⟨false, ty, .pre .u8 ys⟩, ⟨true, 5, .gro .u8 xs lo hi⟩]
noncomputable def t0 (ys : List Int) (n c : Nat) (ty : TypeId) : List SV := startT fn [.o (.a (.sld 0 0 0 n c)), (cInt .i64).enc (64), (cInt .i64).enc (8)]
theorem ids0 (ys : List Int) (n c : Nat) (ty : TypeId) : idsIn (mem0 ys n c ty).length (M0 ys n c ty) (mem0 ys n c ty) = true := by kernel_rfl
theorem ids1 (ys : List Int) (n c : Nat) (ty : TypeId) (xs : List Int) (lo len : Nat) (hi : Option Nat) : idsIn (mem ys n c ty xs lo hi).length (M1 ys n c ty len) (mem ys n c ty xs lo hi) = true := by kernel_rfl
theorem ids2 (ys : List Int) (n c : Nat) (ty : TypeId) (xs : List Int) (lo len : Nat) (bt : Int) (hi : Option Nat) : idsIn (mem ys n c ty xs lo hi).length (M2 ys n c ty len bt) (mem ys n c ty xs lo hi) = true := by kernel_rfl
theorem ids3 (ys : List Int) (n c : Nat) (ty : TypeId) (xs : List Int) (lo len : Nat) (bt : Int) (j : Nat) (hi : Option Nat) : idsIn (mem ys n c ty xs lo hi).length (M3 ys n c ty len bt j) (mem ys n c ty xs lo hi) = true := by kernel_rfl
theorem r0 (ys : List Int) (n c : Nat) (ty : TypeId) : outX (mem0 ys n c ty).length (M0 ys n c ty) (exec ([] : Cons Tryd.prog Gs) tys 100 R0 ⟨t0 ys n c ty, mem0 ys n c ty, []⟩) = some (.normal, live (M0 ys n c ty), (M0 ys n c ty).length, mem0 ys n c ty, []) := by kernel_rfl
theorem r1 (ys : List Int) (n c : Nat) (ty : TypeId) (g : Nat → SV) : outN [0, 2] (M1 ys n c ty n) (exec ([] : Cons Tryd.prog Gs) tys 100 R1 ⟨fill g 0 (M0 ys n c ty), mem0 ys n c ty, []⟩) = some (.normal, (live (M1 ys n c ty n)).map (SV.ren (piF [0, 2])), (M1 ys n c ty n).length, (mem ys n c ty ((ys.drop 0).take n) n none).map (fun b => some (b.ren (piF [0, 2]))), [0 + n ≤ ys.length, 0 < n, Room Tryd.prog 5 n]) := by kernel_rfl
def Mz (ys : List Int) (n c : Nat) (ty : TypeId) : List (Option SV) := maskL 51 0 [(0, .o (.a (.sld 0 0 0 n c))), (1, (cInt .i64).enc (64)), (2, (cInt .i64).enc (8)), (7, .o (.a (.slc 1 0 0 0)))]
def memz (ys : List Int) (n c : Nat) (ty : TypeId) : List Blk := [⟨false, ty, .pre .u8 ys⟩, ⟨true, 5, .lit []⟩]
theorem idsz (ys : List Int) (n c : Nat) (ty : TypeId) : idsIn (memz ys n c ty).length (Mz ys n c ty) (memz ys n c ty) = true := by kernel_rfl
theorem r1z (ys : List Int) (n c : Nat) (ty : TypeId) (g : Nat → SV) : outX (memz ys n c ty).length (Mz ys n c ty) (exec ([] : Cons Tryd.prog Gs) tys 100 R1 ⟨fill g 0 (M0 ys n c ty), mem0 ys n c ty, [(12, [.dyn])]⟩) = some (.normal, live (Mz ys n c ty), (Mz ys n c ty).length, memz ys n c ty, [0 + n ≤ ys.length, n = 0, 0 ≤ 0]) := by kernel_rfl
theorem r2z (ys : List Int) (n c : Nat) (ty : TypeId) (g : Nat → SV) : outN [0, 3] (M1 ys n c ty 1) (exec ([] : Cons Tryd.prog Gs) tys 100 R2 ⟨fill g 0 (Mz ys n c ty), memz ys n c ty, []⟩) = some (.normal, (live (M1 ys n c ty 1)).map (SV.ren (piF [0, 3])), (M1 ys n c ty 1).length, (mem ys n c ty [128] 1 none).map (fun b => some (b.ren (piF [0, 3]))), [0 + 1 ≤ 1, 0 < 1, Room Tryd.prog 5 1]) := by kernel_rfl
theorem r2i (ys : List Int) (n c : Nat) (ty : TypeId) (xs : List Int) (len lo : Nat) (g : Nat → SV) : outX (mem ys n c ty (xs ++ [128]) (len + 1) none).length (M1 ys n c ty (len + 1)) (exec ([] : Cons Tryd.prog Gs) tys 100 R2 ⟨fill g 0 (M1 ys n c ty len), mem ys n c ty xs (len + 1) none, []⟩) = some (.normal, live (M1 ys n c ty (len + 1)), (M1 ys n c ty (len + 1)).length, mem ys n c ty (xs ++ [128]) (len + 1) none, [0 + 1 ≤ 1, len = xs.length, len + 1 ≤ len + 1]) := by kernel_rfl
theorem r2g (ys : List Int) (n c : Nat) (ty : TypeId) (xs : List Int) (len lo : Nat) (g : Nat → SV) : outN [0, 3] (M1 ys n c ty (len + 1)) (exec ([] : Cons Tryd.prog Gs) tys 100 R2 ⟨fill g 0 (M1 ys n c ty len), mem ys n c ty xs lo (some (len + 1)), []⟩) = some (.normal, (live (M1 ys n c ty (len + 1))).map (SV.ren (piF [0, 3])), (M1 ys n c ty (len + 1)).length, (mem ys n c ty (xs ++ [128]) (len + 1) none).map (fun b => some (b.ren (piF [0, 3]))), [0 + 1 ≤ 1, len = xs.length, len + 1 ≤ len + 1, Room Tryd.prog 5 (len + 1)]) := by kernel_rfl
theorem l1i (ys : List Int) (n c : Nat) (ty : TypeId) (xs : List Int) (len lo : Nat) (g : Nat → SV) : outX (mem ys n c ty (xs ++ [0]) (len + 1) none).length (M1 ys n c ty (len + 1)) (exec ([] : Cons Tryd.prog Gs) tys 100 L1 ⟨fill g 0 (M1 ys n c ty len), mem ys n c ty xs (len + 1) none, [(22, [.b true])]⟩) = some (.normal, live (M1 ys n c ty (len + 1)), (M1 ys n c ty (len + 1)).length, mem ys n c ty (xs ++ [0]) (len + 1) none, [((IntKind.i64.wrap ((len : Int) + 8)).tmod 64 != 0) = true, 0 + 1 ≤ 1, len = xs.length, len + 1 ≤ len + 1]) := by kernel_rfl
theorem l1g (ys : List Int) (n c : Nat) (ty : TypeId) (xs : List Int) (len lo : Nat) (g : Nat → SV) : outN [0, 3] (M1 ys n c ty (len + 1)) (exec ([] : Cons Tryd.prog Gs) tys 100 L1 ⟨fill g 0 (M1 ys n c ty len), mem ys n c ty xs lo (some (len + 1)), [(22, [.b true])]⟩) = some (.normal, (live (M1 ys n c ty (len + 1))).map (SV.ren (piF [0, 3])), (M1 ys n c ty (len + 1)).length, (mem ys n c ty (xs ++ [0]) (len + 1) none).map (fun b => some (b.ren (piF [0, 3]))), [((IntKind.i64.wrap ((len : Int) + 8)).tmod 64 != 0) = true, 0 + 1 ≤ 1, len = xs.length, len + 1 ≤ len + 1, Room Tryd.prog 5 (len + 1)]) := by kernel_rfl
theorem l1x (ys : List Int) (n c : Nat) (ty : TypeId) (xs : List Int) (len lo : Nat) (g : Nat → SV) : outX (mem ys n c ty xs lo none).length (M1 ys n c ty len) (exec ([] : Cons Tryd.prog Gs) tys 100 L1 ⟨fill g 0 (M1 ys n c ty len), mem ys n c ty xs lo none, [(22, [.b false])]⟩) = some (.exit 0, live (M1 ys n c ty len), (M1 ys n c ty len).length, mem ys n c ty xs lo none, [((IntKind.i64.wrap ((len : Int) + 8)).tmod 64 != 0) = false]) := by kernel_rfl
theorem r5 (ys : List Int) (n c : Nat) (ty : TypeId) (xs : List Int) (len lo : Nat) (g : Nat → SV) : outX (mem ys n c ty xs lo none).length (M2 ys n c ty len (lenV n)) (exec ([] : Cons Tryd.prog Gs) tys 100 R5 ⟨fill g 0 (M1 ys n c ty len), mem ys n c ty xs lo none, []⟩) = some (.normal, live (M2 ys n c ty len (lenV n)), (M2 ys n c ty len (lenV n)).length, mem ys n c ty xs lo none, []) := by kernel_rfl
theorem r6 (ys : List Int) (n c : Nat) (ty : TypeId) (xs : List Int) (len lo : Nat) (bt : Int) (g : Nat → SV) : outX (mem ys n c ty xs lo none).length (M3 ys n c ty len bt 8) (exec ([] : Cons Tryd.prog Gs) tys 100 R6 ⟨fill g 0 (M2 ys n c ty len bt), mem ys n c ty xs lo none, []⟩) = some (.normal, live (M3 ys n c ty len bt 8), (M3 ys n c ty len bt 8).length, mem ys n c ty xs lo none, []) := by kernel_rfl
theorem l2i (ys : List Int) (n c : Nat) (ty : TypeId) (xs : List Int) (len lo : Nat) (bt : Int) (g : Nat → SV) : tabLH (fun i => outX (mem ys n c ty (xs ++ [lenE bt i]) (len + 1) none).length (M3 ys n c ty (len + 1) bt i) (exec ([] : Cons Tryd.prog Gs) tys 100 L2 ⟨fill g 0 (M3 ys n c ty len bt (i + 1)), mem ys n c ty xs (len + 1) none, []⟩)) 8 = tabRH (fun i => some (.normal, live (M3 ys n c ty (len + 1) bt i), (M3 ys n c ty (len + 1) bt i).length, mem ys n c ty (xs ++ [lenE bt i]) (len + 1) none, [0 + 1 ≤ 1, len = xs.length, len + 1 ≤ len + 1])) 8 := by kernel_rfl
theorem l2g (ys : List Int) (n c : Nat) (ty : TypeId) (xs : List Int) (len lo : Nat) (bt : Int) (g : Nat → SV) : tabLH (fun i => outN [0, 3] (M3 ys n c ty (len + 1) bt i) (exec ([] : Cons Tryd.prog Gs) tys 100 L2 ⟨fill g 0 (M3 ys n c ty len bt (i + 1)), mem ys n c ty xs lo (some (len + 1)), []⟩)) 8 = tabRH (fun i => some (.normal, (live (M3 ys n c ty (len + 1) bt i)).map (SV.ren (piF [0, 3])), (M3 ys n c ty (len + 1) bt i).length, (mem ys n c ty (xs ++ [lenE bt i]) (len + 1) none).map (fun b => some (b.ren (piF [0, 3]))), [0 + 1 ≤ 1, len = xs.length, len + 1 ≤ len + 1, Room Tryd.prog 5 (len + 1)])) 8 := by kernel_rfl
theorem l2x (ys : List Int) (n c : Nat) (ty : TypeId) (xs : List Int) (len lo : Nat) (bt : Int) (g : Nat → SV) : outX (mem ys n c ty xs lo none).length (M1 ys n c ty len) (exec ([] : Cons Tryd.prog Gs) tys 100 L2 ⟨fill g 0 (M3 ys n c ty len bt 0), mem ys n c ty xs lo none, []⟩) = some (.exit 2, live (M1 ys n c ty len), (M1 ys n c ty len).length, mem ys n c ty xs lo none, []) := by kernel_rfl
noncomputable def fin (ys : List Int) (n c : Nat) (ty : TypeId) (xs : List Int) (len lo : Nat) (g : Nat → SV)  : St := outS ([] : Cons Tryd.prog Gs) tys 100 D ⟨fill g 0 (M1 ys n c ty len), mem ys n c ty xs lo none, []⟩
theorem d (ys : List Int) (n c : Nat) (ty : TypeId) (xs : List Int) (len lo : Nat) (g : Nat → SV) : exec ([] : Cons Tryd.prog Gs) tys 100 D ⟨fill g 0 (M1 ys n c ty len), mem ys n c ty xs lo none, []⟩ = some (.ret, ⟨(fin ys n c ty xs len lo g).tm, (fin ys n c ty xs len lo g).mem, []⟩, []) := by kernel_rfl
theorem res (ys : List Int) (n c : Nat) (ty : TypeId) (xs : List Int) (len lo : Nat) (g : Nat → SV) : eRes tys (fin ys n c ty xs len lo g).tm (fun k => (fin ys n c ty xs len lo g).mem[k]?) fn.results.toList = some [.a (.slg 1 len)] := by kernel_rfl
theorem row (ys : List Int) (n c : Nat) (ty : TypeId) (xs : List Int) (len lo : Nat) (g : Nat → SV) : (fin ys n c ty xs len lo g).mem[1]? = some ⟨true, 5, .gro .u8 xs lo none⟩ := by kernel_rfl
end win64
namespace none64
def M0 (a : Option Addr) : List (Option SV) := maskL 51 0 [(0, .o (.a (.v (.slice a 0 0)))), (1, (cInt .i64).enc (64)), (2, (cInt .i64).enc (8))]
def M1 (a : Option Addr) (len : Nat) : List (Option SV) := maskL 51 0 [(0, .o (.a (.v (.slice a 0 0)))), (1, (cInt .i64).enc (64)), (2, (cInt .i64).enc (8)), (7, .o (.a (.slg 0 len)))]
def M2 (a : Option Addr) (len : Nat) (bt : Int) : List (Option SV) := maskL 51 0 [(0, .o (.a (.v (.slice a 0 0)))), (1, (cInt .i64).enc (64)), (2, (cInt .i64).enc (8)), (7, .o (.a (.slg 0 len))), (8, (cInt .u64).enc bt)]
def M3 (a : Option Addr) (len : Nat) (bt : Int) (j : Nat) : List (Option SV) := maskL 51 0 [(0, .o (.a (.v (.slice a 0 0)))), (1, (cInt .i64).enc (64)), (2, (cInt .i64).enc (8)), (7, .o (.a (.slg 0 len))), (8, (cInt .u64).enc bt), (9, (cInt .i64).enc (((j : Nat) : Int) - 1))]
def mem0 (a : Option Addr) : List Blk := []
def mem (a : Option Addr) (xs : List Int) (lo : Nat) (hi : Option Nat) : List Blk := [⟨true, 5, .gro .u8 xs lo hi⟩]
noncomputable def t0 (a : Option Addr) : List SV := startT fn [.o (.a (.v (.slice a 0 0))), (cInt .i64).enc (64), (cInt .i64).enc (8)]
theorem ids0 (a : Option Addr) : idsIn (mem0 a).length (M0 a) (mem0 a) = true := by kernel_rfl
theorem ids1 (a : Option Addr) (xs : List Int) (lo len : Nat) (hi : Option Nat) : idsIn (mem a xs lo hi).length (M1 a len) (mem a xs lo hi) = true := by kernel_rfl
theorem ids2 (a : Option Addr) (xs : List Int) (lo len : Nat) (bt : Int) (hi : Option Nat) : idsIn (mem a xs lo hi).length (M2 a len bt) (mem a xs lo hi) = true := by kernel_rfl
theorem ids3 (a : Option Addr) (xs : List Int) (lo len : Nat) (bt : Int) (j : Nat) (hi : Option Nat) : idsIn (mem a xs lo hi).length (M3 a len bt j) (mem a xs lo hi) = true := by kernel_rfl
theorem r0 (a : Option Addr) : outX (mem0 a).length (M0 a) (exec ([] : Cons Tryd.prog Gs) tys 100 R0 ⟨t0 a, mem0 a, []⟩) = some (.normal, live (M0 a), (M0 a).length, mem0 a, []) := by kernel_rfl
def Mz (a : Option Addr) : List (Option SV) := maskL 51 0 [(0, .o (.a (.v (.slice a 0 0)))), (1, (cInt .i64).enc (64)), (2, (cInt .i64).enc (8)), (7, .o (.a (.slc 0 0 0 0)))]
def memz (a : Option Addr) : List Blk := [⟨true, 5, .lit []⟩]
theorem idsz (a : Option Addr) : idsIn (memz a).length (Mz a) (memz a) = true := by kernel_rfl
theorem r1z (a : Option Addr) (g : Nat → SV) : outX (memz a).length (Mz a) (exec ([] : Cons Tryd.prog Gs) tys 100 R1 ⟨fill g 0 (M0 a), mem0 a, [(12, [.dyn])]⟩) = some (.normal, live (Mz a), (Mz a).length, memz a, [0 = 0, 0 ≤ 0]) := by kernel_rfl
theorem r2z (a : Option Addr) (g : Nat → SV) : outN [2] (M1 a 1) (exec ([] : Cons Tryd.prog Gs) tys 100 R2 ⟨fill g 0 (Mz a), memz a, []⟩) = some (.normal, (live (M1 a 1)).map (SV.ren (piF [2])), (M1 a 1).length, (mem a [128] 1 none).map (fun b => some (b.ren (piF [2]))), [0 + 1 ≤ 1, 0 < 1, Room Tryd.prog 5 1]) := by kernel_rfl
theorem l1i (a : Option Addr) (xs : List Int) (len lo : Nat) (g : Nat → SV) : outX (mem a (xs ++ [0]) (len + 1) none).length (M1 a (len + 1)) (exec ([] : Cons Tryd.prog Gs) tys 100 L1 ⟨fill g 0 (M1 a len), mem a xs (len + 1) none, [(22, [.b true])]⟩) = some (.normal, live (M1 a (len + 1)), (M1 a (len + 1)).length, mem a (xs ++ [0]) (len + 1) none, [((IntKind.i64.wrap ((len : Int) + 8)).tmod 64 != 0) = true, 0 + 1 ≤ 1, len = xs.length, len + 1 ≤ len + 1]) := by kernel_rfl
theorem l1g (a : Option Addr) (xs : List Int) (len lo : Nat) (g : Nat → SV) : outN [2] (M1 a (len + 1)) (exec ([] : Cons Tryd.prog Gs) tys 100 L1 ⟨fill g 0 (M1 a len), mem a xs lo (some (len + 1)), [(22, [.b true])]⟩) = some (.normal, (live (M1 a (len + 1))).map (SV.ren (piF [2])), (M1 a (len + 1)).length, (mem a (xs ++ [0]) (len + 1) none).map (fun b => some (b.ren (piF [2]))), [((IntKind.i64.wrap ((len : Int) + 8)).tmod 64 != 0) = true, 0 + 1 ≤ 1, len = xs.length, len + 1 ≤ len + 1, Room Tryd.prog 5 (len + 1)]) := by kernel_rfl
theorem l1x (a : Option Addr) (xs : List Int) (len lo : Nat) (g : Nat → SV) : outX (mem a xs lo none).length (M1 a len) (exec ([] : Cons Tryd.prog Gs) tys 100 L1 ⟨fill g 0 (M1 a len), mem a xs lo none, [(22, [.b false])]⟩) = some (.exit 0, live (M1 a len), (M1 a len).length, mem a xs lo none, [((IntKind.i64.wrap ((len : Int) + 8)).tmod 64 != 0) = false]) := by kernel_rfl
theorem r5 (a : Option Addr) (xs : List Int) (len lo : Nat) (g : Nat → SV) : outX (mem a xs lo none).length (M2 a len (lenV 0)) (exec ([] : Cons Tryd.prog Gs) tys 100 R5 ⟨fill g 0 (M1 a len), mem a xs lo none, []⟩) = some (.normal, live (M2 a len (lenV 0)), (M2 a len (lenV 0)).length, mem a xs lo none, []) := by kernel_rfl
theorem r6 (a : Option Addr) (xs : List Int) (len lo : Nat) (bt : Int) (g : Nat → SV) : outX (mem a xs lo none).length (M3 a len bt 8) (exec ([] : Cons Tryd.prog Gs) tys 100 R6 ⟨fill g 0 (M2 a len bt), mem a xs lo none, []⟩) = some (.normal, live (M3 a len bt 8), (M3 a len bt 8).length, mem a xs lo none, []) := by kernel_rfl
theorem l2i (a : Option Addr) (xs : List Int) (len lo : Nat) (bt : Int) (g : Nat → SV) : tabLH (fun i => outX (mem a (xs ++ [lenE bt i]) (len + 1) none).length (M3 a (len + 1) bt i) (exec ([] : Cons Tryd.prog Gs) tys 100 L2 ⟨fill g 0 (M3 a len bt (i + 1)), mem a xs (len + 1) none, []⟩)) 8 = tabRH (fun i => some (.normal, live (M3 a (len + 1) bt i), (M3 a (len + 1) bt i).length, mem a (xs ++ [lenE bt i]) (len + 1) none, [0 + 1 ≤ 1, len = xs.length, len + 1 ≤ len + 1])) 8 := by kernel_rfl
theorem l2g (a : Option Addr) (xs : List Int) (len lo : Nat) (bt : Int) (g : Nat → SV) : tabLH (fun i => outN [2] (M3 a (len + 1) bt i) (exec ([] : Cons Tryd.prog Gs) tys 100 L2 ⟨fill g 0 (M3 a len bt (i + 1)), mem a xs lo (some (len + 1)), []⟩)) 8 = tabRH (fun i => some (.normal, (live (M3 a (len + 1) bt i)).map (SV.ren (piF [2])), (M3 a (len + 1) bt i).length, (mem a (xs ++ [lenE bt i]) (len + 1) none).map (fun b => some (b.ren (piF [2]))), [0 + 1 ≤ 1, len = xs.length, len + 1 ≤ len + 1, Room Tryd.prog 5 (len + 1)])) 8 := by kernel_rfl
theorem l2x (a : Option Addr) (xs : List Int) (len lo : Nat) (bt : Int) (g : Nat → SV) : outX (mem a xs lo none).length (M1 a len) (exec ([] : Cons Tryd.prog Gs) tys 100 L2 ⟨fill g 0 (M3 a len bt 0), mem a xs lo none, []⟩) = some (.exit 2, live (M1 a len), (M1 a len).length, mem a xs lo none, []) := by kernel_rfl
noncomputable def fin (a : Option Addr) (xs : List Int) (len lo : Nat) (g : Nat → SV)  : St := outS ([] : Cons Tryd.prog Gs) tys 100 D ⟨fill g 0 (M1 a len), mem a xs lo none, []⟩
theorem d (a : Option Addr) (xs : List Int) (len lo : Nat) (g : Nat → SV) : exec ([] : Cons Tryd.prog Gs) tys 100 D ⟨fill g 0 (M1 a len), mem a xs lo none, []⟩ = some (.ret, ⟨(fin a xs len lo g).tm, (fin a xs len lo g).mem, []⟩, []) := by kernel_rfl
theorem res (a : Option Addr) (xs : List Int) (len lo : Nat) (g : Nat → SV) : eRes tys (fin a xs len lo g).tm (fun k => (fin a xs len lo g).mem[k]?) fn.results.toList = some [.a (.slg 0 len)] := by kernel_rfl
theorem row (a : Option Addr) (xs : List Int) (len lo : Nat) (g : Nat → SV) : (fin a xs len lo g).mem[0]? = some ⟨true, 5, .gro .u8 xs lo none⟩ := by kernel_rfl
end none64
namespace win128
def M0 (ys : List Int) (n c : Nat) (ty : TypeId) : List (Option SV) := maskL 51 0 [(0, .o (.a (.sld 0 0 0 n c))), (1, (cInt .i64).enc (128)), (2, (cInt .i64).enc (16))]
def M1 (ys : List Int) (n c : Nat) (ty : TypeId) (len : Nat) : List (Option SV) := maskL 51 0 [(0, .o (.a (.sld 0 0 0 n c))), (1, (cInt .i64).enc (128)), (2, (cInt .i64).enc (16)), (7, .o (.a (.slg 1 len)))]
def M2 (ys : List Int) (n c : Nat) (ty : TypeId) (len : Nat) (bt : Int) : List (Option SV) := maskL 51 0 [(0, .o (.a (.sld 0 0 0 n c))), (1, (cInt .i64).enc (128)), (2, (cInt .i64).enc (16)), (7, .o (.a (.slg 1 len))), (8, (cInt .u64).enc bt)]
def M3 (ys : List Int) (n c : Nat) (ty : TypeId) (len : Nat) (bt : Int) (j : Nat) : List (Option SV) := maskL 51 0 [(0, .o (.a (.sld 0 0 0 n c))), (1, (cInt .i64).enc (128)), (2, (cInt .i64).enc (16)), (7, .o (.a (.slg 1 len))), (8, (cInt .u64).enc bt), (9, (cInt .i64).enc (((j : Nat) : Int) - 1))]
def mem0 (ys : List Int) (n c : Nat) (ty : TypeId) : List Blk := [⟨false, ty, .pre .u8 ys⟩]
def mem (ys : List Int) (n c : Nat) (ty : TypeId) (xs : List Int) (lo : Nat) (hi : Option Nat) : List Blk := [⟨false, ty, .pre .u8 ys⟩, ⟨true, 5, .gro .u8 xs lo hi⟩]
noncomputable def t0 (ys : List Int) (n c : Nat) (ty : TypeId) : List SV := startT fn [.o (.a (.sld 0 0 0 n c)), (cInt .i64).enc (128), (cInt .i64).enc (16)]
theorem ids0 (ys : List Int) (n c : Nat) (ty : TypeId) : idsIn (mem0 ys n c ty).length (M0 ys n c ty) (mem0 ys n c ty) = true := by kernel_rfl
theorem ids1 (ys : List Int) (n c : Nat) (ty : TypeId) (xs : List Int) (lo len : Nat) (hi : Option Nat) : idsIn (mem ys n c ty xs lo hi).length (M1 ys n c ty len) (mem ys n c ty xs lo hi) = true := by kernel_rfl
theorem ids2 (ys : List Int) (n c : Nat) (ty : TypeId) (xs : List Int) (lo len : Nat) (bt : Int) (hi : Option Nat) : idsIn (mem ys n c ty xs lo hi).length (M2 ys n c ty len bt) (mem ys n c ty xs lo hi) = true := by kernel_rfl
theorem ids3 (ys : List Int) (n c : Nat) (ty : TypeId) (xs : List Int) (lo len : Nat) (bt : Int) (j : Nat) (hi : Option Nat) : idsIn (mem ys n c ty xs lo hi).length (M3 ys n c ty len bt j) (mem ys n c ty xs lo hi) = true := by kernel_rfl
theorem r0 (ys : List Int) (n c : Nat) (ty : TypeId) : outX (mem0 ys n c ty).length (M0 ys n c ty) (exec ([] : Cons Tryd.prog Gs) tys 100 R0 ⟨t0 ys n c ty, mem0 ys n c ty, []⟩) = some (.normal, live (M0 ys n c ty), (M0 ys n c ty).length, mem0 ys n c ty, []) := by kernel_rfl
theorem r1 (ys : List Int) (n c : Nat) (ty : TypeId) (g : Nat → SV) : outN [0, 2] (M1 ys n c ty n) (exec ([] : Cons Tryd.prog Gs) tys 100 R1 ⟨fill g 0 (M0 ys n c ty), mem0 ys n c ty, []⟩) = some (.normal, (live (M1 ys n c ty n)).map (SV.ren (piF [0, 2])), (M1 ys n c ty n).length, (mem ys n c ty ((ys.drop 0).take n) n none).map (fun b => some (b.ren (piF [0, 2]))), [0 + n ≤ ys.length, 0 < n, Room Tryd.prog 5 n]) := by kernel_rfl
def Mz (ys : List Int) (n c : Nat) (ty : TypeId) : List (Option SV) := maskL 51 0 [(0, .o (.a (.sld 0 0 0 n c))), (1, (cInt .i64).enc (128)), (2, (cInt .i64).enc (16)), (7, .o (.a (.slc 1 0 0 0)))]
def memz (ys : List Int) (n c : Nat) (ty : TypeId) : List Blk := [⟨false, ty, .pre .u8 ys⟩, ⟨true, 5, .lit []⟩]
theorem idsz (ys : List Int) (n c : Nat) (ty : TypeId) : idsIn (memz ys n c ty).length (Mz ys n c ty) (memz ys n c ty) = true := by kernel_rfl
theorem r1z (ys : List Int) (n c : Nat) (ty : TypeId) (g : Nat → SV) : outX (memz ys n c ty).length (Mz ys n c ty) (exec ([] : Cons Tryd.prog Gs) tys 100 R1 ⟨fill g 0 (M0 ys n c ty), mem0 ys n c ty, [(12, [.dyn])]⟩) = some (.normal, live (Mz ys n c ty), (Mz ys n c ty).length, memz ys n c ty, [0 + n ≤ ys.length, n = 0, 0 ≤ 0]) := by kernel_rfl
theorem r2z (ys : List Int) (n c : Nat) (ty : TypeId) (g : Nat → SV) : outN [0, 3] (M1 ys n c ty 1) (exec ([] : Cons Tryd.prog Gs) tys 100 R2 ⟨fill g 0 (Mz ys n c ty), memz ys n c ty, []⟩) = some (.normal, (live (M1 ys n c ty 1)).map (SV.ren (piF [0, 3])), (M1 ys n c ty 1).length, (mem ys n c ty [128] 1 none).map (fun b => some (b.ren (piF [0, 3]))), [0 + 1 ≤ 1, 0 < 1, Room Tryd.prog 5 1]) := by kernel_rfl
theorem r2i (ys : List Int) (n c : Nat) (ty : TypeId) (xs : List Int) (len lo : Nat) (g : Nat → SV) : outX (mem ys n c ty (xs ++ [128]) (len + 1) none).length (M1 ys n c ty (len + 1)) (exec ([] : Cons Tryd.prog Gs) tys 100 R2 ⟨fill g 0 (M1 ys n c ty len), mem ys n c ty xs (len + 1) none, []⟩) = some (.normal, live (M1 ys n c ty (len + 1)), (M1 ys n c ty (len + 1)).length, mem ys n c ty (xs ++ [128]) (len + 1) none, [0 + 1 ≤ 1, len = xs.length, len + 1 ≤ len + 1]) := by kernel_rfl
theorem r2g (ys : List Int) (n c : Nat) (ty : TypeId) (xs : List Int) (len lo : Nat) (g : Nat → SV) : outN [0, 3] (M1 ys n c ty (len + 1)) (exec ([] : Cons Tryd.prog Gs) tys 100 R2 ⟨fill g 0 (M1 ys n c ty len), mem ys n c ty xs lo (some (len + 1)), []⟩) = some (.normal, (live (M1 ys n c ty (len + 1))).map (SV.ren (piF [0, 3])), (M1 ys n c ty (len + 1)).length, (mem ys n c ty (xs ++ [128]) (len + 1) none).map (fun b => some (b.ren (piF [0, 3]))), [0 + 1 ≤ 1, len = xs.length, len + 1 ≤ len + 1, Room Tryd.prog 5 (len + 1)]) := by kernel_rfl
theorem l1i (ys : List Int) (n c : Nat) (ty : TypeId) (xs : List Int) (len lo : Nat) (g : Nat → SV) : outX (mem ys n c ty (xs ++ [0]) (len + 1) none).length (M1 ys n c ty (len + 1)) (exec ([] : Cons Tryd.prog Gs) tys 100 L1 ⟨fill g 0 (M1 ys n c ty len), mem ys n c ty xs (len + 1) none, [(22, [.b true])]⟩) = some (.normal, live (M1 ys n c ty (len + 1)), (M1 ys n c ty (len + 1)).length, mem ys n c ty (xs ++ [0]) (len + 1) none, [((IntKind.i64.wrap ((len : Int) + 16)).tmod 128 != 0) = true, 0 + 1 ≤ 1, len = xs.length, len + 1 ≤ len + 1]) := by kernel_rfl
theorem l1g (ys : List Int) (n c : Nat) (ty : TypeId) (xs : List Int) (len lo : Nat) (g : Nat → SV) : outN [0, 3] (M1 ys n c ty (len + 1)) (exec ([] : Cons Tryd.prog Gs) tys 100 L1 ⟨fill g 0 (M1 ys n c ty len), mem ys n c ty xs lo (some (len + 1)), [(22, [.b true])]⟩) = some (.normal, (live (M1 ys n c ty (len + 1))).map (SV.ren (piF [0, 3])), (M1 ys n c ty (len + 1)).length, (mem ys n c ty (xs ++ [0]) (len + 1) none).map (fun b => some (b.ren (piF [0, 3]))), [((IntKind.i64.wrap ((len : Int) + 16)).tmod 128 != 0) = true, 0 + 1 ≤ 1, len = xs.length, len + 1 ≤ len + 1, Room Tryd.prog 5 (len + 1)]) := by kernel_rfl
theorem l1x (ys : List Int) (n c : Nat) (ty : TypeId) (xs : List Int) (len lo : Nat) (g : Nat → SV) : outX (mem ys n c ty xs lo none).length (M1 ys n c ty len) (exec ([] : Cons Tryd.prog Gs) tys 100 L1 ⟨fill g 0 (M1 ys n c ty len), mem ys n c ty xs lo none, [(22, [.b false])]⟩) = some (.exit 0, live (M1 ys n c ty len), (M1 ys n c ty len).length, mem ys n c ty xs lo none, [((IntKind.i64.wrap ((len : Int) + 16)).tmod 128 != 0) = false]) := by kernel_rfl
theorem r5 (ys : List Int) (n c : Nat) (ty : TypeId) (xs : List Int) (len lo : Nat) (g : Nat → SV) : outX (mem ys n c ty xs lo none).length (M2 ys n c ty len (lenV n)) (exec ([] : Cons Tryd.prog Gs) tys 100 R5 ⟨fill g 0 (M1 ys n c ty len), mem ys n c ty xs lo none, []⟩) = some (.normal, live (M2 ys n c ty len (lenV n)), (M2 ys n c ty len (lenV n)).length, mem ys n c ty xs lo none, []) := by kernel_rfl
theorem r6 (ys : List Int) (n c : Nat) (ty : TypeId) (xs : List Int) (len lo : Nat) (bt : Int) (g : Nat → SV) : outX (mem ys n c ty xs lo none).length (M3 ys n c ty len bt 16) (exec ([] : Cons Tryd.prog Gs) tys 100 R6 ⟨fill g 0 (M2 ys n c ty len bt), mem ys n c ty xs lo none, []⟩) = some (.normal, live (M3 ys n c ty len bt 16), (M3 ys n c ty len bt 16).length, mem ys n c ty xs lo none, []) := by kernel_rfl
theorem l2i (ys : List Int) (n c : Nat) (ty : TypeId) (xs : List Int) (len lo : Nat) (bt : Int) (g : Nat → SV) : tabLH (fun i => outX (mem ys n c ty (xs ++ [lenE bt i]) (len + 1) none).length (M3 ys n c ty (len + 1) bt i) (exec ([] : Cons Tryd.prog Gs) tys 100 L2 ⟨fill g 0 (M3 ys n c ty len bt (i + 1)), mem ys n c ty xs (len + 1) none, []⟩)) 16 = tabRH (fun i => some (.normal, live (M3 ys n c ty (len + 1) bt i), (M3 ys n c ty (len + 1) bt i).length, mem ys n c ty (xs ++ [lenE bt i]) (len + 1) none, [0 + 1 ≤ 1, len = xs.length, len + 1 ≤ len + 1])) 16 := by kernel_rfl
theorem l2g (ys : List Int) (n c : Nat) (ty : TypeId) (xs : List Int) (len lo : Nat) (bt : Int) (g : Nat → SV) : tabLH (fun i => outN [0, 3] (M3 ys n c ty (len + 1) bt i) (exec ([] : Cons Tryd.prog Gs) tys 100 L2 ⟨fill g 0 (M3 ys n c ty len bt (i + 1)), mem ys n c ty xs lo (some (len + 1)), []⟩)) 16 = tabRH (fun i => some (.normal, (live (M3 ys n c ty (len + 1) bt i)).map (SV.ren (piF [0, 3])), (M3 ys n c ty (len + 1) bt i).length, (mem ys n c ty (xs ++ [lenE bt i]) (len + 1) none).map (fun b => some (b.ren (piF [0, 3]))), [0 + 1 ≤ 1, len = xs.length, len + 1 ≤ len + 1, Room Tryd.prog 5 (len + 1)])) 16 := by kernel_rfl
theorem l2x (ys : List Int) (n c : Nat) (ty : TypeId) (xs : List Int) (len lo : Nat) (bt : Int) (g : Nat → SV) : outX (mem ys n c ty xs lo none).length (M1 ys n c ty len) (exec ([] : Cons Tryd.prog Gs) tys 100 L2 ⟨fill g 0 (M3 ys n c ty len bt 0), mem ys n c ty xs lo none, []⟩) = some (.exit 2, live (M1 ys n c ty len), (M1 ys n c ty len).length, mem ys n c ty xs lo none, []) := by kernel_rfl
noncomputable def fin (ys : List Int) (n c : Nat) (ty : TypeId) (xs : List Int) (len lo : Nat) (g : Nat → SV)  : St := outS ([] : Cons Tryd.prog Gs) tys 100 D ⟨fill g 0 (M1 ys n c ty len), mem ys n c ty xs lo none, []⟩
theorem d (ys : List Int) (n c : Nat) (ty : TypeId) (xs : List Int) (len lo : Nat) (g : Nat → SV) : exec ([] : Cons Tryd.prog Gs) tys 100 D ⟨fill g 0 (M1 ys n c ty len), mem ys n c ty xs lo none, []⟩ = some (.ret, ⟨(fin ys n c ty xs len lo g).tm, (fin ys n c ty xs len lo g).mem, []⟩, []) := by kernel_rfl
theorem res (ys : List Int) (n c : Nat) (ty : TypeId) (xs : List Int) (len lo : Nat) (g : Nat → SV) : eRes tys (fin ys n c ty xs len lo g).tm (fun k => (fin ys n c ty xs len lo g).mem[k]?) fn.results.toList = some [.a (.slg 1 len)] := by kernel_rfl
theorem row (ys : List Int) (n c : Nat) (ty : TypeId) (xs : List Int) (len lo : Nat) (g : Nat → SV) : (fin ys n c ty xs len lo g).mem[1]? = some ⟨true, 5, .gro .u8 xs lo none⟩ := by kernel_rfl
end win128
namespace none128
def M0 (a : Option Addr) : List (Option SV) := maskL 51 0 [(0, .o (.a (.v (.slice a 0 0)))), (1, (cInt .i64).enc (128)), (2, (cInt .i64).enc (16))]
def M1 (a : Option Addr) (len : Nat) : List (Option SV) := maskL 51 0 [(0, .o (.a (.v (.slice a 0 0)))), (1, (cInt .i64).enc (128)), (2, (cInt .i64).enc (16)), (7, .o (.a (.slg 0 len)))]
def M2 (a : Option Addr) (len : Nat) (bt : Int) : List (Option SV) := maskL 51 0 [(0, .o (.a (.v (.slice a 0 0)))), (1, (cInt .i64).enc (128)), (2, (cInt .i64).enc (16)), (7, .o (.a (.slg 0 len))), (8, (cInt .u64).enc bt)]
def M3 (a : Option Addr) (len : Nat) (bt : Int) (j : Nat) : List (Option SV) := maskL 51 0 [(0, .o (.a (.v (.slice a 0 0)))), (1, (cInt .i64).enc (128)), (2, (cInt .i64).enc (16)), (7, .o (.a (.slg 0 len))), (8, (cInt .u64).enc bt), (9, (cInt .i64).enc (((j : Nat) : Int) - 1))]
def mem0 (a : Option Addr) : List Blk := []
def mem (a : Option Addr) (xs : List Int) (lo : Nat) (hi : Option Nat) : List Blk := [⟨true, 5, .gro .u8 xs lo hi⟩]
noncomputable def t0 (a : Option Addr) : List SV := startT fn [.o (.a (.v (.slice a 0 0))), (cInt .i64).enc (128), (cInt .i64).enc (16)]
theorem ids0 (a : Option Addr) : idsIn (mem0 a).length (M0 a) (mem0 a) = true := by kernel_rfl
theorem ids1 (a : Option Addr) (xs : List Int) (lo len : Nat) (hi : Option Nat) : idsIn (mem a xs lo hi).length (M1 a len) (mem a xs lo hi) = true := by kernel_rfl
theorem ids2 (a : Option Addr) (xs : List Int) (lo len : Nat) (bt : Int) (hi : Option Nat) : idsIn (mem a xs lo hi).length (M2 a len bt) (mem a xs lo hi) = true := by kernel_rfl
theorem ids3 (a : Option Addr) (xs : List Int) (lo len : Nat) (bt : Int) (j : Nat) (hi : Option Nat) : idsIn (mem a xs lo hi).length (M3 a len bt j) (mem a xs lo hi) = true := by kernel_rfl
theorem r0 (a : Option Addr) : outX (mem0 a).length (M0 a) (exec ([] : Cons Tryd.prog Gs) tys 100 R0 ⟨t0 a, mem0 a, []⟩) = some (.normal, live (M0 a), (M0 a).length, mem0 a, []) := by kernel_rfl
def Mz (a : Option Addr) : List (Option SV) := maskL 51 0 [(0, .o (.a (.v (.slice a 0 0)))), (1, (cInt .i64).enc (128)), (2, (cInt .i64).enc (16)), (7, .o (.a (.slc 0 0 0 0)))]
def memz (a : Option Addr) : List Blk := [⟨true, 5, .lit []⟩]
theorem idsz (a : Option Addr) : idsIn (memz a).length (Mz a) (memz a) = true := by kernel_rfl
theorem r1z (a : Option Addr) (g : Nat → SV) : outX (memz a).length (Mz a) (exec ([] : Cons Tryd.prog Gs) tys 100 R1 ⟨fill g 0 (M0 a), mem0 a, [(12, [.dyn])]⟩) = some (.normal, live (Mz a), (Mz a).length, memz a, [0 = 0, 0 ≤ 0]) := by kernel_rfl
theorem r2z (a : Option Addr) (g : Nat → SV) : outN [2] (M1 a 1) (exec ([] : Cons Tryd.prog Gs) tys 100 R2 ⟨fill g 0 (Mz a), memz a, []⟩) = some (.normal, (live (M1 a 1)).map (SV.ren (piF [2])), (M1 a 1).length, (mem a [128] 1 none).map (fun b => some (b.ren (piF [2]))), [0 + 1 ≤ 1, 0 < 1, Room Tryd.prog 5 1]) := by kernel_rfl
theorem l1i (a : Option Addr) (xs : List Int) (len lo : Nat) (g : Nat → SV) : outX (mem a (xs ++ [0]) (len + 1) none).length (M1 a (len + 1)) (exec ([] : Cons Tryd.prog Gs) tys 100 L1 ⟨fill g 0 (M1 a len), mem a xs (len + 1) none, [(22, [.b true])]⟩) = some (.normal, live (M1 a (len + 1)), (M1 a (len + 1)).length, mem a (xs ++ [0]) (len + 1) none, [((IntKind.i64.wrap ((len : Int) + 16)).tmod 128 != 0) = true, 0 + 1 ≤ 1, len = xs.length, len + 1 ≤ len + 1]) := by kernel_rfl
theorem l1g (a : Option Addr) (xs : List Int) (len lo : Nat) (g : Nat → SV) : outN [2] (M1 a (len + 1)) (exec ([] : Cons Tryd.prog Gs) tys 100 L1 ⟨fill g 0 (M1 a len), mem a xs lo (some (len + 1)), [(22, [.b true])]⟩) = some (.normal, (live (M1 a (len + 1))).map (SV.ren (piF [2])), (M1 a (len + 1)).length, (mem a (xs ++ [0]) (len + 1) none).map (fun b => some (b.ren (piF [2]))), [((IntKind.i64.wrap ((len : Int) + 16)).tmod 128 != 0) = true, 0 + 1 ≤ 1, len = xs.length, len + 1 ≤ len + 1, Room Tryd.prog 5 (len + 1)]) := by kernel_rfl
theorem l1x (a : Option Addr) (xs : List Int) (len lo : Nat) (g : Nat → SV) : outX (mem a xs lo none).length (M1 a len) (exec ([] : Cons Tryd.prog Gs) tys 100 L1 ⟨fill g 0 (M1 a len), mem a xs lo none, [(22, [.b false])]⟩) = some (.exit 0, live (M1 a len), (M1 a len).length, mem a xs lo none, [((IntKind.i64.wrap ((len : Int) + 16)).tmod 128 != 0) = false]) := by kernel_rfl
theorem r5 (a : Option Addr) (xs : List Int) (len lo : Nat) (g : Nat → SV) : outX (mem a xs lo none).length (M2 a len (lenV 0)) (exec ([] : Cons Tryd.prog Gs) tys 100 R5 ⟨fill g 0 (M1 a len), mem a xs lo none, []⟩) = some (.normal, live (M2 a len (lenV 0)), (M2 a len (lenV 0)).length, mem a xs lo none, []) := by kernel_rfl
theorem r6 (a : Option Addr) (xs : List Int) (len lo : Nat) (bt : Int) (g : Nat → SV) : outX (mem a xs lo none).length (M3 a len bt 16) (exec ([] : Cons Tryd.prog Gs) tys 100 R6 ⟨fill g 0 (M2 a len bt), mem a xs lo none, []⟩) = some (.normal, live (M3 a len bt 16), (M3 a len bt 16).length, mem a xs lo none, []) := by kernel_rfl
theorem l2i (a : Option Addr) (xs : List Int) (len lo : Nat) (bt : Int) (g : Nat → SV) : tabLH (fun i => outX (mem a (xs ++ [lenE bt i]) (len + 1) none).length (M3 a (len + 1) bt i) (exec ([] : Cons Tryd.prog Gs) tys 100 L2 ⟨fill g 0 (M3 a len bt (i + 1)), mem a xs (len + 1) none, []⟩)) 16 = tabRH (fun i => some (.normal, live (M3 a (len + 1) bt i), (M3 a (len + 1) bt i).length, mem a (xs ++ [lenE bt i]) (len + 1) none, [0 + 1 ≤ 1, len = xs.length, len + 1 ≤ len + 1])) 16 := by kernel_rfl
theorem l2g (a : Option Addr) (xs : List Int) (len lo : Nat) (bt : Int) (g : Nat → SV) : tabLH (fun i => outN [2] (M3 a (len + 1) bt i) (exec ([] : Cons Tryd.prog Gs) tys 100 L2 ⟨fill g 0 (M3 a len bt (i + 1)), mem a xs lo (some (len + 1)), []⟩)) 16 = tabRH (fun i => some (.normal, (live (M3 a (len + 1) bt i)).map (SV.ren (piF [2])), (M3 a (len + 1) bt i).length, (mem a (xs ++ [lenE bt i]) (len + 1) none).map (fun b => some (b.ren (piF [2]))), [0 + 1 ≤ 1, len = xs.length, len + 1 ≤ len + 1, Room Tryd.prog 5 (len + 1)])) 16 := by kernel_rfl
theorem l2x (a : Option Addr) (xs : List Int) (len lo : Nat) (bt : Int) (g : Nat → SV) : outX (mem a xs lo none).length (M1 a len) (exec ([] : Cons Tryd.prog Gs) tys 100 L2 ⟨fill g 0 (M3 a len bt 0), mem a xs lo none, []⟩) = some (.exit 2, live (M1 a len), (M1 a len).length, mem a xs lo none, []) := by kernel_rfl
noncomputable def fin (a : Option Addr) (xs : List Int) (len lo : Nat) (g : Nat → SV)  : St := outS ([] : Cons Tryd.prog Gs) tys 100 D ⟨fill g 0 (M1 a len), mem a xs lo none, []⟩
theorem d (a : Option Addr) (xs : List Int) (len lo : Nat) (g : Nat → SV) : exec ([] : Cons Tryd.prog Gs) tys 100 D ⟨fill g 0 (M1 a len), mem a xs lo none, []⟩ = some (.ret, ⟨(fin a xs len lo g).tm, (fin a xs len lo g).mem, []⟩, []) := by kernel_rfl
theorem res (a : Option Addr) (xs : List Int) (len lo : Nat) (g : Nat → SV) : eRes tys (fin a xs len lo g).tm (fun k => (fin a xs len lo g).mem[k]?) fn.results.toList = some [.a (.slg 0 len)] := by kernel_rfl
theorem row (a : Option Addr) (xs : List Int) (len lo : Nat) (g : Nat → SV) : (fin a xs len lo g).mem[0]? = some ⟨true, 5, .gro .u8 xs lo none⟩ := by kernel_rfl
end none128
end padd
theorem padZ_64 (n : Nat) : padZ n 64 8 < 64 ∧ (n + 1 + padZ n 64 8 + 8) % 64 = 0 ∧ ∀ j, j < padZ n 64 8 → (n + 1 + j + 8) % 64 ≠ 0 := by
  unfold padZ
  refine ⟨by omega, by omega, fun j hj => by omega⟩
theorem padZ_128 (n : Nat) : padZ n 128 16 < 128 ∧ (n + 1 + padZ n 128 16 + 16) % 128 = 0 ∧ ∀ j, j < padZ n 128 16 → (n + 1 + j + 16) % 128 ≠ 0 := by
  unfold padZ
  refine ⟨by omega, by omega, fun j hj => by omega⟩
theorem tail_succ {α : Type} (a : List α) (x : α) (j : Nat) : a ++ List.replicate (j + 1) x = (a ++ List.replicate j x) ++ [x] := by
  rw [List.append_assoc, List.replicate_succ']
section
variable {Post : Ex → List SV → List Blk → Prop}
theorem padd_win64_loop1 (ys : List Int) (n c : Nat) (ty : TypeId) (xs0 : List Int) (m : Nat) (hm : xs0.length = m + 1) (hs : m ≤ 140737488354000) (hp : ∀ g lo, Post .normal (fill g 0 (padd.win64.M1 ys n c ty (m + 1 + padZ m 64 8))) (padd.win64.mem ys n c ty (xs0 ++ List.replicate (padZ m 64 8) 0) lo none)) (lo : Nat) (g : Nat → SV) :
    RunsF Tryd.prog Gs 1 (.block 0 (.loop padd.L1)) (fill g 0 (padd.win64.M1 ys n c ty (m + 1 + 0))) (padd.win64.mem ys n c ty (xs0 ++ List.replicate 0 0) lo none) Post := by
  obtain ⟨z1, z2, z3⟩ := padZ_64 m
  refine Runs.block ?_
  refine Runs.loopX (fun (x : Nat × Nat) => padd.win64.M1 ys n c ty (m + 1 + x.1)) (fun x => padd.win64.mem ys n c ty (xs0 ++ List.replicate x.1 0) x.2 none) (fun x => x.1 ≤ padZ m 64 8) (fun x => padZ m 64 8 - x.1) ?_ (0, lo) (Nat.zero_le _) g
  rintro ⟨j, lo⟩ g hj
  simp only at hj
  have hlen : (m + 1 + j) = (xs0 ++ List.replicate j 0).length := by rw [List.length_append, List.length_replicate, hm]
  have hw : (IntKind.i64.wrap (((m + 1 + j : Nat) : Int) + 8)).tmod 64 = (((m + 1 + j + 8) % 64 : Nat) : Int) := by
    rw [i64_small _ (by omega) (by omega), Int.tmod_eq_emod_of_nonneg (by omega)]; omega
  by_cases hlt : j < padZ m 64 8
  · have ht : ((IntKind.i64.wrap (((m + 1 + j : Nat) : Int) + 8)).tmod 64 != 0) = true := by
      rw [hw, bne_iff_ne]
      have := z3 j hlt
      omega
    refine Runs.room 1 (m + 1 + j + 1) (own := true) (ty := 5) (kd := .u8) (xs := xs0 ++ List.replicate j 0) (lo := lo) rfl ?_ ?_
    · refine Runs.of_outX tys_ok mixed (padd.win64.l1i ys n c ty (xs0 ++ List.replicate j 0) (m + 1 + j) lo g) ⟨ht, by omega, hlen, by omega, trivial⟩ (padd.win64.ids1 ys n c ty _ _ _ _) rfl fun g' => ⟨(j + 1, m + 1 + j + 1), g', rfl, ?_, hlt, by simp only; omega⟩
      simp only; rw [tail_succ]
    · refine Runs.of_outN tys_ok mixed _ (padd.win64.l1g ys n c ty (xs0 ++ List.replicate j 0) (m + 1 + j) lo g) ⟨ht, by omega, hlen, by omega, room_u8 _ (by omega), trivial⟩ (padd.win64.ids1 ys n c ty _ _ _ _) rfl fun g' => ⟨(j + 1, m + 1 + j + 1), g', rfl, ?_, hlt, by simp only; omega⟩
      simp only; rw [tail_succ]
  · obtain rfl : j = padZ m 64 8 := by omega
    refine Runs.of_outX tys_ok mixed (padd.win64.l1x ys n c ty (xs0 ++ List.replicate _ 0) (m + 1 + padZ m 64 8) lo g) ⟨?_, trivial⟩ (padd.win64.ids1 ys n c ty _ _ _ _) rfl fun g' => hp g' lo
    rw [hw]
    have := z2
    simp only [bne_eq_false_iff_eq]
    omega
theorem padd_win64_loop2 (ys : List Int) (n c : Nat) (ty : TypeId) (xs0 : List Int) (m : Nat) (hm : xs0.length = m) (hs : m ≤ 140737488355000) (bt : Int) (hp : ∀ g, Post .normal (fill g 0 (padd.win64.M1 ys n c ty (m + (8 - 0)))) (padd.win64.mem ys n c ty (xs0 ++ lenB bt 8) (m + (8 - 0)) none)) (lo : Nat) (g : Nat → SV) :
    RunsF Tryd.prog Gs 1 (.block 2 (.loop padd.L2)) (fill g 0 (padd.win64.M3 ys n c ty (m + (8 - 8)) bt 8)) (padd.win64.mem ys n c ty xs0 lo none) Post := by
  refine Runs.block ?_
  refine Runs.loopX (fun (x : Nat × List Int × Nat) => padd.win64.M3 ys n c ty (m + (8 - x.1)) bt x.1) (fun x => padd.win64.mem ys n c ty x.2.1 x.2.2 none) (fun x => x.1 ≤ 8 ∧ x.2.1.length = m + (8 - x.1) ∧ x.2.1 ++ lenB bt x.1 = xs0 ++ lenB bt 8 ∧ (x.1 = 8 ∨ x.2.2 = m + (8 - x.1))) (fun x => x.1) ?_ (8, xs0, lo) ⟨Nat.le_refl _, by simp only; omega, rfl, .inl rfl⟩ g
  rintro ⟨j, xs, lo⟩ g ⟨hj, hl, he, hlo⟩
  simp only at hj hl he hlo
  cases j with
  | zero =>
    have he : xs = xs0 ++ lenB bt 8 := by rw [← he]; exact (List.append_nil _).symm
    subst he
    obtain rfl : lo = m + (8 - 0) := by omega
    exact Runs.of_outX tys_ok mixed (padd.win64.l2x ys n c ty (xs0 ++ lenB bt 8) (m + (8 - 0)) (m + (8 - 0)) bt g) trivial (padd.win64.ids1 ys n c ty _ _ _ _) rfl hp
  | succ i =>
    have hlen : m + (8 - (i + 1)) = xs.length := hl.symm
    have e1 : m + (8 - (i + 1)) + 1 = m + (8 - i) := by omega
    have e2 : (xs ++ [lenE bt i]) ++ lenB bt i = xs0 ++ lenB bt 8 := by rw [← he, List.append_assoc]; rfl
    refine Runs.room 1 (m + (8 - (i + 1)) + 1) (own := true) (ty := 5) (kd := .u8) (xs := xs) (lo := lo) rfl ?_ ?_
    · refine Runs.of_outX tys_ok mixed (tab_getH (padd.win64.l2i ys n c ty xs (m + (8 - (i + 1))) lo bt g) i (by omega)) ⟨by omega, hlen, by omega, trivial⟩ (padd.win64.ids3 ys n c ty _ _ _ _ _ _) rfl fun g' => ⟨(i, xs ++ [lenE bt i], m + (8 - (i + 1)) + 1), g', ?_, rfl, ⟨by simp only; omega, by simp only [List.length_append, List.length_singleton]; omega, e2, .inr e1⟩, by simp only; omega⟩
      simp only; rw [e1]
    · refine Runs.of_outN tys_ok mixed _ (tab_getH (padd.win64.l2g ys n c ty xs (m + (8 - (i + 1))) lo bt g) i (by omega)) ⟨by omega, hlen, by omega, room_u8 _ (by omega), trivial⟩ (padd.win64.ids3 ys n c ty _ _ _ _ _ _) rfl fun g' => ⟨(i, xs ++ [lenE bt i], m + (8 - (i + 1)) + 1), g', ?_, rfl, ⟨by simp only; omega, by simp only [List.length_append, List.length_singleton]; omega, e2, .inr e1⟩, by simp only; omega⟩
      simp only; rw [e1]
theorem padd_win64_rest (ys : List Int) (n c : Nat) (ty : TypeId) (hy : (ys : List Int).length = n) (hs : n ≤ 140737488354000) (lo : Nat) (g : Nat → SV) :
    RunsF Tryd.prog Gs 1 (.seq (.block 0 (.loop padd.L1)) (.seq padd.R5 (.seq (.seq padd.R6 (.block 2 (.loop padd.L2))) padd.D))) (fill g 0 (padd.win64.M1 ys n c ty (n + 1))) (padd.win64.mem ys n c ty (ys ++ [128]) lo none) (EndsM tys padd.fn (endsQ (.o (.a (.slg 0 (padR ys 64 8).length))) (.new 5 (.gro .u8 (padR ys 64 8) (padR ys 64 8).length none)))) := by
  obtain ⟨z1, z2, z3⟩ := padZ_64 n
  have h0 : (ys : List Int) ++ [128] ++ List.replicate 0 0 = ys ++ [128] := List.append_nil _
  rw [← h0]
  refine Runs.seq (padd_win64_loop1 ys n c ty (ys ++ [128]) n (by simp only [List.length_append, List.length_singleton, hy]) hs (fun g lo => ?_) lo g)
  refine Runs.seq (Runs.of_outX tys_ok mixed (padd.win64.r5 ys n c ty _ _ lo g) trivial (padd.win64.ids2 ys n c ty _ _ _ _ _) rfl fun g => ?_)
  refine Runs.seq (Runs.seq (Runs.of_outX tys_ok mixed (padd.win64.r6 ys n c ty _ _ lo _ g) trivial (padd.win64.ids3 ys n c ty _ _ _ _ _ _) rfl fun g => ?_))
  refine padd_win64_loop2 ys n c ty (ys ++ [128] ++ List.replicate (padZ n 64 8) 0) (n + 1 + padZ n 64 8) (by simp only [List.length_append, List.length_singleton, List.length_replicate, hy]) (by omega) (lenV n) (fun g => ?_) lo g
  have ex : (ys ++ [128] ++ List.replicate (padZ n 64 8) 0) ++ lenB (lenV n) 8 = padR ys 64 8 := by
    unfold padR
    rw [hy, List.append_assoc, List.append_assoc]
  have el : n + 1 + padZ n 64 8 + (8 - 0) = (padR ys 64 8).length := by
    rw [← ex]
    simp only [List.length_append, List.length_singleton, List.length_replicate, lenB_length, hy]
  refine Runs.of_exec tys_ok mixed (padd.win64.d ys n c ty _ _ _ g) trivial (EndsM.ret (padd.win64.res ys n c ty _ _ _ g) ⟨1, ?_, ?_⟩)
  · rw [← el]; rfl
  · rw [← el, ← ex]
    exact padd.win64.row ys n c ty _ _ _ g
theorem padd_win64_run (ys : List Int) (n c : Nat) (ty : TypeId) (hy : (ys : List Int).length = n) (hs : n ≤ 140737488354000) :
    RunsF Tryd.prog Gs 1 padd.body (padd.win64.t0 ys n c ty) (padd.win64.mem0 ys n c ty) (EndsM tys padd.fn (endsQ (.o (.a (.slg 0 (padR ys 64 8).length))) (.new 5 (.gro .u8 (padR ys 64 8) (padR ys 64 8).length none)))) := by
  rw [padd.body_eq]
  refine Runs.seq (Runs.of_outX tys_ok mixed (padd.win64.r0 ys n c ty) trivial (padd.win64.ids0 ys n c ty) rfl fun g => ?_)
  by_cases hn : n = 0
  · have hz : ys = [] := List.eq_nil_of_length_eq_zero (by omega)
    subst hn hz
    refine Runs.seq (Runs.of_outX tys_ok mixed (padd.win64.r1z [] 0 c ty g) ⟨by decide, rfl, by decide, trivial⟩ (padd.win64.idsz [] 0 c ty) rfl fun g => ?_)
    refine Runs.seq (Runs.of_outN tys_ok mixed _ (padd.win64.r2z [] 0 c ty g) ⟨by decide, by decide, room_u8 _ (by omega), trivial⟩ (padd.win64.ids1 [] 0 c ty _ _ _ _) rfl fun g => ?_)
    exact padd_win64_rest [] 0 c ty rfl (by omega) 1 g
  · refine Runs.seq (Runs.of_outN tys_ok mixed _ (padd.win64.r1 ys n c ty g) ⟨by omega, by omega, room_u8 _ (by omega), trivial⟩ (padd.win64.ids1 ys n c ty _ _ _ _) rfl fun g => ?_)
    have e : (ys.drop 0).take n = ys := by rw [List.drop_zero, List.take_of_length_le (by omega)]
    show RunsF _ _ _ _ _ (padd.win64.mem ys n c ty ((ys.drop 0).take n) n none) _
    rw [e]
    refine Runs.room 1 (n + 1) (own := true) (ty := 5) (kd := .u8) (xs := ys) (lo := n) rfl ?_ ?_
    · refine Runs.seq (Runs.of_outX tys_ok mixed (padd.win64.r2i ys n c ty ys n n g) ⟨by omega, hy.symm, by omega, trivial⟩ (padd.win64.ids1 ys n c ty _ _ _ _) rfl fun g => ?_)
      exact padd_win64_rest ys n c ty hy hs _ g
    · refine Runs.seq (Runs.of_outN tys_ok mixed _ (padd.win64.r2g ys n c ty ys n n g) ⟨by omega, hy.symm, by omega, room_u8 _ (by omega), trivial⟩ (padd.win64.ids1 ys n c ty _ _ _ _) rfl fun g => ?_)
      exact padd_win64_rest ys n c ty hy hs _ g
theorem padd_none64_loop1 (a : Option Addr) (xs0 : List Int) (m : Nat) (hm : xs0.length = m + 1) (hs : m ≤ 140737488354000) (hp : ∀ g lo, Post .normal (fill g 0 (padd.none64.M1 a (m + 1 + padZ m 64 8))) (padd.none64.mem a (xs0 ++ List.replicate (padZ m 64 8) 0) lo none)) (lo : Nat) (g : Nat → SV) :
    RunsF Tryd.prog Gs 0 (.block 0 (.loop padd.L1)) (fill g 0 (padd.none64.M1 a (m + 1 + 0))) (padd.none64.mem a (xs0 ++ List.replicate 0 0) lo none) Post := by
  obtain ⟨z1, z2, z3⟩ := padZ_64 m
  refine Runs.block ?_
  refine Runs.loopX (fun (x : Nat × Nat) => padd.none64.M1 a (m + 1 + x.1)) (fun x => padd.none64.mem a (xs0 ++ List.replicate x.1 0) x.2 none) (fun x => x.1 ≤ padZ m 64 8) (fun x => padZ m 64 8 - x.1) ?_ (0, lo) (Nat.zero_le _) g
  rintro ⟨j, lo⟩ g hj
  simp only at hj
  have hlen : (m + 1 + j) = (xs0 ++ List.replicate j 0).length := by rw [List.length_append, List.length_replicate, hm]
  have hw : (IntKind.i64.wrap (((m + 1 + j : Nat) : Int) + 8)).tmod 64 = (((m + 1 + j + 8) % 64 : Nat) : Int) := by
    rw [i64_small _ (by omega) (by omega), Int.tmod_eq_emod_of_nonneg (by omega)]; omega
  by_cases hlt : j < padZ m 64 8
  · have ht : ((IntKind.i64.wrap (((m + 1 + j : Nat) : Int) + 8)).tmod 64 != 0) = true := by
      rw [hw, bne_iff_ne]
      have := z3 j hlt
      omega
    refine Runs.room 0 (m + 1 + j + 1) (own := true) (ty := 5) (kd := .u8) (xs := xs0 ++ List.replicate j 0) (lo := lo) rfl ?_ ?_
    · refine Runs.of_outX tys_ok mixed (padd.none64.l1i a (xs0 ++ List.replicate j 0) (m + 1 + j) lo g) ⟨ht, by omega, hlen, by omega, trivial⟩ (padd.none64.ids1 a _ _ _ _) rfl fun g' => ⟨(j + 1, m + 1 + j + 1), g', rfl, ?_, hlt, by simp only; omega⟩
      simp only; rw [tail_succ]
    · refine Runs.of_outN tys_ok mixed _ (padd.none64.l1g a (xs0 ++ List.replicate j 0) (m + 1 + j) lo g) ⟨ht, by omega, hlen, by omega, room_u8 _ (by omega), trivial⟩ (padd.none64.ids1 a _ _ _ _) rfl fun g' => ⟨(j + 1, m + 1 + j + 1), g', rfl, ?_, hlt, by simp only; omega⟩
      simp only; rw [tail_succ]
  · obtain rfl : j = padZ m 64 8 := by omega
    refine Runs.of_outX tys_ok mixed (padd.none64.l1x a (xs0 ++ List.replicate _ 0) (m + 1 + padZ m 64 8) lo g) ⟨?_, trivial⟩ (padd.none64.ids1 a _ _ _ _) rfl fun g' => hp g' lo
    rw [hw]
    have := z2
    simp only [bne_eq_false_iff_eq]
    omega
theorem padd_none64_loop2 (a : Option Addr) (xs0 : List Int) (m : Nat) (hm : xs0.length = m) (hs : m ≤ 140737488355000) (bt : Int) (hp : ∀ g, Post .normal (fill g 0 (padd.none64.M1 a (m + (8 - 0)))) (padd.none64.mem a (xs0 ++ lenB bt 8) (m + (8 - 0)) none)) (lo : Nat) (g : Nat → SV) :
    RunsF Tryd.prog Gs 0 (.block 2 (.loop padd.L2)) (fill g 0 (padd.none64.M3 a (m + (8 - 8)) bt 8)) (padd.none64.mem a xs0 lo none) Post := by
  refine Runs.block ?_
  refine Runs.loopX (fun (x : Nat × List Int × Nat) => padd.none64.M3 a (m + (8 - x.1)) bt x.1) (fun x => padd.none64.mem a x.2.1 x.2.2 none) (fun x => x.1 ≤ 8 ∧ x.2.1.length = m + (8 - x.1) ∧ x.2.1 ++ lenB bt x.1 = xs0 ++ lenB bt 8 ∧ (x.1 = 8 ∨ x.2.2 = m + (8 - x.1))) (fun x => x.1) ?_ (8, xs0, lo) ⟨Nat.le_refl _, by simp only; omega, rfl, .inl rfl⟩ g
  rintro ⟨j, xs, lo⟩ g ⟨hj, hl, he, hlo⟩
  simp only at hj hl he hlo
  cases j with
  | zero =>
    have he : xs = xs0 ++ lenB bt 8 := by rw [← he]; exact (List.append_nil _).symm
    subst he
    obtain rfl : lo = m + (8 - 0) := by omega
    exact Runs.of_outX tys_ok mixed (padd.none64.l2x a (xs0 ++ lenB bt 8) (m + (8 - 0)) (m + (8 - 0)) bt g) trivial (padd.none64.ids1 a _ _ _ _) rfl hp
  | succ i =>
    have hlen : m + (8 - (i + 1)) = xs.length := hl.symm
    have e1 : m + (8 - (i + 1)) + 1 = m + (8 - i) := by omega
    have e2 : (xs ++ [lenE bt i]) ++ lenB bt i = xs0 ++ lenB bt 8 := by rw [← he, List.append_assoc]; rfl
    refine Runs.room 0 (m + (8 - (i + 1)) + 1) (own := true) (ty := 5) (kd := .u8) (xs := xs) (lo := lo) rfl ?_ ?_
    · refine Runs.of_outX tys_ok mixed (tab_getH (padd.none64.l2i a xs (m + (8 - (i + 1))) lo bt g) i (by omega)) ⟨by omega, hlen, by omega, trivial⟩ (padd.none64.ids3 a _ _ _ _ _ _) rfl fun g' => ⟨(i, xs ++ [lenE bt i], m + (8 - (i + 1)) + 1), g', ?_, rfl, ⟨by simp only; omega, by simp only [List.length_append, List.length_singleton]; omega, e2, .inr e1⟩, by simp only; omega⟩
      simp only; rw [e1]
    · refine Runs.of_outN tys_ok mixed _ (tab_getH (padd.none64.l2g a xs (m + (8 - (i + 1))) lo bt g) i (by omega)) ⟨by omega, hlen, by omega, room_u8 _ (by omega), trivial⟩ (padd.none64.ids3 a _ _ _ _ _ _) rfl fun g' => ⟨(i, xs ++ [lenE bt i], m + (8 - (i + 1)) + 1), g', ?_, rfl, ⟨by simp only; omega, by simp only [List.length_append, List.length_singleton]; omega, e2, .inr e1⟩, by simp only; omega⟩
      simp only; rw [e1]
theorem padd_none64_rest (a : Option Addr) (hy : ([] : List Int).length = 0) (hs : 0 ≤ 140737488354000) (lo : Nat) (g : Nat → SV) :
    RunsF Tryd.prog Gs 0 (.seq (.block 0 (.loop padd.L1)) (.seq padd.R5 (.seq (.seq padd.R6 (.block 2 (.loop padd.L2))) padd.D))) (fill g 0 (padd.none64.M1 a (0 + 1))) (padd.none64.mem a ([] ++ [128]) lo none) (EndsM tys padd.fn (endsQ (.o (.a (.slg 0 (padR [] 64 8).length))) (.new 5 (.gro .u8 (padR [] 64 8) (padR [] 64 8).length none)))) := by
  obtain ⟨z1, z2, z3⟩ := padZ_64 0
  have h0 : ([] : List Int) ++ [128] ++ List.replicate 0 0 = [] ++ [128] := List.append_nil _
  rw [← h0]
  refine Runs.seq (padd_none64_loop1 a ([] ++ [128]) 0 (by simp only [List.length_append, List.length_singleton, hy]) hs (fun g lo => ?_) lo g)
  refine Runs.seq (Runs.of_outX tys_ok mixed (padd.none64.r5 a _ _ lo g) trivial (padd.none64.ids2 a _ _ _ _ _) rfl fun g => ?_)
  refine Runs.seq (Runs.seq (Runs.of_outX tys_ok mixed (padd.none64.r6 a _ _ lo _ g) trivial (padd.none64.ids3 a _ _ _ _ _ _) rfl fun g => ?_))
  refine padd_none64_loop2 a ([] ++ [128] ++ List.replicate (padZ 0 64 8) 0) (0 + 1 + padZ 0 64 8) (by simp only [List.length_append, List.length_singleton, List.length_replicate, hy]) (by omega) (lenV 0) (fun g => ?_) lo g
  have ex : ([] ++ [128] ++ List.replicate (padZ 0 64 8) 0) ++ lenB (lenV 0) 8 = padR [] 64 8 := by
    unfold padR
    rw [hy, List.append_assoc, List.append_assoc]
  have el : 0 + 1 + padZ 0 64 8 + (8 - 0) = (padR [] 64 8).length := by
    rw [← ex]
    simp only [List.length_append, List.length_singleton, List.length_replicate, lenB_length, hy]
  refine Runs.of_exec tys_ok mixed (padd.none64.d a _ _ _ g) trivial (EndsM.ret (padd.none64.res a _ _ _ g) ⟨0, ?_, ?_⟩)
  · rw [← el]; rfl
  · rw [← el, ← ex]
    exact padd.none64.row a _ _ _ g
theorem padd_none64_run (a : Option Addr) (hy : ([] : List Int).length = 0) (hs : 0 ≤ 140737488354000) :
    RunsF Tryd.prog Gs 0 padd.body (padd.none64.t0 a) (padd.none64.mem0 a) (EndsM tys padd.fn (endsQ (.o (.a (.slg 0 (padR [] 64 8).length))) (.new 5 (.gro .u8 (padR [] 64 8) (padR [] 64 8).length none)))) := by
  rw [padd.body_eq]
  refine Runs.seq (Runs.of_outX tys_ok mixed (padd.none64.r0 a) trivial (padd.none64.ids0 a) rfl fun g => ?_)
  refine Runs.seq (Runs.of_outX tys_ok mixed (padd.none64.r1z a g) ⟨rfl, by decide, trivial⟩ (padd.none64.idsz a) rfl fun g => ?_)
  refine Runs.seq (Runs.of_outN tys_ok mixed _ (padd.none64.r2z a g) ⟨by decide, by decide, room_u8 _ (by omega), trivial⟩ (padd.none64.ids1 a _ _ _ _) rfl fun g => ?_)
  exact padd_none64_rest a rfl (by omega) 1 g
theorem padd_win128_loop1 (ys : List Int) (n c : Nat) (ty : TypeId) (xs0 : List Int) (m : Nat) (hm : xs0.length = m + 1) (hs : m ≤ 140737488354000) (hp : ∀ g lo, Post .normal (fill g 0 (padd.win128.M1 ys n c ty (m + 1 + padZ m 128 16))) (padd.win128.mem ys n c ty (xs0 ++ List.replicate (padZ m 128 16) 0) lo none)) (lo : Nat) (g : Nat → SV) :
    RunsF Tryd.prog Gs 1 (.block 0 (.loop padd.L1)) (fill g 0 (padd.win128.M1 ys n c ty (m + 1 + 0))) (padd.win128.mem ys n c ty (xs0 ++ List.replicate 0 0) lo none) Post := by
  obtain ⟨z1, z2, z3⟩ := padZ_128 m
  refine Runs.block ?_
  refine Runs.loopX (fun (x : Nat × Nat) => padd.win128.M1 ys n c ty (m + 1 + x.1)) (fun x => padd.win128.mem ys n c ty (xs0 ++ List.replicate x.1 0) x.2 none) (fun x => x.1 ≤ padZ m 128 16) (fun x => padZ m 128 16 - x.1) ?_ (0, lo) (Nat.zero_le _) g
  rintro ⟨j, lo⟩ g hj
  simp only at hj
  have hlen : (m + 1 + j) = (xs0 ++ List.replicate j 0).length := by rw [List.length_append, List.length_replicate, hm]
  have hw : (IntKind.i64.wrap (((m + 1 + j : Nat) : Int) + 16)).tmod 128 = (((m + 1 + j + 16) % 128 : Nat) : Int) := by
    rw [i64_small _ (by omega) (by omega), Int.tmod_eq_emod_of_nonneg (by omega)]; omega
  by_cases hlt : j < padZ m 128 16
  · have ht : ((IntKind.i64.wrap (((m + 1 + j : Nat) : Int) + 16)).tmod 128 != 0) = true := by
      rw [hw, bne_iff_ne]
      have := z3 j hlt
      omega
    refine Runs.room 1 (m + 1 + j + 1) (own := true) (ty := 5) (kd := .u8) (xs := xs0 ++ List.replicate j 0) (lo := lo) rfl ?_ ?_
    · refine Runs.of_outX tys_ok mixed (padd.win128.l1i ys n c ty (xs0 ++ List.replicate j 0) (m + 1 + j) lo g) ⟨ht, by omega, hlen, by omega, trivial⟩ (padd.win128.ids1 ys n c ty _ _ _ _) rfl fun g' => ⟨(j + 1, m + 1 + j + 1), g', rfl, ?_, hlt, by simp only; omega⟩
      simp only; rw [tail_succ]
    · refine Runs.of_outN tys_ok mixed _ (padd.win128.l1g ys n c ty (xs0 ++ List.replicate j 0) (m + 1 + j) lo g) ⟨ht, by omega, hlen, by omega, room_u8 _ (by omega), trivial⟩ (padd.win128.ids1 ys n c ty _ _ _ _) rfl fun g' => ⟨(j + 1, m + 1 + j + 1), g', rfl, ?_, hlt, by simp only; omega⟩
      simp only; rw [tail_succ]
  · obtain rfl : j = padZ m 128 16 := by omega
    refine Runs.of_outX tys_ok mixed (padd.win128.l1x ys n c ty (xs0 ++ List.replicate _ 0) (m + 1 + padZ m 128 16) lo g) ⟨?_, trivial⟩ (padd.win128.ids1 ys n c ty _ _ _ _) rfl fun g' => hp g' lo
    rw [hw]
    have := z2
    simp only [bne_eq_false_iff_eq]
    omega
theorem padd_win128_loop2 (ys : List Int) (n c : Nat) (ty : TypeId) (xs0 : List Int) (m : Nat) (hm : xs0.length = m) (hs : m ≤ 140737488355000) (bt : Int) (hp : ∀ g, Post .normal (fill g 0 (padd.win128.M1 ys n c ty (m + (16 - 0)))) (padd.win128.mem ys n c ty (xs0 ++ lenB bt 16) (m + (16 - 0)) none)) (lo : Nat) (g : Nat → SV) :
    RunsF Tryd.prog Gs 1 (.block 2 (.loop padd.L2)) (fill g 0 (padd.win128.M3 ys n c ty (m + (16 - 16)) bt 16)) (padd.win128.mem ys n c ty xs0 lo none) Post := by
  refine Runs.block ?_
  refine Runs.loopX (fun (x : Nat × List Int × Nat) => padd.win128.M3 ys n c ty (m + (16 - x.1)) bt x.1) (fun x => padd.win128.mem ys n c ty x.2.1 x.2.2 none) (fun x => x.1 ≤ 16 ∧ x.2.1.length = m + (16 - x.1) ∧ x.2.1 ++ lenB bt x.1 = xs0 ++ lenB bt 16 ∧ (x.1 = 16 ∨ x.2.2 = m + (16 - x.1))) (fun x => x.1) ?_ (16, xs0, lo) ⟨Nat.le_refl _, by simp only; omega, rfl, .inl rfl⟩ g
  rintro ⟨j, xs, lo⟩ g ⟨hj, hl, he, hlo⟩
  simp only at hj hl he hlo
  cases j with
  | zero =>
    have he : xs = xs0 ++ lenB bt 16 := by rw [← he]; exact (List.append_nil _).symm
    subst he
    obtain rfl : lo = m + (16 - 0) := by omega
    exact Runs.of_outX tys_ok mixed (padd.win128.l2x ys n c ty (xs0 ++ lenB bt 16) (m + (16 - 0)) (m + (16 - 0)) bt g) trivial (padd.win128.ids1 ys n c ty _ _ _ _) rfl hp
  | succ i =>
    have hlen : m + (16 - (i + 1)) = xs.length := hl.symm
    have e1 : m + (16 - (i + 1)) + 1 = m + (16 - i) := by omega
    have e2 : (xs ++ [lenE bt i]) ++ lenB bt i = xs0 ++ lenB bt 16 := by rw [← he, List.append_assoc]; rfl
    refine Runs.room 1 (m + (16 - (i + 1)) + 1) (own := true) (ty := 5) (kd := .u8) (xs := xs) (lo := lo) rfl ?_ ?_
    · refine Runs.of_outX tys_ok mixed (tab_getH (padd.win128.l2i ys n c ty xs (m + (16 - (i + 1))) lo bt g) i (by omega)) ⟨by omega, hlen, by omega, trivial⟩ (padd.win128.ids3 ys n c ty _ _ _ _ _ _) rfl fun g' => ⟨(i, xs ++ [lenE bt i], m + (16 - (i + 1)) + 1), g', ?_, rfl, ⟨by simp only; omega, by simp only [List.length_append, List.length_singleton]; omega, e2, .inr e1⟩, by simp only; omega⟩
      simp only; rw [e1]
    · refine Runs.of_outN tys_ok mixed _ (tab_getH (padd.win128.l2g ys n c ty xs (m + (16 - (i + 1))) lo bt g) i (by omega)) ⟨by omega, hlen, by omega, room_u8 _ (by omega), trivial⟩ (padd.win128.ids3 ys n c ty _ _ _ _ _ _) rfl fun g' => ⟨(i, xs ++ [lenE bt i], m + (16 - (i + 1)) + 1), g', ?_, rfl, ⟨by simp only; omega, by simp only [List.length_append, List.length_singleton]; omega, e2, .inr e1⟩, by simp only; omega⟩
      simp only; rw [e1]
theorem padd_win128_rest (ys : List Int) (n c : Nat) (ty : TypeId) (hy : (ys : List Int).length = n) (hs : n ≤ 140737488354000) (lo : Nat) (g : Nat → SV) :
    RunsF Tryd.prog Gs 1 (.seq (.block 0 (.loop padd.L1)) (.seq padd.R5 (.seq (.seq padd.R6 (.block 2 (.loop padd.L2))) padd.D))) (fill g 0 (padd.win128.M1 ys n c ty (n + 1))) (padd.win128.mem ys n c ty (ys ++ [128]) lo none) (EndsM tys padd.fn (endsQ (.o (.a (.slg 0 (padR ys 128 16).length))) (.new 5 (.gro .u8 (padR ys 128 16) (padR ys 128 16).length none)))) := by
  obtain ⟨z1, z2, z3⟩ := padZ_128 n
  have h0 : (ys : List Int) ++ [128] ++ List.replicate 0 0 = ys ++ [128] := List.append_nil _
  rw [← h0]
  refine Runs.seq (padd_win128_loop1 ys n c ty (ys ++ [128]) n (by simp only [List.length_append, List.length_singleton, hy]) hs (fun g lo => ?_) lo g)
  refine Runs.seq (Runs.of_outX tys_ok mixed (padd.win128.r5 ys n c ty _ _ lo g) trivial (padd.win128.ids2 ys n c ty _ _ _ _ _) rfl fun g => ?_)
  refine Runs.seq (Runs.seq (Runs.of_outX tys_ok mixed (padd.win128.r6 ys n c ty _ _ lo _ g) trivial (padd.win128.ids3 ys n c ty _ _ _ _ _ _) rfl fun g => ?_))
  refine padd_win128_loop2 ys n c ty (ys ++ [128] ++ List.replicate (padZ n 128 16) 0) (n + 1 + padZ n 128 16) (by simp only [List.length_append, List.length_singleton, List.length_replicate, hy]) (by omega) (lenV n) (fun g => ?_) lo g
  have ex : (ys ++ [128] ++ List.replicate (padZ n 128 16) 0) ++ lenB (lenV n) 16 = padR ys 128 16 := by
    unfold padR
    rw [hy, List.append_assoc, List.append_assoc]
  have el : n + 1 + padZ n 128 16 + (16 - 0) = (padR ys 128 16).length := by
    rw [← ex]
    simp only [List.length_append, List.length_singleton, List.length_replicate, lenB_length, hy]
  refine Runs.of_exec tys_ok mixed (padd.win128.d ys n c ty _ _ _ g) trivial (EndsM.ret (padd.win128.res ys n c ty _ _ _ g) ⟨1, ?_, ?_⟩)
  · rw [← el]; rfl
  · rw [← el, ← ex]
    exact padd.win128.row ys n c ty _ _ _ g
theorem padd_win128_run (ys : List Int) (n c : Nat) (ty : TypeId) (hy : (ys : List Int).length = n) (hs : n ≤ 140737488354000) :
    RunsF Tryd.prog Gs 1 padd.body (padd.win128.t0 ys n c ty) (padd.win128.mem0 ys n c ty) (EndsM tys padd.fn (endsQ (.o (.a (.slg 0 (padR ys 128 16).length))) (.new 5 (.gro .u8 (padR ys 128 16) (padR ys 128 16).length none)))) := by
  rw [padd.body_eq]
  refine Runs.seq (Runs.of_outX tys_ok mixed (padd.win128.r0 ys n c ty) trivial (padd.win128.ids0 ys n c ty) rfl fun g => ?_)
  by_cases hn : n = 0
  · have hz : ys = [] := List.eq_nil_of_length_eq_zero (by omega)
    subst hn hz
    refine Runs.seq (Runs.of_outX tys_ok mixed (padd.win128.r1z [] 0 c ty g) ⟨by decide, rfl, by decide, trivial⟩ (padd.win128.idsz [] 0 c ty) rfl fun g => ?_)
    refine Runs.seq (Runs.of_outN tys_ok mixed _ (padd.win128.r2z [] 0 c ty g) ⟨by decide, by decide, room_u8 _ (by omega), trivial⟩ (padd.win128.ids1 [] 0 c ty _ _ _ _) rfl fun g => ?_)
    exact padd_win128_rest [] 0 c ty rfl (by omega) 1 g
  · refine Runs.seq (Runs.of_outN tys_ok mixed _ (padd.win128.r1 ys n c ty g) ⟨by omega, by omega, room_u8 _ (by omega), trivial⟩ (padd.win128.ids1 ys n c ty _ _ _ _) rfl fun g => ?_)
    have e : (ys.drop 0).take n = ys := by rw [List.drop_zero, List.take_of_length_le (by omega)]
    show RunsF _ _ _ _ _ (padd.win128.mem ys n c ty ((ys.drop 0).take n) n none) _
    rw [e]
    refine Runs.room 1 (n + 1) (own := true) (ty := 5) (kd := .u8) (xs := ys) (lo := n) rfl ?_ ?_
    · refine Runs.seq (Runs.of_outX tys_ok mixed (padd.win128.r2i ys n c ty ys n n g) ⟨by omega, hy.symm, by omega, trivial⟩ (padd.win128.ids1 ys n c ty _ _ _ _) rfl fun g => ?_)
      exact padd_win128_rest ys n c ty hy hs _ g
    · refine Runs.seq (Runs.of_outN tys_ok mixed _ (padd.win128.r2g ys n c ty ys n n g) ⟨by omega, hy.symm, by omega, room_u8 _ (by omega), trivial⟩ (padd.win128.ids1 ys n c ty _ _ _ _) rfl fun g => ?_)
      exact padd_win128_rest ys n c ty hy hs _ g
theorem padd_none128_loop1 (a : Option Addr) (xs0 : List Int) (m : Nat) (hm : xs0.length = m + 1) (hs : m ≤ 140737488354000) (hp : ∀ g lo, Post .normal (fill g 0 (padd.none128.M1 a (m + 1 + padZ m 128 16))) (padd.none128.mem a (xs0 ++ List.replicate (padZ m 128 16) 0) lo none)) (lo : Nat) (g : Nat → SV) :
    RunsF Tryd.prog Gs 0 (.block 0 (.loop padd.L1)) (fill g 0 (padd.none128.M1 a (m + 1 + 0))) (padd.none128.mem a (xs0 ++ List.replicate 0 0) lo none) Post := by
  obtain ⟨z1, z2, z3⟩ := padZ_128 m
  refine Runs.block ?_
  refine Runs.loopX (fun (x : Nat × Nat) => padd.none128.M1 a (m + 1 + x.1)) (fun x => padd.none128.mem a (xs0 ++ List.replicate x.1 0) x.2 none) (fun x => x.1 ≤ padZ m 128 16) (fun x => padZ m 128 16 - x.1) ?_ (0, lo) (Nat.zero_le _) g
  rintro ⟨j, lo⟩ g hj
  simp only at hj
  have hlen : (m + 1 + j) = (xs0 ++ List.replicate j 0).length := by rw [List.length_append, List.length_replicate, hm]
  have hw : (IntKind.i64.wrap (((m + 1 + j : Nat) : Int) + 16)).tmod 128 = (((m + 1 + j + 16) % 128 : Nat) : Int) := by
    rw [i64_small _ (by omega) (by omega), Int.tmod_eq_emod_of_nonneg (by omega)]; omega
  by_cases hlt : j < padZ m 128 16
  · have ht : ((IntKind.i64.wrap (((m + 1 + j : Nat) : Int) + 16)).tmod 128 != 0) = true := by
      rw [hw, bne_iff_ne]
      have := z3 j hlt
      omega
    refine Runs.room 0 (m + 1 + j + 1) (own := true) (ty := 5) (kd := .u8) (xs := xs0 ++ List.replicate j 0) (lo := lo) rfl ?_ ?_
    · refine Runs.of_outX tys_ok mixed (padd.none128.l1i a (xs0 ++ List.replicate j 0) (m + 1 + j) lo g) ⟨ht, by omega, hlen, by omega, trivial⟩ (padd.none128.ids1 a _ _ _ _) rfl fun g' => ⟨(j + 1, m + 1 + j + 1), g', rfl, ?_, hlt, by simp only; omega⟩
      simp only; rw [tail_succ]
    · refine Runs.of_outN tys_ok mixed _ (padd.none128.l1g a (xs0 ++ List.replicate j 0) (m + 1 + j) lo g) ⟨ht, by omega, hlen, by omega, room_u8 _ (by omega), trivial⟩ (padd.none128.ids1 a _ _ _ _) rfl fun g' => ⟨(j + 1, m + 1 + j + 1), g', rfl, ?_, hlt, by simp only; omega⟩
      simp only; rw [tail_succ]
  · obtain rfl : j = padZ m 128 16 := by omega
    refine Runs.of_outX tys_ok mixed (padd.none128.l1x a (xs0 ++ List.replicate _ 0) (m + 1 + padZ m 128 16) lo g) ⟨?_, trivial⟩ (padd.none128.ids1 a _ _ _ _) rfl fun g' => hp g' lo
    rw [hw]
    have := z2
    simp only [bne_eq_false_iff_eq]
    omega
theorem padd_none128_loop2 (a : Option Addr) (xs0 : List Int) (m : Nat) (hm : xs0.length = m) (hs : m ≤ 140737488355000) (bt : Int) (hp : ∀ g, Post .normal (fill g 0 (padd.none128.M1 a (m + (16 - 0)))) (padd.none128.mem a (xs0 ++ lenB bt 16) (m + (16 - 0)) none)) (lo : Nat) (g : Nat → SV) :
    RunsF Tryd.prog Gs 0 (.block 2 (.loop padd.L2)) (fill g 0 (padd.none128.M3 a (m + (16 - 16)) bt 16)) (padd.none128.mem a xs0 lo none) Post := by
  refine Runs.block ?_
  refine Runs.loopX (fun (x : Nat × List Int × Nat) => padd.none128.M3 a (m + (16 - x.1)) bt x.1) (fun x => padd.none128.mem a x.2.1 x.2.2 none) (fun x => x.1 ≤ 16 ∧ x.2.1.length = m + (16 - x.1) ∧ x.2.1 ++ lenB bt x.1 = xs0 ++ lenB bt 16 ∧ (x.1 = 16 ∨ x.2.2 = m + (16 - x.1))) (fun x => x.1) ?_ (16, xs0, lo) ⟨Nat.le_refl _, by simp only; omega, rfl, .inl rfl⟩ g
  rintro ⟨j, xs, lo⟩ g ⟨hj, hl, he, hlo⟩
  simp only at hj hl he hlo
  cases j with
  | zero =>
    have he : xs = xs0 ++ lenB bt 16 := by rw [← he]; exact (List.append_nil _).symm
    subst he
    obtain rfl : lo = m + (16 - 0) := by omega
    exact Runs.of_outX tys_ok mixed (padd.none128.l2x a (xs0 ++ lenB bt 16) (m + (16 - 0)) (m + (16 - 0)) bt g) trivial (padd.none128.ids1 a _ _ _ _) rfl hp
  | succ i =>
    have hlen : m + (16 - (i + 1)) = xs.length := hl.symm
    have e1 : m + (16 - (i + 1)) + 1 = m + (16 - i) := by omega
    have e2 : (xs ++ [lenE bt i]) ++ lenB bt i = xs0 ++ lenB bt 16 := by rw [← he, List.append_assoc]; rfl
    refine Runs.room 0 (m + (16 - (i + 1)) + 1) (own := true) (ty := 5) (kd := .u8) (xs := xs) (lo := lo) rfl ?_ ?_
    · refine Runs.of_outX tys_ok mixed (tab_getH (padd.none128.l2i a xs (m + (16 - (i + 1))) lo bt g) i (by omega)) ⟨by omega, hlen, by omega, trivial⟩ (padd.none128.ids3 a _ _ _ _ _ _) rfl fun g' => ⟨(i, xs ++ [lenE bt i], m + (16 - (i + 1)) + 1), g', ?_, rfl, ⟨by simp only; omega, by simp only [List.length_append, List.length_singleton]; omega, e2, .inr e1⟩, by simp only; omega⟩
      simp only; rw [e1]
    · refine Runs.of_outN tys_ok mixed _ (tab_getH (padd.none128.l2g a xs (m + (16 - (i + 1))) lo bt g) i (by omega)) ⟨by omega, hlen, by omega, room_u8 _ (by omega), trivial⟩ (padd.none128.ids3 a _ _ _ _ _ _) rfl fun g' => ⟨(i, xs ++ [lenE bt i], m + (16 - (i + 1)) + 1), g', ?_, rfl, ⟨by simp only; omega, by simp only [List.length_append, List.length_singleton]; omega, e2, .inr e1⟩, by simp only; omega⟩
      simp only; rw [e1]
theorem padd_none128_rest (a : Option Addr) (hy : ([] : List Int).length = 0) (hs : 0 ≤ 140737488354000) (lo : Nat) (g : Nat → SV) :
    RunsF Tryd.prog Gs 0 (.seq (.block 0 (.loop padd.L1)) (.seq padd.R5 (.seq (.seq padd.R6 (.block 2 (.loop padd.L2))) padd.D))) (fill g 0 (padd.none128.M1 a (0 + 1))) (padd.none128.mem a ([] ++ [128]) lo none) (EndsM tys padd.fn (endsQ (.o (.a (.slg 0 (padR [] 128 16).length))) (.new 5 (.gro .u8 (padR [] 128 16) (padR [] 128 16).length none)))) := by
  obtain ⟨z1, z2, z3⟩ := padZ_128 0
  have h0 : ([] : List Int) ++ [128] ++ List.replicate 0 0 = [] ++ [128] := List.append_nil _
  rw [← h0]
  refine Runs.seq (padd_none128_loop1 a ([] ++ [128]) 0 (by simp only [List.length_append, List.length_singleton, hy]) hs (fun g lo => ?_) lo g)
  refine Runs.seq (Runs.of_outX tys_ok mixed (padd.none128.r5 a _ _ lo g) trivial (padd.none128.ids2 a _ _ _ _ _) rfl fun g => ?_)
  refine Runs.seq (Runs.seq (Runs.of_outX tys_ok mixed (padd.none128.r6 a _ _ lo _ g) trivial (padd.none128.ids3 a _ _ _ _ _ _) rfl fun g => ?_))
  refine padd_none128_loop2 a ([] ++ [128] ++ List.replicate (padZ 0 128 16) 0) (0 + 1 + padZ 0 128 16) (by simp only [List.length_append, List.length_singleton, List.length_replicate, hy]) (by omega) (lenV 0) (fun g => ?_) lo g
  have ex : ([] ++ [128] ++ List.replicate (padZ 0 128 16) 0) ++ lenB (lenV 0) 16 = padR [] 128 16 := by
    unfold padR
    rw [hy, List.append_assoc, List.append_assoc]
  have el : 0 + 1 + padZ 0 128 16 + (16 - 0) = (padR [] 128 16).length := by
    rw [← ex]
    simp only [List.length_append, List.length_singleton, List.length_replicate, lenB_length, hy]
  refine Runs.of_exec tys_ok mixed (padd.none128.d a _ _ _ g) trivial (EndsM.ret (padd.none128.res a _ _ _ g) ⟨0, ?_, ?_⟩)
  · rw [← el]; rfl
  · rw [← el, ← ex]
    exact padd.none128.row a _ _ _ g
theorem padd_none128_run (a : Option Addr) (hy : ([] : List Int).length = 0) (hs : 0 ≤ 140737488354000) :
    RunsF Tryd.prog Gs 0 padd.body (padd.none128.t0 a) (padd.none128.mem0 a) (EndsM tys padd.fn (endsQ (.o (.a (.slg 0 (padR [] 128 16).length))) (.new 5 (.gro .u8 (padR [] 128 16) (padR [] 128 16).length none)))) := by
  rw [padd.body_eq]
  refine Runs.seq (Runs.of_outX tys_ok mixed (padd.none128.r0 a) trivial (padd.none128.ids0 a) rfl fun g => ?_)
  refine Runs.seq (Runs.of_outX tys_ok mixed (padd.none128.r1z a g) ⟨rfl, by decide, trivial⟩ (padd.none128.idsz a) rfl fun g => ?_)
  refine Runs.seq (Runs.of_outN tys_ok mixed _ (padd.none128.r2z a g) ⟨by decide, by decide, room_u8 _ (by omega), trivial⟩ (padd.none128.ids1 a _ _ _ _) rfl fun g => ?_)
  exact padd_none128_rest a rfl (by omega) 1 g
end
def padd_spec : List PArg → Option (SV × LEff × Cst)
  | [.win .u8 ys n ty, .val (.o (.a (.v (.int .i64 bk)))), .val (.o (.a (.v (.int .i64 ln))))] =>
    if bk = 64 ∧ ln = 8 then some (.o (.a (.slg 0 (padR ys 64 8).length)), .new 5 (.gro .u8 (padR ys 64 8) (padR ys 64 8).length none), [n ≤ 140737488354000])
    else if bk = 128 ∧ ln = 16 then some (.o (.a (.slg 0 (padR ys 128 16).length)), .new 5 (.gro .u8 (padR ys 128 16) (padR ys 128 16).length none), [n ≤ 140737488354000])
    else none
  | [.val (.o (.a (.v (.slice _ 0 0)))), .val (.o (.a (.v (.int .i64 bk)))), .val (.o (.a (.v (.int .i64 ln))))] =>
    if bk = 64 ∧ ln = 8 then some (.o (.a (.slg 0 (padR [] 64 8).length)), .new 5 (.gro .u8 (padR [] 64 8) (padR [] 64 8).length none), [])
    else if bk = 128 ∧ ln = 16 then some (.o (.a (.slg 0 (padR [] 128 16).length)), .new 5 (.gro .u8 (padR [] 128 16) (padR [] 128 16).length none), [])
    else none
  | _ => none
def padd_out (ys : List Int) (bk ln : Nat) (p : Cst) : SV × LEff × Cst := (.o (.a (.slg 0 (padR ys bk ln).length)), .new 5 (.gro .u8 (padR ys bk ln) (padR ys bk ln).length none), p)
theorem padd_specE {ps : List PArg} {q : SV × LEff × Cst} (h : padd_spec ps = some q) :
    (∃ ys n ty, ps = [.win .u8 ys n ty, .val (.o (.a (.v (.int .i64 64)))), .val (.o (.a (.v (.int .i64 8))))] ∧ q = padd_out ys 64 8 [n ≤ 140737488354000]) ∨
    (∃ ys n ty, ps = [.win .u8 ys n ty, .val (.o (.a (.v (.int .i64 128)))), .val (.o (.a (.v (.int .i64 16))))] ∧ q = padd_out ys 128 16 [n ≤ 140737488354000]) ∨
    (∃ a, ps = [.val (.o (.a (.v (.slice a 0 0)))), .val (.o (.a (.v (.int .i64 64)))), .val (.o (.a (.v (.int .i64 8))))] ∧ q = padd_out [] 64 8 []) ∨
    (∃ a, ps = [.val (.o (.a (.v (.slice a 0 0)))), .val (.o (.a (.v (.int .i64 128)))), .val (.o (.a (.v (.int .i64 16))))] ∧ q = padd_out [] 128 16 []) := by
  unfold padd_spec at h
  split at h
  · split at h
    · rename_i hc
      obtain ⟨rfl, rfl⟩ := hc
      cases h
      exact .inl ⟨_, _, _, rfl, rfl⟩
    · split at h <;> cases h
      rename_i hc
      obtain ⟨rfl, rfl⟩ := hc
      exact .inr (.inl ⟨_, _, _, rfl, rfl⟩)
  · split at h
    · rename_i hc
      obtain ⟨rfl, rfl⟩ := hc
      cases h
      exact .inr (.inr (.inl ⟨_, rfl, rfl⟩))
    · split at h <;> cases h
      rename_i hc
      obtain ⟨rfl, rfl⟩ := hc
      exact .inr (.inr (.inr ⟨_, rfl, rfl⟩))
  · cases h
noncomputable def padd_con : Con Tryd.prog Gs := Con.parts tys_ok 36 padd.fn Tryd.func36 (by kernel_rfl) (c := padd.body) (by kernel_rfl) [.win .u8, .val, .val] padd_spec
  (fun ps r e p h hp => by
    rcases padd_specE h with ⟨ys, n, ty, rfl, hq⟩ | ⟨ys, n, ty, rfl, hq⟩ | ⟨a, rfl, hq⟩ | ⟨a, rfl, hq⟩ <;> cases hq
    · exact ⟨rfl, fun b hb => by simp only [locBlks, PArg.blk, List.append_nil, List.mem_singleton] at hb; rw [hb]⟩
    · exact ⟨rfl, fun b hb => by simp only [locBlks, PArg.blk, List.append_nil, List.mem_singleton] at hb; rw [hb]⟩
    · exact ⟨rfl, fun b hb => by cases hb⟩
    · exact ⟨rfl, fun b hb => by cases hb⟩)
  (fun ps r e p cap h hp hi => by
    rcases padd_specE h with ⟨ys, n, ty, rfl, hq⟩ | ⟨ys, n, ty, rfl, hq⟩ | ⟨a, rfl, hq⟩ | ⟨a, rfl, hq⟩ <;> cases hq
    · exact padd_win64_run ys n _ ty hi.1.1 hp.1
    · exact padd_win128_run ys n _ ty hi.1.1 hp.1
    · exact padd_none64_run a rfl (by omega)
    · exact padd_none128_run a rfl (by omega))
end Go.Proofs.YtbfndladaldajaaDoor
/- Package beaconref01: Sum256, piece by piece. -/
namespace Go.Proofs.YtbfndladaldajaaDoor
open Go Go.Eng Go.RowKit
set_option linter.unusedVariables false
set_option maxRecDepth 100000
def row8 (h : Nat → Int) : List Atom := u32 (h 0) :: u32 (h 1) :: u32 (h 2) :: u32 (h 3) :: u32 (h 4) :: u32 (h 5) :: u32 (h 6) :: u32 (h 7) :: []
end Go.Proofs.YtbfndladaldajaaDoor
/- Package beaconref01: Sum256: its loops; its contract. -/
namespace Go.Proofs.YtbfndladaldajaaDoor
open Go Go.Eng Go.RowKit
set_option linter.unusedVariables false
set_option maxRecDepth 100000
theorem i64n {x : Int} {n : Nat} (h : x = (n : Int)) (hn : n < 9223372036854775808) : IntKind.i64.wrap x = (n : Int) := by rw [h, i64_small _ (by omega) (by omega)]
theorem padR_length (ys : List Int) (bk ln : Nat) : (padR ys bk ln).length = ys.length + 1 + padZ ys.length bk ln + ln := by
  unfold padR
  simp only [List.length_append, List.length_singleton, List.length_replicate, lenB_length]
  omega
section
variable {Post : Ex → List SV → List Blk → Prop}
end
end Go.Proofs.YtbfndladaldajaaDoor

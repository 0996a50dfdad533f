/- Package sha2: rotations of 64 bits; one block of SHA-512: its pieces. -/
import Derived.Test.YtpmdelihcdaffaaDoorShaD
namespace Go.Proofs.YtpmdelihcdaffaaDoor
open Go Go.Eng
set_option linter.unusedVariables false
set_option maxRecDepth 100000

/-- Both package-level tables. -/
def G2 : Glob := fun g => match g with
  | 0 => some (k256L.map (int1 .u32))
  | 1 => some (k512L.map (int1 .u64))
  | _ => none
theorem gs_g2 : ∀ g cs, Gs g = some cs → G2 g = some cs := by
  intro g cs h
  unfold Gs at h
  split at h <;> cases h
  rfl
def rotL6 (n : Int) : Nat := (n % 64).toNat
def rotG (a k : Int) : Int := bits .or .u64 (IntKind.u64.wrap (a * 2 ^ rotL6 k)) (a.fdiv (2 ^ (64 - rotL6 k)))
def rots6 : List Int := [-19, -61, -1, -8, -14, -18, -41, -28, -34, -39]
theorem rot64_fn (a k : Int) (h : k ∈ rots6) : FnOk Tryd.prog G2 46 [(cInt .u64).enc a, (cInt .i64).enc k] ((cInt .u64).enc (rotG a k)) := by
  unfold rots6 at h
  simp only [List.mem_cons, List.not_mem_nil, or_false] at h
  rcases h with rfl | rfl | rfl | rfl | rfl | rfl | rfl | rfl | rfl | rfl
  · exact FnOk.of_out (Γ := ([] : Cons Tryd.prog G2)) tys_ok mixed Tryd.func46 (n := 100) (orc := []) (cs := []) (by kernel_rfl) trivial rfl rfl
  · exact FnOk.of_out (Γ := ([] : Cons Tryd.prog G2)) tys_ok mixed Tryd.func46 (n := 100) (orc := []) (cs := []) (by kernel_rfl) trivial rfl rfl
  · exact FnOk.of_out (Γ := ([] : Cons Tryd.prog G2)) tys_ok mixed Tryd.func46 (n := 100) (orc := []) (cs := []) (by kernel_rfl) trivial rfl rfl
  · exact FnOk.of_out (Γ := ([] : Cons Tryd.prog G2)) tys_ok mixed Tryd.func46 (n := 100) (orc := []) (cs := []) (by kernel_rfl) trivial rfl rfl
  · exact FnOk.of_out (Γ := ([] : Cons Tryd.prog G2)) tys_ok mixed Tryd.func46 (n := 100) (orc := []) (cs := []) (by kernel_rfl) trivial rfl rfl
  · exact FnOk.of_out (Γ := ([] : Cons Tryd.prog G2)) tys_ok mixed Tryd.func46 (n := 100) (orc := []) (cs := []) (by kernel_rfl) trivial rfl rfl
  · exact FnOk.of_out (Γ := ([] : Cons Tryd.prog G2)) tys_ok mixed Tryd.func46 (n := 100) (orc := []) (cs := []) (by kernel_rfl) trivial rfl rfl
  · exact FnOk.of_out (Γ := ([] : Cons Tryd.prog G2)) tys_ok mixed Tryd.func46 (n := 100) (orc := []) (cs := []) (by kernel_rfl) trivial rfl rfl
  · exact FnOk.of_out (Γ := ([] : Cons Tryd.prog G2)) tys_ok mixed Tryd.func46 (n := 100) (orc := []) (cs := []) (by kernel_rfl) trivial rfl rfl
  · exact FnOk.of_out (Γ := ([] : Cons Tryd.prog G2)) tys_ok mixed Tryd.func46 (n := 100) (orc := []) (cs := []) (by kernel_rfl) trivial rfl rfl
theorem u64_ids (n : Int) : ((cInt .u64).enc n).ids = [] := rfl
noncomputable def rot64_con : Con Tryd.prog G2 := Con.of 46 Tryd.f46 Tryd.func46 (by kernel_rfl) (by kernel_rfl) (fun
  | [x, y] => match (cInt .u64).dec x, (cInt .i64).dec y with
    | some a, some k => if rots6.elem k then some ((cInt .u64).enc (rotG a k), []) else none
    | _, _ => none
  | _ => none) fun args r c h => by
    split at h <;> try cases h
    split at h <;> try cases h
    rename_i ha hb
    split at h <;> cases h
    rename_i hk
    rw [← (cInt .u64).ok _ _ ha, ← (cInt .i64).ok _ _ hb]
    exact ⟨u64_ids _, fun _ => rot64_fn _ _ (by simpa using hk)⟩

def addD (a b : Int) : Int := IntKind.u64.wrap (a + b)
def xorD (a b : Int) : Int := bits .xor .u64 a b
def andD (a b : Int) : Int := bits .and .u64 a b
def sched6 (x y v7 v16 : Int) : Int := addD (addD (addD (xorD (xorD (rotG x (-19)) (rotG x (-61))) (x.fdiv (2 ^ 6))) v7) (xorD (xorD (rotG y (-1)) (rotG y (-8))) (y.fdiv (2 ^ 7)))) v16
def t1G (s : Nat → Int) (k w : Int) : Int := addD (addD (addD (addD (s 7) (xorD (xorD (rotG (s 4) (-14)) (rotG (s 4) (-18))) (rotG (s 4) (-41)))) (xorD (andD (s 4) (s 5)) (andD (bits .xor .u64 18446744073709551615 (s 4)) (s 6)))) k) w
def t2G (s : Nat → Int) : Int := addD (xorD (xorD (rotG (s 0) (-28)) (rotG (s 0) (-34))) (rotG (s 0) (-39))) (xorD (xorD (andD (s 0) (s 1)) (andD (s 0) (s 2))) (andD (s 1) (s 2)))
def round6 (s : Nat → Int) (k w : Int) : Nat → Int
  | 0 => addD (t1G s k w) (t2G s)
  | 1 => s 0
  | 2 => s 1
  | 3 => s 2
  | 4 => addD (s 3) (t1G s k w)
  | 5 => s 4
  | 6 => s 5
  | _ => s 6

def rowD (h : Nat → Int) : List Atom := [u64 (h 0), u64 (h 1), u64 (h 2), u64 (h 3), u64 (h 4), u64 (h 5), u64 (h 6), u64 (h 7)]
def row80 (x : Nat → Int) : List Atom := [u64 (x 0), u64 (x 1), u64 (x 2), u64 (x 3), u64 (x 4), u64 (x 5), u64 (x 6), u64 (x 7), u64 (x 8), u64 (x 9), u64 (x 10), u64 (x 11), u64 (x 12), u64 (x 13), u64 (x 14), u64 (x 15), u64 (x 16), u64 (x 17), u64 (x 18), u64 (x 19), u64 (x 20), u64 (x 21), u64 (x 22), u64 (x 23), u64 (x 24), u64 (x 25), u64 (x 26), u64 (x 27), u64 (x 28), u64 (x 29), u64 (x 30), u64 (x 31), u64 (x 32), u64 (x 33), u64 (x 34), u64 (x 35), u64 (x 36), u64 (x 37), u64 (x 38), u64 (x 39), u64 (x 40), u64 (x 41), u64 (x 42), u64 (x 43), u64 (x 44), u64 (x 45), u64 (x 46), u64 (x 47), u64 (x 48), u64 (x 49), u64 (x 50), u64 (x 51), u64 (x 52), u64 (x 53), u64 (x 54), u64 (x 55), u64 (x 56), u64 (x 57), u64 (x 58), u64 (x 59), u64 (x 60), u64 (x 61), u64 (x 62), u64 (x 63), u64 (x 64), u64 (x 65), u64 (x 66), u64 (x 67), u64 (x 68), u64 (x 69), u64 (x 70), u64 (x 71), u64 (x 72), u64 (x 73), u64 (x 74), u64 (x 75), u64 (x 76), u64 (x 77), u64 (x 78), u64 (x 79)]
namespace dblk
noncomputable abbrev fn := Tryd.f34
noncomputable def body : Code := bodyOf fn
noncomputable def A0 : Code := cs1 body
noncomputable def P1 : Code := cs1 (cs2 body)
noncomputable def A1 : Code := cs1 P1
noncomputable def L1 : Code := cL (cB (cs2 P1))
noncomputable def Q1 : Code := cs2 (cs2 body)
noncomputable def A6 : Code := cs1 (cs1 Q1)
noncomputable def L2 : Code := cL (cB (cs2 (cs1 Q1)))
noncomputable def Q2 : Code := cs2 Q1
noncomputable def A13 : Code := cs1 Q2
noncomputable def Q3 : Code := cs2 Q2
noncomputable def A14 : Code := cs1 (cs1 Q3)
noncomputable def L3 : Code := cL (cB (cs2 (cs1 Q3)))
noncomputable def A23 : Code := cs1 (cs2 Q3)
noncomputable def L4 : Code := cL (cB (cs2 (cs2 Q3)))
theorem body_eq : body = .seq A0 (.seq (.seq A1 (.block 0 (.loop L1))) (.seq (.seq A6 (.block 2 (.loop L2))) (.seq A13 (.seq (.seq A14 (.block 4 (.loop L3))) (.seq A23 (.block 6 (.loop L4))))))) := by kernel_rfl
noncomputable def Γ : Cons Tryd.prog G2 := [sword_con.lift gs_g2, rot64_con]
def mem (h : Nat → Int) (ys : List Int) (ty : TypeId) (x : Nat → Int) : List Blk := [⟨true, 61, rowD h⟩, ⟨false, ty, .pre .u8 ys⟩, ⟨true, 62, row80 x⟩]
def M0 (n c : Nat)  : List (Option SV) := maskL 203 0 [(0, .o (.a (.ptr 0 0))), (1, .o (.a (.sld 1 0 0 n c))), (4, .o (.a (.ptr 2 0)))]
def M1 (n c : Nat) (t : Nat) : List (Option SV) := maskL 203 0 [(0, .o (.a (.ptr 0 0))), (1, .o (.a (.sld 1 0 0 n c))), (4, .o (.a (.ptr 2 0))), (26, (cInt .i64).enc ((t : Nat) : Int))]
def M2 (t : Nat) : List (Option SV) := maskL 203 0 [(0, .o (.a (.ptr 0 0))), (4, .o (.a (.ptr 2 0))), (6, (cInt .i64).enc ((t : Nat) : Int))]
def Mb  : List (Option SV) := maskL 203 0 [(0, .o (.a (.ptr 0 0))), (4, .o (.a (.ptr 2 0)))]
def M3 (s : Nat → Int) (t : Nat) : List (Option SV) := maskL 203 0 [(0, .o (.a (.ptr 0 0))), (4, .o (.a (.ptr 2 0))), (11, (cInt .u64).enc (s 0)), (12, (cInt .u64).enc (s 1)), (13, (cInt .u64).enc (s 2)), (14, (cInt .u64).enc (s 3)), (15, (cInt .u64).enc (s 4)), (16, (cInt .u64).enc (s 5)), (17, (cInt .u64).enc (s 6)), (18, (cInt .u64).enc (s 7)), (115, (cInt .i64).enc ((t : Nat) : Int))]
def M13 (s : Nat → Int) : List (Option SV) := maskL 203 0 [(0, .o (.a (.ptr 0 0))), (4, .o (.a (.ptr 2 0))), (11, (cInt .u64).enc (s 0)), (12, (cInt .u64).enc (s 1)), (13, (cInt .u64).enc (s 2)), (14, (cInt .u64).enc (s 3)), (15, (cInt .u64).enc (s 4)), (16, (cInt .u64).enc (s 5)), (17, (cInt .u64).enc (s 6)), (18, (cInt .u64).enc (s 7))]
def sumD (h s : Nat → Int) (t i : Nat) : Int := cond (Nat.blt i t) (addD (h i) (s i)) (h i)
def M4 (s : Nat → Int) (t : Nat) : List (Option SV) := maskL 203 0 [(0, .o (.a (.ptr 0 0))), (188, .o (.g [u64 (s 0), u64 (s 1), u64 (s 2), u64 (s 3), u64 (s 4), u64 (s 5), u64 (s 6), u64 (s 7)])), (189, (cInt .i64).enc ((t : Nat) : Int))]
def zero80 (j : Nat) : Int := 0
theorem ids0 (h : Nat → Int) (ys : List Int) (n c : Nat) (ty : TypeId) (x : Nat → Int)  : idsIn (mem h ys ty x).length (M0 n c) (mem h ys ty x) = true := by kernel_rfl
theorem ids1 (h : Nat → Int) (ys : List Int) (n c : Nat) (ty : TypeId) (x : Nat → Int) (t : Nat) : idsIn (mem h ys ty x).length (M1 n c t) (mem h ys ty x) = true := by kernel_rfl
theorem ids2 (h : Nat → Int) (ys : List Int) (n c : Nat) (ty : TypeId) (x : Nat → Int) (t : Nat) : idsIn (mem h ys ty x).length (M2 t) (mem h ys ty x) = true := by kernel_rfl
theorem idsb (h : Nat → Int) (ys : List Int) (n c : Nat) (ty : TypeId) (x : Nat → Int)  : idsIn (mem h ys ty x).length (Mb) (mem h ys ty x) = true := by kernel_rfl
theorem ids3 (h : Nat → Int) (ys : List Int) (n c : Nat) (ty : TypeId) (x : Nat → Int) (s : Nat → Int) (t : Nat) : idsIn (mem h ys ty x).length (M3 s t) (mem h ys ty x) = true := by kernel_rfl
theorem ids13 (h : Nat → Int) (ys : List Int) (n c : Nat) (ty : TypeId) (x : Nat → Int) (s : Nat → Int) : idsIn (mem h ys ty x).length (M13 s) (mem h ys ty x) = true := by kernel_rfl
theorem ids4 (h : Nat → Int) (ys : List Int) (n c : Nat) (ty : TypeId) (x : Nat → Int) (s : Nat → Int) (t : Nat) : idsIn (mem (sumD h s t) ys ty x).length (M4 s t) (mem (sumD h s t) ys ty x) = true := by kernel_rfl
noncomputable def t0 (n c : Nat) : List SV := startT fn [.o (.a (.ptr 0 0)), .o (.a (.sld 1 0 0 n c))]
theorem pre0 (h : Nat → Int) (ys : List Int) (n c : Nat) (ty : TypeId) (x : Nat → Int) : outX (mem h ys ty zero80).length (M0 n c) (exec Γ tys 100 A0 ⟨t0 n c, [⟨true, 61, rowD h⟩, ⟨false, ty, .pre .u8 ys⟩], []⟩) = some (.normal, live (M0 n c), (M0 n c).length, mem h ys ty zero80, []) := by kernel_rfl
theorem pre1 (h : Nat → Int) (ys : List Int) (n c : Nat) (ty : TypeId) (x : Nat → Int) (g : Nat → SV) : outX (mem h ys ty x).length (M1 n c 0) (exec Γ tys 100 A1 ⟨fill g 0 (M0 n c), mem h ys ty x, []⟩) = some (.normal, live (M1 n c 0), (M1 n c 0).length, mem h ys ty x, []) := by kernel_rfl
theorem step1 (h : Nat → Int) (ys : List Int) (n c : Nat) (ty : TypeId) (x : Nat → Int) (t : Nat) (v : Int) (g : Nat → SV) : outX (mem h ys ty (putF (0 + t) [v] x)).length (M1 n c (t + 1)) (exec Γ tys 100 L1 ⟨fill g 0 (M1 n c t), mem h ys ty x, [(27, [.b true]), (32, [.n ((8 * t : Nat) : Int)]), (35, [.n ((8 * t + 8 : Nat) : Int)]), (36, [.ds (.o (.a (.sld 1 0 (8 * t) 8 (c - 8 * t))))]), (37, [.n v]), (38, [.dyn]), (39, [.n ((t + 1 : Nat) : Int)])]⟩) = some (.normal, live (M1 n c (t + 1)), (M1 n c (t + 1)).length, mem h ys ty (putF (0 + t) [v] x), [decide ((t : Int) < 16) = true, IntKind.i64.wrap (8 * (t : Int)) = ((8 * t : Nat) : Int), IntKind.i64.wrap (IntKind.i64.wrap (8 * (t : Int)) + 8) = ((8 * t + 8 : Nat) : Int), 0 ≤ ((8 * t : Nat) : Int), ((8 * t : Nat) : Int) ≤ ((8 * t + 8 : Nat) : Int), ((8 * t + 8 : Nat) : Int) ≤ (c : Int), SV.o (.a (.sld 1 0 (advO c (8 * t) 0) (8 * t + 8 - 8 * t) (c - 8 * t))) = (.o (.a (.sld 1 0 (8 * t) 8 (c - 8 * t)))), 8 * t + 8 ≤ ys.length, (((ys.drop (8 * t)).take 8).length : Int) < 9223372036854775807, wordV ((ys.drop (8 * t)).take 8) = v, 0 ≤ (t : Int), (t : Int) < ((80 : Nat) : Int), 0 + t + 1 ≤ (restL x 0 80).length, IntKind.i64.wrap ((t : Int) + 1) = ((t + 1 : Nat) : Int)]) := by kernel_rfl
theorem end1 (h : Nat → Int) (ys : List Int) (n c : Nat) (ty : TypeId) (x : Nat → Int) (t : Nat) (g : Nat → SV) : outX (mem h ys ty x).length (Mb) (exec Γ tys 100 L1 ⟨fill g 0 (M1 n c t), mem h ys ty x, [(27, [.b false])]⟩) = some (.exit 0, live (Mb), (Mb).length, mem h ys ty x, [decide ((t : Int) < 16) = false]) := by kernel_rfl
theorem pre2 (h : Nat → Int) (ys : List Int) (n c : Nat) (ty : TypeId) (x : Nat → Int) (g : Nat → SV) : outX (mem h ys ty x).length (M2 16) (exec Γ tys 100 A6 ⟨fill g 0 (Mb), mem h ys ty x, []⟩) = some (.normal, live (M2 16), (M2 16).length, mem h ys ty x, []) := by kernel_rfl
theorem step2 (h : Nat → Int) (ys : List Int) (n c : Nat) (ty : TypeId) (x : Nat → Int) (t : Nat) (a b e d v : Int) (g : Nat → SV) : outX (mem h ys ty (putF (0 + (t + 16)) [v] x)).length (M2 (t + 17)) (exec Γ tys 100 L2 ⟨fill g 0 (M2 (t + 16)), mem h ys ty x, [(41, [.b true]), (45, [.n ((t + 14 : Nat) : Int)]), (46, [.dyn]), (47, [.n a]), (49, [.n ((t + 1 : Nat) : Int)]), (50, [.dyn]), (51, [.n b]), (71, [.n ((t + 9 : Nat) : Int)]), (72, [.dyn]), (73, [.n e]), (78, [.n ((t : Nat) : Int)]), (79, [.dyn]), (80, [.n d]), (81, [.n v]), (82, [.dyn]), (43, [.n ((t + 17 : Nat) : Int)])]⟩) = some (.normal, live (M2 (t + 17)), (M2 (t + 17)).length, mem h ys ty (putF (0 + (t + 16)) [v] x), [decide (((t + 16 : Nat) : Int) < 80) = true, IntKind.i64.wrap (((t + 16 : Nat) : Int) - 2) = ((t + 14 : Nat) : Int), 0 ≤ ((t + 14 : Nat) : Int), ((t + 14 : Nat) : Int) < ((80 : Nat) : Int), 0 + (t + 14) < (restL x 0 80).length, (restL x 0 80).getD (0 + (t + 14)) 0 = a, IntKind.i64.wrap (((t + 16 : Nat) : Int) - 15) = ((t + 1 : Nat) : Int), 0 ≤ ((t + 1 : Nat) : Int), ((t + 1 : Nat) : Int) < ((80 : Nat) : Int), 0 + (t + 1) < (restL x 0 80).length, (restL x 0 80).getD (0 + (t + 1)) 0 = b, IntKind.i64.wrap (((t + 16 : Nat) : Int) - 7) = ((t + 9 : Nat) : Int), 0 ≤ ((t + 9 : Nat) : Int), ((t + 9 : Nat) : Int) < ((80 : Nat) : Int), 0 + (t + 9) < (restL x 0 80).length, (restL x 0 80).getD (0 + (t + 9)) 0 = e, IntKind.i64.wrap (((t + 16 : Nat) : Int) - 16) = ((t : Nat) : Int), 0 ≤ ((t : Nat) : Int), ((t : Nat) : Int) < ((80 : Nat) : Int), 0 + (t) < (restL x 0 80).length, (restL x 0 80).getD (0 + (t)) 0 = d, sched6 a b e d = v, 0 ≤ ((t + 16 : Nat) : Int), ((t + 16 : Nat) : Int) < ((80 : Nat) : Int), 0 + (t + 16) + 1 ≤ (restL x 0 80).length, IntKind.i64.wrap (((t + 16 : Nat) : Int) + 1) = ((t + 17 : Nat) : Int)]) := by kernel_rfl
theorem end2 (h : Nat → Int) (ys : List Int) (n c : Nat) (ty : TypeId) (x : Nat → Int) (t : Nat) (g : Nat → SV) : outX (mem h ys ty x).length (Mb) (exec Γ tys 100 L2 ⟨fill g 0 (M2 t), mem h ys ty x, [(41, [.b false])]⟩) = some (.exit 2, live (Mb), (Mb).length, mem h ys ty x, [decide ((t : Int) < 80) = false]) := by kernel_rfl
theorem pre3 (h : Nat → Int) (ys : List Int) (n c : Nat) (ty : TypeId) (x : Nat → Int) (g : Nat → SV) : outX (mem h ys ty x).length (M13 h) (exec Γ tys 100 A13 ⟨fill g 0 (Mb), mem h ys ty x, []⟩) = some (.normal, live (M13 h), (M13 h).length, mem h ys ty x, []) := by kernel_rfl
theorem pre4 (h : Nat → Int) (ys : List Int) (n c : Nat) (ty : TypeId) (x : Nat → Int) (s : Nat → Int) (g : Nat → SV) : outX (mem h ys ty x).length (M3 s 0) (exec Γ tys 100 A14 ⟨fill g 0 (M13 s), mem h ys ty x, []⟩) = some (.normal, live (M3 s 0), (M3 s 0).length, mem h ys ty x, []) := by kernel_rfl
theorem step3 (h : Nat → Int) (ys : List Int) (n c : Nat) (ty : TypeId) (x : Nat → Int) (s : Nat → Int) (t : Nat) (k w : Int) (g : Nat → SV) : outX (mem h ys ty x).length (M3 (round6 s k w) (t + 1)) (exec Γ tys 100 L3 ⟨fill g 0 (M3 s t), mem h ys ty x, [(116, [.b true]), (139, [.dyn]), (140, [.n k]), (143, [.dyn]), (144, [.n w]), (179, [.n ((t + 1 : Nat) : Int)])]⟩) = some (.normal, live (M3 (round6 s k w) (t + 1)), (M3 (round6 s k w) (t + 1)).length, mem h ys ty x, [decide ((t : Int) < 80) = true, 0 ≤ (t : Int), (t : Int) < ((80 : Nat) : Int), 0 + t < k512L.length, k512L.getD (0 + t) 0 = k, 0 ≤ ((t : Nat) : Int), ((t : Nat) : Int) < ((80 : Nat) : Int), 0 + (t) < (restL x 0 80).length, (restL x 0 80).getD (0 + (t)) 0 = w, IntKind.i64.wrap ((t : Int) + 1) = ((t + 1 : Nat) : Int)]) := by kernel_rfl
theorem end3 (h : Nat → Int) (ys : List Int) (n c : Nat) (ty : TypeId) (x : Nat → Int) (s : Nat → Int) (t : Nat) (g : Nat → SV) : outX (mem h ys ty x).length (M13 s) (exec Γ tys 100 L3 ⟨fill g 0 (M3 s t), mem h ys ty x, [(116, [.b false])]⟩) = some (.exit 4, live (M13 s), (M13 s).length, mem h ys ty x, [decide ((t : Int) < 80) = false]) := by kernel_rfl
theorem pre5 (h : Nat → Int) (ys : List Int) (n c : Nat) (ty : TypeId) (x : Nat → Int) (s : Nat → Int) (g : Nat → SV) : outX (mem (sumD h s 0) ys ty x).length (M4 s 0) (exec Γ tys 100 A23 ⟨fill g 0 (M13 s), mem h ys ty x, []⟩) = some (.normal, live (M4 s 0), (M4 s 0).length, mem (sumD h s 0) ys ty x, []) := by kernel_rfl
theorem tab4 (h : Nat → Int) (ys : List Int) (n c : Nat) (ty : TypeId) (x : Nat → Int) (s : Nat → Int) (g : Nat → SV) : tabL (fun t => outX (mem (sumD h s (t + 1)) ys ty x).length (M4 s (t + 1)) (exec Γ tys 100 L4 ⟨fill g 0 (M4 s t), mem (sumD h s t) ys ty x, []⟩)) 8 = tabR (fun t => some (.normal, live (M4 s (t + 1)), (M4 s (t + 1)).length, mem (sumD h s (t + 1)) ys ty x, [])) 8 := by kernel_rfl
theorem end4 (h : Nat → Int) (ys : List Int) (n c : Nat) (ty : TypeId) (x : Nat → Int) (s : Nat → Int) (g : Nat → SV) : outX (mem (sumD h s 8) ys ty x).length (M4 s 8) (exec Γ tys 100 L4 ⟨fill g 0 (M4 s 8), mem (sumD h s 8) ys ty x, []⟩) = some (.exit 6, live (M4 s 8), (M4 s 8).length, mem (sumD h s 8) ys ty x, []) := by kernel_rfl
end dblk
end Go.Proofs.YtpmdelihcdaffaaDoor

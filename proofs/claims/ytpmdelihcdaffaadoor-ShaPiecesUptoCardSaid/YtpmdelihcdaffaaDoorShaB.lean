/- Package sha2: rotations, and one block of SHA-256. -/
import Derived.Test.YtpmdelihcdaffaaDoorShaA
namespace Go.Proofs.YtpmdelihcdaffaaDoor
open Go Go.Eng
set_option linter.unusedVariables false
set_option maxRecDepth 100000

def rotL (n : Int) : Nat := (n % 32).toNat
def rotF (a k : Int) : Int := bits .or .u32 (IntKind.u32.wrap (a * 2 ^ rotL k)) (a.fdiv (2 ^ (32 - rotL k)))
def rots : List Int := [-17, -19, -7, -18, -6, -11, -25, -2, -13, -22]
theorem rot32_fn (a k : Int) (h : k ∈ rots) : FnOk Tryd.prog Gs 45 [(cInt .u32).enc a, (cInt .i64).enc k] ((cInt .u32).enc (rotF a k)) := by
  unfold rots at h
  simp only [List.mem_cons, List.not_mem_nil, or_false] at h
  rcases h with rfl | rfl | rfl | rfl | rfl | rfl | rfl | rfl | rfl | rfl
  · exact FnOk.of_out (Γ := ([] : Cons Tryd.prog Gs)) tys_ok mixed Tryd.func45 (n := 100) (orc := []) (cs := []) (by kernel_rfl) trivial rfl rfl
  · exact FnOk.of_out (Γ := ([] : Cons Tryd.prog Gs)) tys_ok mixed Tryd.func45 (n := 100) (orc := []) (cs := []) (by kernel_rfl) trivial rfl rfl
  · exact FnOk.of_out (Γ := ([] : Cons Tryd.prog Gs)) tys_ok mixed Tryd.func45 (n := 100) (orc := []) (cs := []) (by kernel_rfl) trivial rfl rfl
  · exact FnOk.of_out (Γ := ([] : Cons Tryd.prog Gs)) tys_ok mixed Tryd.func45 (n := 100) (orc := []) (cs := []) (by kernel_rfl) trivial rfl rfl
  · exact FnOk.of_out (Γ := ([] : Cons Tryd.prog Gs)) tys_ok mixed Tryd.func45 (n := 100) (orc := []) (cs := []) (by kernel_rfl) trivial rfl rfl
  · exact FnOk.of_out (Γ := ([] : Cons Tryd.prog Gs)) tys_ok mixed Tryd.func45 (n := 100) (orc := []) (cs := []) (by kernel_rfl) trivial rfl rfl
  · exact FnOk.of_out (Γ := ([] : Cons Tryd.prog Gs)) tys_ok mixed Tryd.func45 (n := 100) (orc := []) (cs := []) (by kernel_rfl) trivial rfl rfl
  · exact FnOk.of_out (Γ := ([] : Cons Tryd.prog Gs)) tys_ok mixed Tryd.func45 (n := 100) (orc := []) (cs := []) (by kernel_rfl) trivial rfl rfl
  · exact FnOk.of_out (Γ := ([] : Cons Tryd.prog Gs)) tys_ok mixed Tryd.func45 (n := 100) (orc := []) (cs := []) (by kernel_rfl) trivial rfl rfl
  · exact FnOk.of_out (Γ := ([] : Cons Tryd.prog Gs)) tys_ok mixed Tryd.func45 (n := 100) (orc := []) (cs := []) (by kernel_rfl) trivial rfl rfl
theorem u32_ids (n : Int) : ((cInt .u32).enc n).ids = [] := rfl
noncomputable def rot32_con : Con Tryd.prog Gs := Con.of 45 Tryd.f45 Tryd.func45 (by kernel_rfl) (by kernel_rfl) (fun
  | [x, y] => match (cInt .u32).dec x, (cInt .i64).dec y with
    | some a, some k => if rots.elem k then some ((cInt .u32).enc (rotF a k), []) else none
    | _, _ => none
  | _ => none) fun args r c h => by
    split at h <;> try cases h
    split at h <;> try cases h
    rename_i ha hb
    split at h <;> cases h
    rename_i hk
    rw [← (cInt .u32).ok _ _ ha, ← (cInt .i64).ok _ _ hb]
    exact ⟨u32_ids _, fun _ => rot32_fn _ _ (by simpa using hk)⟩

def addW (a b : Int) : Int := IntKind.u32.wrap (a + b)
def xorW (a b : Int) : Int := bits .xor .u32 a b
def andW (a b : Int) : Int := bits .and .u32 a b
def schedF (x y v7 v16 : Int) : Int := addW (addW (addW (xorW (xorW (rotF x (-17)) (rotF x (-19))) (x.fdiv (2 ^ 10))) v7) (xorW (xorW (rotF y (-7)) (rotF y (-18))) (y.fdiv (2 ^ 3)))) v16
def t1F (s : Nat → Int) (k w : Int) : Int := addW (addW (addW (addW (s 7) (xorW (xorW (rotF (s 4) (-6)) (rotF (s 4) (-11))) (rotF (s 4) (-25)))) (xorW (andW (s 4) (s 5)) (andW (bits .xor .u32 4294967295 (s 4)) (s 6)))) k) w
def t2F (s : Nat → Int) : Int := addW (xorW (xorW (rotF (s 0) (-2)) (rotF (s 0) (-13))) (rotF (s 0) (-22))) (xorW (xorW (andW (s 0) (s 1)) (andW (s 0) (s 2))) (andW (s 1) (s 2)))
def roundF (s : Nat → Int) (k w : Int) : Nat → Int
  | 0 => addW (t1F s k w) (t2F s)
  | 1 => s 0
  | 2 => s 1
  | 3 => s 2
  | 4 => addW (s 3) (t1F s k w)
  | 5 => s 4
  | 6 => s 5
  | _ => s 6
def u32 (n : Int) : Atom := int1 .u32 n

def hashRow (h R : Nat → Int) (n : Int) : List Atom := [u32 (h 0), u32 (h 1), u32 (h 2), u32 (h 3), u32 (h 4), u32 (h 5), u32 (h 6), u32 (h 7), u8 (R 0), u8 (R 1), u8 (R 2), u8 (R 3), u8 (R 4), u8 (R 5), u8 (R 6), u8 (R 7), u8 (R 8), u8 (R 9), u8 (R 10), u8 (R 11), u8 (R 12), u8 (R 13), u8 (R 14), u8 (R 15), u8 (R 16), u8 (R 17), u8 (R 18), u8 (R 19), u8 (R 20), u8 (R 21), u8 (R 22), u8 (R 23), u8 (R 24), u8 (R 25), u8 (R 26), u8 (R 27), u8 (R 28), u8 (R 29), u8 (R 30), u8 (R 31), u8 (R 32), u8 (R 33), u8 (R 34), u8 (R 35), u8 (R 36), u8 (R 37), u8 (R 38), u8 (R 39), u8 (R 40), u8 (R 41), u8 (R 42), u8 (R 43), u8 (R 44), u8 (R 45), u8 (R 46), u8 (R 47), u8 (R 48), u8 (R 49), u8 (R 50), u8 (R 51), u8 (R 52), u8 (R 53), u8 (R 54), u8 (R 55), u8 (R 56), u8 (R 57), u8 (R 58), u8 (R 59), u8 (R 60), u8 (R 61), u8 (R 62), u8 (R 63), u64 n]
def rowX (x : Nat → Int) : List Atom := [u32 (x 0), u32 (x 1), u32 (x 2), u32 (x 3), u32 (x 4), u32 (x 5), u32 (x 6), u32 (x 7), u32 (x 8), u32 (x 9), u32 (x 10), u32 (x 11), u32 (x 12), u32 (x 13), u32 (x 14), u32 (x 15), u32 (x 16), u32 (x 17), u32 (x 18), u32 (x 19), u32 (x 20), u32 (x 21), u32 (x 22), u32 (x 23), u32 (x 24), u32 (x 25), u32 (x 26), u32 (x 27), u32 (x 28), u32 (x 29), u32 (x 30), u32 (x 31), u32 (x 32), u32 (x 33), u32 (x 34), u32 (x 35), u32 (x 36), u32 (x 37), u32 (x 38), u32 (x 39), u32 (x 40), u32 (x 41), u32 (x 42), u32 (x 43), u32 (x 44), u32 (x 45), u32 (x 46), u32 (x 47), u32 (x 48), u32 (x 49), u32 (x 50), u32 (x 51), u32 (x 52), u32 (x 53), u32 (x 54), u32 (x 55), u32 (x 56), u32 (x 57), u32 (x 58), u32 (x 59), u32 (x 60), u32 (x 61), u32 (x 62), u32 (x 63)]
/-- Bytes laid over a row. -/
def putF (o : Nat) (ys : List Int) (R : Nat → Int) (j : Nat) : Int := cond (Nat.ble o j && Nat.blt (j - o) ys.length) (ys.getD (j - o) 0) (R j)
def restL (R : Nat → Int) : Nat → Nat → List Int
  | _, 0 => []
  | j, k + 1 => R j :: restL R (j + 1) k
namespace sblk
noncomputable abbrev fn := Tryd.f29
noncomputable def body : Code := bodyOf fn
noncomputable def A0 : Code := cs1 body
noncomputable def P1 : Code := cs1 (cs2 body)
noncomputable def A1 : Code := cs1 P1
noncomputable def L1 : Code := cL (cB (cs2 P1))
noncomputable def Q1 : Code := cs2 (cs2 body)
noncomputable def A6 : Code := cs1 (cs1 Q1)
noncomputable def L2 : Code := cL (cB (cs2 (cs1 Q1)))
noncomputable def Q2 : Code := cs2 Q1
noncomputable def A13 : Code := cs1 Q2
noncomputable def Q3 : Code := cs2 Q2
noncomputable def A14 : Code := cs1 (cs1 Q3)
noncomputable def L3 : Code := cL (cB (cs2 (cs1 Q3)))
noncomputable def A23 : Code := cs1 (cs2 Q3)
noncomputable def L4 : Code := cL (cB (cs2 (cs2 Q3)))
theorem body_eq : body = .seq A0 (.seq (.seq A1 (.block 0 (.loop L1))) (.seq (.seq A6 (.block 2 (.loop L2))) (.seq A13 (.seq (.seq A14 (.block 4 (.loop L3))) (.seq A23 (.block 6 (.loop L4))))))) := by kernel_rfl
noncomputable def Γ : Cons Tryd.prog Gs := [sword_con, rot32_con]
def mem (h R : Nat → Int) (n : Int) (x : Nat → Int) : List Blk := [⟨true, 51, hashRow h R n⟩, ⟨true, 53, rowX x⟩]
def M0  : List (Option SV) := maskL 204 0 [(0, .o (.a (.ptr 0 0))), (1, .o (.a (.slc 0 8 64 64))), (4, .o (.a (.ptr 1 0)))]
def M1 (t : Nat) : List (Option SV) := maskL 204 0 [(0, .o (.a (.ptr 0 0))), (1, .o (.a (.slc 0 8 64 64))), (4, .o (.a (.ptr 1 0))), (26, (cInt .i64).enc ((t : Nat) : Int))]
def M2 (t : Nat) : List (Option SV) := maskL 204 0 [(0, .o (.a (.ptr 0 0))), (1, .o (.a (.slc 0 8 64 64))), (4, .o (.a (.ptr 1 0))), (6, (cInt .i64).enc ((t : Nat) : Int))]
def M3 (s : Nat → Int) (t : Nat) : List (Option SV) := maskL 204 0 [(0, .o (.a (.ptr 0 0))), (4, .o (.a (.ptr 1 0))), (11, (cInt .u32).enc (s 0)), (12, (cInt .u32).enc (s 1)), (13, (cInt .u32).enc (s 2)), (14, (cInt .u32).enc (s 3)), (15, (cInt .u32).enc (s 4)), (16, (cInt .u32).enc (s 5)), (17, (cInt .u32).enc (s 6)), (18, (cInt .u32).enc (s 7)), (116, (cInt .i64).enc ((t : Nat) : Int))]
def M13 (s : Nat → Int) : List (Option SV) := maskL 204 0 [(0, .o (.a (.ptr 0 0))), (4, .o (.a (.ptr 1 0))), (11, (cInt .u32).enc (s 0)), (12, (cInt .u32).enc (s 1)), (13, (cInt .u32).enc (s 2)), (14, (cInt .u32).enc (s 3)), (15, (cInt .u32).enc (s 4)), (16, (cInt .u32).enc (s 5)), (17, (cInt .u32).enc (s 6)), (18, (cInt .u32).enc (s 7))]
def sumH (h s : Nat → Int) (t i : Nat) : Int := cond (Nat.blt i t) (addW (h i) (s i)) (h i)
def M4 (s : Nat → Int) (t : Nat) : List (Option SV) := maskL 204 0 [(0, .o (.a (.ptr 0 0))), (189, .o (.g [u32 (s 0), u32 (s 1), u32 (s 2), u32 (s 3), u32 (s 4), u32 (s 5), u32 (s 6), u32 (s 7)])), (190, (cInt .i64).enc ((t : Nat) : Int))]
def zero64 (j : Nat) : Int := 0
theorem ids0 (h R : Nat → Int) (n : Int) (x : Nat → Int) : idsIn (mem h R n x).length M0 (mem h R n x) = true := by kernel_rfl
theorem ids1 (h R : Nat → Int) (n : Int) (x : Nat → Int) (t : Nat) : idsIn (mem h R n x).length (M1 t) (mem h R n x) = true := by kernel_rfl
theorem ids2 (h R : Nat → Int) (n : Int) (x : Nat → Int) (t : Nat) : idsIn (mem h R n x).length (M2 t) (mem h R n x) = true := by kernel_rfl
theorem ids3 (h R : Nat → Int) (n : Int) (x : Nat → Int) (s : Nat → Int) (t : Nat) : idsIn (mem h R n x).length (M3 s t) (mem h R n x) = true := by kernel_rfl
theorem ids13 (h R : Nat → Int) (n : Int) (x : Nat → Int) (s : Nat → Int) : idsIn (mem h R n x).length (M13 s) (mem h R n x) = true := by kernel_rfl
theorem ids4 (h R : Nat → Int) (n : Int) (x : Nat → Int) (s : Nat → Int) (t : Nat) : idsIn (mem (sumH h s t) R n x).length (M4 s t) (mem (sumH h s t) R n x) = true := by kernel_rfl
noncomputable def t0 : List SV := startT fn [.o (.a (.ptr 0 0)), .o (.a (.slc 0 8 64 64))]
theorem pre0 (h R : Nat → Int) (n : Int) (x : Nat → Int) : outX (mem h R n zero64).length (M0) (exec Γ tys 100 A0 ⟨t0, [⟨true, 51, hashRow h R n⟩], []⟩) = some (.normal, live (M0), (M0).length, mem h R n zero64, []) := by kernel_rfl
theorem pre1 (h R : Nat → Int) (n : Int) (x : Nat → Int) (g : Nat → SV) : outX (mem h R n x).length (M1 0) (exec Γ tys 100 A1 ⟨fill g 0 (M0), mem h R n x, []⟩) = some (.normal, live (M1 0), (M1 0).length, mem h R n x, []) := by kernel_rfl
theorem step1 (h R : Nat → Int) (n : Int) (x : Nat → Int) (t : Nat) (v : Int) (g : Nat → SV) : outX (mem h R n (putF (0 + t) [v] x)).length (M1 (t + 1)) (exec Γ tys 100 L1 ⟨fill g 0 (M1 t), mem h R n x, [(27, [.b true]), (32, [.n ((4 * t : Nat) : Int)]), (35, [.n ((4 * t + 4 : Nat) : Int)]), (36, [.ds (.o (.a (.sld 0 8 (4 * t) 4 (64 - 4 * t))))]), (38, [.n v]), (39, [.dyn]), (40, [.n ((t + 1 : Nat) : Int)])]⟩) = some (.normal, live (M1 (t + 1)), (M1 (t + 1)).length, mem h R n (putF (0 + t) [v] x), [decide ((t : Int) < 16) = true, IntKind.i64.wrap (4 * (t : Int)) = ((4 * t : Nat) : Int), IntKind.i64.wrap (IntKind.i64.wrap (4 * (t : Int)) + 4) = ((4 * t + 4 : Nat) : Int), 0 ≤ ((4 * t : Nat) : Int), ((4 * t : Nat) : Int) ≤ ((4 * t + 4 : Nat) : Int), ((4 * t + 4 : Nat) : Int) ≤ ((64 : Nat) : Int), SV.o (.a (.sld 0 8 (advO 64 (4 * t) 0) (4 * t + 4 - 4 * t) (64 - 4 * t))) = (.o (.a (.sld 0 8 (4 * t) 4 (64 - 4 * t)))), 4 * t + 4 ≤ (restL R 0 64).length, ((((restL R 0 64).drop (4 * t)).take 4).length : Int) < 9223372036854775807, IntKind.u32.wrap (wordV (((restL R 0 64).drop (4 * t)).take 4)) = v, 0 ≤ (t : Int), (t : Int) < ((64 : Nat) : Int), 0 + t + 1 ≤ (restL x 0 64).length, IntKind.i64.wrap ((t : Int) + 1) = ((t + 1 : Nat) : Int)]) := by kernel_rfl
theorem end1 (h R : Nat → Int) (n : Int) (x : Nat → Int) (t : Nat) (g : Nat → SV) : outX (mem h R n x).length (M0) (exec Γ tys 100 L1 ⟨fill g 0 (M1 t), mem h R n x, [(27, [.b false])]⟩) = some (.exit 0, live (M0), (M0).length, mem h R n x, [decide ((t : Int) < 16) = false]) := by kernel_rfl
theorem pre2 (h R : Nat → Int) (n : Int) (x : Nat → Int) (g : Nat → SV) : outX (mem h R n x).length (M2 16) (exec Γ tys 100 A6 ⟨fill g 0 (M0), mem h R n x, []⟩) = some (.normal, live (M2 16), (M2 16).length, mem h R n x, []) := by kernel_rfl
theorem step2 (h R : Nat → Int) (n : Int) (x : Nat → Int) (t : Nat) (a b c d v : Int) (g : Nat → SV) : outX (mem h R n (putF (0 + (t + 16)) [v] x)).length (M2 (t + 17)) (exec Γ tys 100 L2 ⟨fill g 0 (M2 (t + 16)), mem h R n x, [(42, [.b true]), (46, [.n ((t + 14 : Nat) : Int)]), (47, [.dyn]), (48, [.n a]), (50, [.n ((t + 1 : Nat) : Int)]), (51, [.dyn]), (52, [.n b]), (72, [.n ((t + 9 : Nat) : Int)]), (73, [.dyn]), (74, [.n c]), (79, [.n ((t : Nat) : Int)]), (80, [.dyn]), (81, [.n d]), (82, [.n v]), (83, [.dyn]), (44, [.n ((t + 17 : Nat) : Int)])]⟩) = some (.normal, live (M2 (t + 17)), (M2 (t + 17)).length, mem h R n (putF (0 + (t + 16)) [v] x), [decide (((t + 16 : Nat) : Int) < 64) = true, IntKind.i64.wrap (((t + 16 : Nat) : Int) - 2) = ((t + 14 : Nat) : Int), 0 ≤ ((t + 14 : Nat) : Int), ((t + 14 : Nat) : Int) < ((64 : Nat) : Int), 0 + (t + 14) < (restL x 0 64).length, (restL x 0 64).getD (0 + (t + 14)) 0 = a, IntKind.i64.wrap (((t + 16 : Nat) : Int) - 15) = ((t + 1 : Nat) : Int), 0 ≤ ((t + 1 : Nat) : Int), ((t + 1 : Nat) : Int) < ((64 : Nat) : Int), 0 + (t + 1) < (restL x 0 64).length, (restL x 0 64).getD (0 + (t + 1)) 0 = b, IntKind.i64.wrap (((t + 16 : Nat) : Int) - 7) = ((t + 9 : Nat) : Int), 0 ≤ ((t + 9 : Nat) : Int), ((t + 9 : Nat) : Int) < ((64 : Nat) : Int), 0 + (t + 9) < (restL x 0 64).length, (restL x 0 64).getD (0 + (t + 9)) 0 = c, IntKind.i64.wrap (((t + 16 : Nat) : Int) - 16) = ((t : Nat) : Int), 0 ≤ ((t : Nat) : Int), ((t : Nat) : Int) < ((64 : Nat) : Int), 0 + (t) < (restL x 0 64).length, (restL x 0 64).getD (0 + (t)) 0 = d, schedF a b c d = v, 0 ≤ ((t + 16 : Nat) : Int), ((t + 16 : Nat) : Int) < ((64 : Nat) : Int), 0 + (t + 16) + 1 ≤ (restL x 0 64).length, IntKind.i64.wrap (((t + 16 : Nat) : Int) + 1) = ((t + 17 : Nat) : Int)]) := by kernel_rfl
theorem end2 (h R : Nat → Int) (n : Int) (x : Nat → Int) (t : Nat) (g : Nat → SV) : outX (mem h R n x).length (M0) (exec Γ tys 100 L2 ⟨fill g 0 (M2 t), mem h R n x, [(42, [.b false])]⟩) = some (.exit 2, live (M0), (M0).length, mem h R n x, [decide ((t : Int) < 64) = false]) := by kernel_rfl
theorem pre3 (h R : Nat → Int) (n : Int) (x : Nat → Int) (g : Nat → SV) : outX (mem h R n x).length (M13 h) (exec Γ tys 100 A13 ⟨fill g 0 (M0), mem h R n x, []⟩) = some (.normal, live (M13 h), (M13 h).length, mem h R n x, []) := by kernel_rfl
theorem pre4 (h R : Nat → Int) (n : Int) (x : Nat → Int) (s : Nat → Int) (g : Nat → SV) : outX (mem h R n x).length (M3 s 0) (exec Γ tys 100 A14 ⟨fill g 0 (M13 s), mem h R n x, []⟩) = some (.normal, live (M3 s 0), (M3 s 0).length, mem h R n x, []) := by kernel_rfl
theorem step3 (h R : Nat → Int) (n : Int) (x : Nat → Int) (s : Nat → Int) (t : Nat) (k w : Int) (g : Nat → SV) : outX (mem h R n x).length (M3 (roundF s k w) (t + 1)) (exec Γ tys 100 L3 ⟨fill g 0 (M3 s t), mem h R n x, [(117, [.b true]), (140, [.dyn]), (141, [.n k]), (144, [.dyn]), (145, [.n w]), (180, [.n ((t + 1 : Nat) : Int)])]⟩) = some (.normal, live (M3 (roundF s k w) (t + 1)), (M3 (roundF s k w) (t + 1)).length, mem h R n x, [decide ((t : Int) < 64) = true, 0 ≤ (t : Int), (t : Int) < ((64 : Nat) : Int), 0 + t < k256L.length, k256L.getD (0 + t) 0 = k, 0 ≤ ((t : Nat) : Int), ((t : Nat) : Int) < ((64 : Nat) : Int), 0 + (t) < (restL x 0 64).length, (restL x 0 64).getD (0 + (t)) 0 = w, IntKind.i64.wrap ((t : Int) + 1) = ((t + 1 : Nat) : Int)]) := by kernel_rfl
theorem end3 (h R : Nat → Int) (n : Int) (x : Nat → Int) (s : Nat → Int) (t : Nat) (g : Nat → SV) : outX (mem h R n x).length (M13 s) (exec Γ tys 100 L3 ⟨fill g 0 (M3 s t), mem h R n x, [(117, [.b false])]⟩) = some (.exit 4, live (M13 s), (M13 s).length, mem h R n x, [decide ((t : Int) < 64) = false]) := by kernel_rfl
theorem pre5 (h R : Nat → Int) (n : Int) (x : Nat → Int) (s : Nat → Int) (g : Nat → SV) : outX (mem (sumH h s 0) R n x).length (M4 s 0) (exec Γ tys 100 A23 ⟨fill g 0 (M13 s), mem h R n x, []⟩) = some (.normal, live (M4 s 0), (M4 s 0).length, mem (sumH h s 0) R n x, []) := by kernel_rfl
theorem tab4 (h R : Nat → Int) (n : Int) (x : Nat → Int) (s : Nat → Int) (g : Nat → SV) : tabL (fun t => outX (mem (sumH h s (t + 1)) R n x).length (M4 s (t + 1)) (exec Γ tys 100 L4 ⟨fill g 0 (M4 s t), mem (sumH h s t) R n x, []⟩)) 8 = tabR (fun t => some (.normal, live (M4 s (t + 1)), (M4 s (t + 1)).length, mem (sumH h s (t + 1)) R n x, [])) 8 := by kernel_rfl
theorem end4 (h R : Nat → Int) (n : Int) (x : Nat → Int) (s : Nat → Int) (g : Nat → SV) : outX (mem (sumH h s 8) R n x).length (M4 s 8) (exec Γ tys 100 L4 ⟨fill g 0 (M4 s 8), mem (sumH h s 8) R n x, []⟩) = some (.exit 6, live (M4 s 8), (M4 s 8).length, mem (sumH h s 8) R n x, []) := by kernel_rfl
end sblk
end Go.Proofs.YtpmdelihcdaffaaDoor

/- Packages tree, wire, beaconref11, beaconref07: leaves' nodes, nodes as bytes: walks. -/
import Derived.Test.YtdccehmekkcheaaDoorTTrH
import Derived.Test.YtdccehmekkcheaaDoorTJn
namespace Go.Proofs.YtdccehmekkcheaaDoor
open Go Go.Eng Go.RowKit
set_option linter.unusedVariables false
set_option linter.unusedSimpArgs false
set_option maxRecDepth 100000
noncomputable def join_con : Con Tryd.prog GT := Con.or jn.www.con jn.ww.con rfl jn.www.con_fr
def ndB (n : Nd) : List Int := [IntKind.u8.wrap (n.len.fdiv (2 ^ 8)), IntKind.u8.wrap n.len] ++ (n.pre.to ++ n.hash.to)
noncomputable def shaV (ys : List Int) : B32 := S3.refB ys
namespace rleaf
noncomputable abbrev fn := Tryd.f22
noncomputable def Γ : Cons Tryd.prog GT := [join_con, S3.r256_con]
theorem walk (l : Lf) (h : B32) : runOut Γ tys fn 100 [cLf.enc l] [(12, [.s (cB32.enc h)])] = some (cNd.enc ⟨256, l.lab, h⟩, [1 ≤ 1, 32 ≤ 64, 32 ≤ 32, 0 < 1, 65 ≤ 140737488355328, 0 + 65 ≤ 65, 65 ≤ 65, 65 ≤ 140737488354000, ∀ y ∈ ((catL [[1], l.lab.to, l.val.to]).drop 0).take 65, S3.Byt y, cB32.enc (S3.refB (((catL [[1], l.lab.to, l.val.to]).drop 0).take 65)) = cB32.enc h]) := by kernel_rfl
end rleaf
namespace rnb
noncomputable abbrev fn := Tryd.f84
noncomputable def body : Code := bodyOf fn
noncomputable def Γ : Cons Tryd.prog GT := [join_con]
def M (n : Nd) : List (Option SV) := maskL 17 0 [(2, .o (.a (.slg 3 66)))]
def mem (n : Nd) : List Blk := [⟨true, 33, .lit n.row⟩, ⟨true, 5, .lit [int1 .u8 (IntKind.u8.wrap (n.len.fdiv (2 ^ 8))), int1 .u8 (IntKind.u8.wrap n.len)]⟩, ⟨true, 72, .lit [.slc 1 0 2 2, .slc 0 1 32 32, .slc 0 33 32 32]⟩, ⟨true, 5, .gro .u8 (catL [[IntKind.u8.wrap (n.len.fdiv (2 ^ 8)), IntKind.u8.wrap n.len], n.pre.to, n.hash.to]) 66 none⟩]
theorem ids (n : Nd) : idsIn (mem n).length (M n) (mem n) = true := by kernel_rfl
theorem s (n : Nd) : outX (mem n).length (M n) (exec Γ tys 300 body ⟨startT fn [cNd.enc n], [], []⟩) = some (.ret, live (M n), (M n).length, mem n, [2 ≤ 2, 32 ≤ 64, 32 ≤ 32, 0 < 2, 66 ≤ 140737488355328]) := by kernel_rfl
theorem zr (n : Nd) (g : Nat → SV) : eRes tys (fill g 0 (M n)) (fun k => (mem n)[k]?) fn.results.toList = some [.a (.slg 3 66)] := by kernel_rfl
end rnb
namespace tnb
noncomputable abbrev fn := Tryd.f78
noncomputable def body : Code := bodyOf fn
noncomputable def R3 : Code := cs1 (csuf 3 body)
noncomputable def Γ : Cons Tryd.prog GT := []
theorem suf_eq : csuf 3 body = .seq R3 .ret := by kernel_rfl
def M0 (n : Nd) : List (Option SV) := maskL 22 0 [(1, .o (.a (.ptr 0 0))), (3, .o (.a (.sld 1 0 0 2 66)))]
def M1 (n : Nd) : List (Option SV) := maskL 22 0 [(18, .o (.a (.sld 1 0 0 34 66))), (20, .o (.a (.slc 0 33 32 32)))]
def M2 (n : Nd) : List (Option SV) := maskL 22 0 [(2, .o (.a (.sld 1 0 0 66 66)))]
def mem (n : Nd) (ys : List Int) : List Blk := [⟨true, 33, .lit n.row⟩, ⟨true, 5, .run .u8 ys⟩]
theorem ids0 (n : Nd) : idsIn (mem n ([IntKind.u8.wrap (n.len.fdiv (2 ^ 8)), IntKind.u8.wrap n.len] ++ List.replicate 64 0)).length (M0 n) (mem n ([IntKind.u8.wrap (n.len.fdiv (2 ^ 8)), IntKind.u8.wrap n.len] ++ List.replicate 64 0)) = true := by kernel_rfl
theorem ids1 (n : Nd) : idsIn (mem n ([IntKind.u8.wrap (n.len.fdiv (2 ^ 8)), IntKind.u8.wrap n.len] ++ (n.pre.to ++ List.replicate 32 0))).length (M1 n) (mem n ([IntKind.u8.wrap (n.len.fdiv (2 ^ 8)), IntKind.u8.wrap n.len] ++ (n.pre.to ++ List.replicate 32 0))) = true := by kernel_rfl
theorem ids2 (n : Nd) : idsIn (mem n (ndB n)).length (M2 n) (mem n (ndB n)) = true := by kernel_rfl
theorem s0 (n : Nd) : outX (mem n ([IntKind.u8.wrap (n.len.fdiv (2 ^ 8)), IntKind.u8.wrap n.len] ++ List.replicate 64 0)).length (M0 n) (exec Γ tys 300 (cpre 3 body) ⟨startT fn [cNd.enc n], [], []⟩) = some (.normal, live (M0 n), (M0 n).length, mem n ([IntKind.u8.wrap (n.len.fdiv (2 ^ 8)), IntKind.u8.wrap n.len] ++ List.replicate 64 0), [(0 : Int) ≤ 0, (0 : Int) ≤ 66, Room Tryd.prog 5 66, 2 ≤ 2, 2 ≤ 66, 2 ≤ 66]) := by kernel_rfl
theorem d (n : Nd) (g : Nat → SV) : outXL (mem n ([IntKind.u8.wrap (n.len.fdiv (2 ^ 8)), IntKind.u8.wrap n.len] ++ (n.pre.to ++ List.replicate 32 0))).length (M1 n) (runDraw Γ tys ((opsOf R3).toList.take 6) ⟨fill g 0 (M0 n), mem n ([IntKind.u8.wrap (n.len.fdiv (2 ^ 8)), IntKind.u8.wrap n.len] ++ List.replicate 64 0), []⟩) = some (live (M1 n), (M1 n).length, mem n ([IntKind.u8.wrap (n.len.fdiv (2 ^ 8)), IntKind.u8.wrap n.len] ++ (n.pre.to ++ List.replicate 32 0)), [32 ≤ 64, 34 ≤ 66, 34 ≤ 66]) := by kernel_rfl
theorem t (n : Nd) (g : Nat → SV) : outXL (mem n (ndB n)).length (M2 n) (runOps Γ tys (opsOf R3).toList (((opsOf R3).toList.drop 6).take 2) ⟨fill g 0 (M1 n), mem n ([IntKind.u8.wrap (n.len.fdiv (2 ^ 8)), IntKind.u8.wrap n.len] ++ (n.pre.to ++ List.replicate 32 0)), []⟩) = some (live (M2 n), (M2 n).length, mem n (ndB n), [32 ≤ 32, 66 ≤ 66, 66 ≤ 66]) := by kernel_rfl
theorem zr (n : Nd) (g : Nat → SV) : eRes tys (fill g 0 (M2 n)) (fun k => (mem n (ndB n))[k]?) fn.results.toList = some [.a (.sld 1 0 0 66 66)] := by kernel_rfl
theorem cut : (chkCut (opsOf R3).toList 6 && Nat.ble 6 (opsOf R3).size) = true := by kernel_rfl
end tnb
theorem catL3 (a b c : List Int) : catL [a, b, c] = a ++ (b ++ c) := by simp only [catL, List.append_nil]
namespace tnb
theorem run (n : Nd) : RunsF Tryd.prog GT 0 body (startT fn [cNd.enc n]) [] (EndsM tys fn (endsQ (.o (.a (.sld 0 0 0 66 66))) (.new 5 (.run .u8 (ndB n))))) := by
  refine Runs.of_outXP tys_ok mixed 3 (s0 n) ⟨by decide, by decide, roomU 66 (by omega), by omega, by omega, by omega, trivial⟩ (ids0 n) rfl fun g => ?_
  rw [suf_eq]
  refine Runs.seq (Runs.cutX (id := 3) (opsA := opsOf R3) tys_ok mixed 6 (d n g) ⟨by omega, by omega, by omega, trivial⟩ cut (ids1 n) rfl fun g => ?_)
  refine RunsL.of_outX tys_ok 2 (t n g) ⟨by omega, by omega, by omega, trivial⟩ (ids2 n) rfl fun g => ?_
  refine RunsL.nil ?_
  show RunsF _ _ _ _ _ _ _
  exact Runs.of_exec (Γ := Γ) tys_ok mixed (n := 1) (orc := []) (cs := []) (e := .ret) rfl trivial (EndsM.ret (zr n g) ⟨1, rfl, rfl⟩)
def spec : List PArg → Option (SV × LEff × Cst)
  | [.val v] => match cNd.dec v with
    | some n => some (.o (.a (.sld 0 0 0 66 66)), .new 5 (.run .u8 (ndB n)), [])
    | none => none
  | _ => none
noncomputable def con : Con Tryd.prog GT := Con.parts tys_ok 78 fn Tryd.func78 (by kernel_rfl) (c := body) (by kernel_rfl) [.val] spec
  (fun ps r e p h hp => by
    unfold spec at h
    split at h
    · split at h <;> cases h
      exact ⟨rfl, fun b hb => by simp [locBlks, PArg.blk] at hb⟩
    · cases h)
  (fun ps r e p cap h hp hi => by
    unfold spec at h
    split at h
    · split at h <;> cases h
      rename_i k hk
      have := cNd.ok _ _ hk
      subst this
      exact run k
    · cases h)
end tnb
namespace rnb
theorem run (n : Nd) : RunsF Tryd.prog GT 0 body (startT fn [cNd.enc n]) [] (EndsM tys fn (endsQ (.o (.a (.slg 0 66))) (.new 5 (.gro .u8 (ndB n) 66 none)))) := by
  refine Runs.of_outX tys_ok mixed (s n) ⟨by omega, by omega, by omega, by omega, by omega, trivial⟩ (ids n) rfl fun g => ?_
  refine EndsM.ret (zr n g) ⟨3, rfl, ?_⟩
  show some _ = some _
  rw [catL3]
  rfl
def spec : List PArg → Option (SV × LEff × Cst)
  | [.val v] => match cNd.dec v with
    | some n => some (.o (.a (.slg 0 66)), .new 5 (.gro .u8 (ndB n) 66 none), [])
    | none => none
  | _ => none
noncomputable def con : Con Tryd.prog GT := Con.parts tys_ok 84 fn Tryd.func84 (by kernel_rfl) (c := body) (by kernel_rfl) [.val] spec
  (fun ps r e p h hp => by
    unfold spec at h
    split at h
    · split at h <;> cases h
      exact ⟨rfl, fun b hb => by simp [locBlks, PArg.blk] at hb⟩
    · cases h)
  (fun ps r e p cap h hp hi => by
    unfold spec at h
    split at h
    · split at h <;> cases h
      rename_i k hk
      have := cNd.ok _ _ hk
      subst this
      exact run k
    · cases h)
end rnb
namespace tleaf
noncomputable abbrev fn := Tryd.f21
noncomputable def body : Code := bodyOf fn
noncomputable def R1 : Code := cs1 (csuf 1 body)
noncomputable def D : Code := csuf 2 body
noncomputable def Γ : Cons Tryd.prog GT := [S3.s256_con]
theorem suf_eq : csuf 1 body = .seq R1 D := by kernel_rfl
def M0 (l : Lf) : List (Option SV) := maskL 16 0 [(1, .o (.a (.ptr 0 0))), (2, .o (.a (.ptr 1 0)))]
def M1 (l : Lf) : List (Option SV) := maskL 16 0 [(1, .o (.a (.ptr 0 0))), (2, .o (.a (.ptr 1 0))), (7, .o (.a (.slg 3 33))), (9, .o (.a (.slc 0 32 32 32)))]
def M2 (l : Lf) : List (Option SV) := maskL 16 0 [(1, .o (.a (.ptr 0 0))), (2, .o (.a (.ptr 1 0))), (3, .o (.a (.slg 2 65)))]
def MZ (l : Lf) : List (Option SV) := maskL 16 0 [(2, .o (.a (.ptr 1 0)))]
def mem0 (l : Lf) (z : Nd) : List Blk := [⟨true, 30, .lit l.row⟩, ⟨true, 33, .lit z.row⟩]
def mem1 (l : Lf) (lo : Nat) (hi : Option Nat) : List Blk := [⟨true, 30, .lit l.row⟩, ⟨true, 33, .lit zn.row⟩, ⟨true, 5, .lit [int1 .u8 1]⟩, ⟨true, 5, .gro .u8 (1 :: l.lab.to) lo hi⟩]
def mem2 (l : Lf) : List Blk := [⟨true, 30, .lit l.row⟩, ⟨true, 33, .lit zn.row⟩, ⟨true, 5, .gro .u8 (1 :: (l.lab.to ++ l.val.to)) 65 none⟩]
theorem ids0 (l : Lf) : idsIn (mem0 l zn).length (M0 l) (mem0 l zn) = true := by kernel_rfl
theorem ids1 (l : Lf) : idsIn (mem1 l 33 none).length (M1 l) (mem1 l 33 none) = true := by kernel_rfl
theorem ids2 (l : Lf) : idsIn (mem2 l).length (M2 l) (mem2 l) = true := by kernel_rfl
theorem idsZ (l : Lf) (z : Nd) : idsIn (mem0 l z).length (MZ l) (mem0 l z) = true := by kernel_rfl
theorem s0 (l : Lf) : outX (mem0 l zn).length (M0 l) (exec Γ tys 300 (cpre 1 body) ⟨startT fn [cLf.enc l], [], []⟩) = some (.normal, live (M0 l), (M0 l).length, mem0 l zn, []) := by kernel_rfl
theorem d (l : Lf) (g : Nat → SV) : outXL (mem1 l 33 none).length (M1 l) (runDraw Γ tys ((opsOf R1).toList.take 6) ⟨fill g 0 (M0 l), mem0 l zn, []⟩) = some (live (M1 l), (M1 l).length, mem1 l 33 none, [32 ≤ 64, 0 + 1 ≤ 1, 1 < 33, Room Tryd.prog 5 33]) := by kernel_rfl
theorem tA (l : Lf) (g : Nat → SV) : outNL [0, 1, 3] (M2 l) (runOps Γ tys (opsOf R1).toList (((opsOf R1).toList.drop 6).take 2) ⟨fill g 0 (M1 l), mem1 l 65 none, []⟩) = some ((live (M2 l)).map (SV.ren (piF [0, 1, 3])), (M2 l).length, (mem2 l).map (fun b => some (b.ren (piF [0, 1, 3]))), [32 ≤ 32, 33 = 33, 65 ≤ 65]) := by kernel_rfl
theorem tB (l : Lf) (g : Nat → SV) : outNL [0, 1, 4] (M2 l) (runOps Γ tys (opsOf R1).toList (((opsOf R1).toList.drop 6).take 2) ⟨fill g 0 (M1 l), mem1 l 33 (some 65), []⟩) = some ((live (M2 l)).map (SV.ren (piF [0, 1, 4])), (M2 l).length, (mem2 l).map (fun b => some (b.ren (piF [0, 1, 4]))), [32 ≤ 32, 33 = 33, 65 ≤ 65, Room Tryd.prog 5 65]) := by kernel_rfl
theorem fin (l : Lf) (h : B32) (g : Nat → SV) : outX (mem0 l ⟨256, l.lab, h⟩).length (MZ l) (exec Γ tys 300 D ⟨fill g 0 (M2 l), mem2 l, [(14, [.s (cB32.enc h)])]⟩) = some (.ret, live (MZ l), (MZ l).length, mem0 l ⟨256, l.lab, h⟩, [0 + 65 ≤ 65, 65 ≤ 65, cB32.enc (S3.finB (S3.absorb S3.S0 (((1 :: (l.lab.to ++ l.val.to)).drop 0).take 65))) = cB32.enc h]) := by kernel_rfl
theorem zr (l : Lf) (z : Nd) (g : Nat → SV) : eRes tys (fill g 0 (MZ l)) (fun k => (mem0 l z)[k]?) fn.results.toList = some [.g z.row] := by kernel_rfl
theorem cut : (chkCut (opsOf R1).toList 6 && Nat.ble 6 (opsOf R1).size) = true := by kernel_rfl
end tleaf
namespace tinn
noncomputable abbrev fn := Tryd.f80
noncomputable def body : Code := bodyOf fn
noncomputable def R1 : Code := cs1 (csuf 1 body)
noncomputable def Γ : Cons Tryd.prog GT := [tnb.con]
theorem suf_eq : csuf 1 body = .seq R1 .ret := by kernel_rfl
def M0 (a b : Nd) : List (Option SV) := maskL 12 0 [(2, .o (.a (.ptr 0 0))), (3, .o (.a (.ptr 1 0)))]
def M1 (a b : Nd) : List (Option SV) := maskL 12 0 [(8, .o (.a (.slg 4 67))), (10, .o (.a (.sld 5 0 0 66 66)))]
def M2 (a b : Nd) : List (Option SV) := maskL 12 0 [(4, .o (.a (.slg 0 133)))]
def mem0 (a b : Nd) : List Blk := [⟨true, 33, .lit a.row⟩, ⟨true, 33, .lit b.row⟩]
def mem1 (a b : Nd) (lo : Nat) (hi : Option Nat) : List Blk := [⟨true, 33, .lit a.row⟩, ⟨true, 33, .lit b.row⟩, ⟨true, 5, .lit [int1 .u8 2]⟩, ⟨true, 5, .run .u8 (ndB a)⟩, ⟨true, 5, .gro .u8 (2 :: ndB a) lo hi⟩, ⟨true, 5, .run .u8 (ndB b)⟩]
def mem2 (a b : Nd) : List Blk := [⟨true, 5, .gro .u8 (2 :: (ndB a ++ ndB b)) 133 none⟩]
theorem ids0 (a b : Nd) : idsIn (mem0 a b).length (M0 a b) (mem0 a b) = true := by kernel_rfl
theorem ids1 (a b : Nd) : idsIn (mem1 a b 67 none).length (M1 a b) (mem1 a b 67 none) = true := by kernel_rfl
theorem ids2 (a b : Nd) : idsIn (mem2 a b).length (M2 a b) (mem2 a b) = true := by kernel_rfl
theorem s0 (a b : Nd) : outX (mem0 a b).length (M0 a b) (exec Γ tys 300 (cpre 1 body) ⟨startT fn [cNd.enc a, cNd.enc b], [], []⟩) = some (.normal, live (M0 a b), (M0 a b).length, mem0 a b, []) := by kernel_rfl
theorem d (a b : Nd) (g : Nat → SV) : outXL (mem1 a b 67 none).length (M1 a b) (runDraw Γ tys ((opsOf R1).toList.take 6) ⟨fill g 0 (M0 a b), mem0 a b, []⟩) = some (live (M1 a b), (M1 a b).length, mem1 a b 67 none, [0 + 66 ≤ 66, 0 + 1 ≤ 1, 1 < 67, Room Tryd.prog 5 67]) := by kernel_rfl
theorem tA (a b : Nd) (g : Nat → SV) : outNL [4] (M2 a b) (runOps Γ tys (opsOf R1).toList (((opsOf R1).toList.drop 6).take 2) ⟨fill g 0 (M1 a b), mem1 a b 133 none, []⟩) = some ((live (M2 a b)).map (SV.ren (piF [4])), (M2 a b).length, (mem2 a b).map (fun b => some (b.ren (piF [4]))), [0 + 66 ≤ 66, 67 = 67, 133 ≤ 133]) := by kernel_rfl
theorem tB (a b : Nd) (g : Nat → SV) : outNL [6] (M2 a b) (runOps Γ tys (opsOf R1).toList (((opsOf R1).toList.drop 6).take 2) ⟨fill g 0 (M1 a b), mem1 a b 67 (some 133), []⟩) = some ((live (M2 a b)).map (SV.ren (piF [6])), (M2 a b).length, (mem2 a b).map (fun b => some (b.ren (piF [6]))), [0 + 66 ≤ 66, 67 = 67, 133 ≤ 133, Room Tryd.prog 5 133]) := by kernel_rfl
theorem zr (a b : Nd) (g : Nat → SV) : eRes tys (fill g 0 (M2 a b)) (fun k => (mem2 a b)[k]?) fn.results.toList = some [.a (.slg 0 133)] := by kernel_rfl
theorem cut : (chkCut (opsOf R1).toList 6 && Nat.ble 6 (opsOf R1).size) = true := by kernel_rfl
end tinn
namespace ttop
noncomputable abbrev fn := Tryd.f59
noncomputable def body : Code := bodyOf fn
noncomputable def Γ : Cons Tryd.prog GT := [tnb.con]
def M (a : Nd) : List (Option SV) := maskL 7 0 [(2, .o (.a (.slg 0 67)))]
def mem (a : Nd) : List Blk := [⟨true, 5, .gro .u8 (3 :: ndB a) 67 none⟩]
theorem ids (a : Nd) : idsIn (mem a).length (M a) (mem a) = true := by kernel_rfl
theorem s (a : Nd) : outN [3] (M a) (exec Γ tys 100 body ⟨startT fn [cNd.enc a], [], []⟩) = some (.ret, (live (M a)).map (SV.ren (piF [3])), (M a).length, (mem a).map (fun b => some (b.ren (piF [3]))), [0 + 66 ≤ 66, 0 + 1 ≤ 1, 1 < 67, Room Tryd.prog 5 67]) := by kernel_rfl
theorem zr (a : Nd) (g : Nat → SV) : eRes tys (fill g 0 (M a)) (fun k => (mem a)[k]?) fn.results.toList = some [.a (.slg 0 67)] := by kernel_rfl
end ttop
namespace rinn
noncomputable abbrev fn := Tryd.f83
noncomputable def body : Code := bodyOf fn
noncomputable def Γ : Cons Tryd.prog GT := [rnb.con, join_con]
def M (a b : Nd) : List (Option SV) := maskL 12 0 [(4, .o (.a (.slg 0 133)))]
def mem (a b : Nd) : List Blk := [⟨true, 5, .gro .u8 (catL [[2], ndB a, ndB b]) 133 none⟩]
theorem ids (a b : Nd) : idsIn (mem a b).length (M a b) (mem a b) = true := by kernel_rfl
theorem s (a b : Nd) : outN [6] (M a b) (exec Γ tys 100 body ⟨startT fn [cNd.enc a, cNd.enc b], [], []⟩) = some (.ret, (live (M a b)).map (SV.ren (piF [6])), (M a b).length, (mem a b).map (fun b => some (b.ren (piF [6]))), [1 ≤ 1, 66 ≤ 66, 66 ≤ 66, 0 < 1, 133 ≤ 140737488355328]) := by kernel_rfl
theorem zr (a b : Nd) (g : Nat → SV) : eRes tys (fill g 0 (M a b)) (fun k => (mem a b)[k]?) fn.results.toList = some [.a (.slg 0 133)] := by kernel_rfl
end rinn
end Go.Proofs.YtdccehmekkcheaaDoor

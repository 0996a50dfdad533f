/- Packages tree, beaconref11, beaconref07: common bits, first bits, the order: facts of the walks. -/
import Derived.Test.YthlmepolmemejaaDoorDTrA
namespace Go.Proofs.YthlmepolmemejaaDoor
open Go Go.Eng Go.RowKit
set_option linter.unusedVariables false
set_option linter.unusedSimpArgs false
set_option maxRecDepth 100000
namespace blw
noncomputable abbrev fn := Tryd.f25
noncomputable def body : Code := bodyOf fn
noncomputable def A1 : Code := cs1 (cs1 (csuf 1 body))
noncomputable def L : Code := cL (cB (cs2 (cs1 (csuf 1 body))))
noncomputable def D : Code := cs2 (csuf 1 body)
noncomputable def Γ : Cons Tryd.prog GT := []
theorem suf_eq : csuf 1 body = .seq (.seq A1 (.block 0 (.loop L))) D := by kernel_rfl
def M0 (a b : B32) : List (Option SV) := maskL 24 0 [(2, .o (.a (.ptr 0 0))), (3, .o (.a (.ptr 1 0)))]
def M1 (a b : B32) (i : Int) : List (Option SV) := maskL 24 0 [(2, .o (.a (.ptr 0 0))), (3, .o (.a (.ptr 1 0))), (6, .o (.a (int1 .i64 i)))]
def MZ (a b : B32) (r : Bool) : List (Option SV) := maskL 24 0 [(4, .o (.a (bool1 r)))]
def mem (a b : B32) : List Blk := [⟨true, 24, .lit (cB32.row a)⟩, ⟨true, 24, .lit (cB32.row b)⟩]
theorem ids0 (a b : B32) : idsIn (mem a b).length (M0 a b) (mem a b) = true := by kernel_rfl
theorem ids1 (a b : B32) (i : Int) : idsIn (mem a b).length (M1 a b i) (mem a b) = true := by kernel_rfl
theorem idsZ (a b : B32) (r : Bool) : idsIn (mem a b).length (MZ a b r) (mem a b) = true := by kernel_rfl
theorem s0 (a b : B32) : outX (mem a b).length (M0 a b) (exec Γ tys 300 (cpre 1 body) ⟨startT fn [cB32.enc a, cB32.enc b], [], []⟩) = some (.normal, live (M0 a b), (M0 a b).length, mem a b, []) := by kernel_rfl
theorem a1 (a b : B32) (g : Nat → SV) : outX (mem a b).length (M1 a b 0) (exec Γ tys 300 A1 ⟨fill g 0 (M0 a b), mem a b, []⟩) = some (.normal, live (M1 a b 0), (M1 a b 0).length, mem a b, []) := by kernel_rfl
theorem stp (a b : B32) (g : Nat → SV) : tabL (fun j => outX (mem a b).length (M1 a b ((j + 1 : Nat) : Int)) (exec Γ tys 300 L ⟨fill g 0 (M1 a b ((j : Nat) : Int)), mem a b, [(15, [.b false])]⟩)) 32 = tabR (fun j => some (.normal, live (M1 a b ((j + 1 : Nat) : Int)), (M1 a b ((j + 1 : Nat) : Int)).length, mem a b, [(a.at j != b.at j) = false])) 32 := by kernel_rfl
theorem hit (a b : B32) (r : Bool) (g : Nat → SV) : tabL (fun j => outX (mem a b).length (MZ a b r) (exec Γ tys 300 L ⟨fill g 0 (M1 a b ((j : Nat) : Int)), mem a b, [(15, [.b true]), (22, [.b r])]⟩)) 32 = tabR (fun j => some (.ret, live (MZ a b r), (MZ a b r).length, mem a b, [(a.at j != b.at j) = true, decide (a.at j < b.at j) = r])) 32 := by kernel_rfl
theorem out (a b : B32) (g : Nat → SV) : outX (mem a b).length (M0 a b) (exec Γ tys 300 L ⟨fill g 0 (M1 a b 32), mem a b, []⟩) = some ((.exit 0), live (M0 a b), (M0 a b).length, mem a b, []) := by kernel_rfl
theorem fin (a b : B32) (g : Nat → SV) : outX (mem a b).length (MZ a b false) (exec Γ tys 300 D ⟨fill g 0 (M0 a b), mem a b, []⟩) = some (.ret, live (MZ a b false), (MZ a b false).length, mem a b, []) := by kernel_rfl
theorem zr (a b : B32) (r : Bool) (g : Nat → SV) : eRes tys (fill g 0 (MZ a b r)) (fun k => (mem a b)[k]?) fn.results.toList = some [.a (bool1 r)] := by kernel_rfl
end blw
end Go.Proofs.YthlmepolmemejaaDoor

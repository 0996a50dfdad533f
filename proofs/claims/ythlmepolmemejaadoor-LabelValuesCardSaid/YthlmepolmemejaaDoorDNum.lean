/- Packages wire and beaconref07: a number's eight bytes: walks, contracts. -/
import Derived.Test.YthlmepolmemejaaDoorDFour
namespace Go.Proofs.YthlmepolmemejaaDoor
open Go Go.Eng Go.RowKit
set_option linter.unusedVariables false
set_option linter.unusedSimpArgs false
set_option maxRecDepth 100000
def num8 (v : Int) : List Int := [IntKind.u8.wrap (v.fdiv 72057594037927936), IntKind.u8.wrap (v.fdiv 281474976710656), IntKind.u8.wrap (v.fdiv 1099511627776), IntKind.u8.wrap (v.fdiv 4294967296), IntKind.u8.wrap (v.fdiv 16777216), IntKind.u8.wrap (v.fdiv 65536), IntKind.u8.wrap (v.fdiv 256), IntKind.u8.wrap (v.fdiv 1)]
def numH (v : Int) : Int := IntKind.i64.wrap (v.fdiv 4294967296)
def numL (v : Int) : Int := IntKind.i64.wrap (IntKind.u32.wrap v)
theorem num8_eq {v : Int} (h0 : 0 ≤ v) (h1 : v < 18446744073709551616) : b4 (numH v) ++ b4 (numL v) = num8 v := by
  have e1 : numH v = v / 4294967296 := by
    unfold numH
    rw [Int.fdiv_eq_ediv_of_nonneg _ (by decide), wi64 _ (by omega) (by omega)]
  have e2 : numL v = v % 4294967296 := by
    unfold numL
    rw [wu32, wi64 _ (by omega) (by omega)]
  unfold b4 num8
  rw [e1, e2]
  simp only [Int.fdiv_eq_ediv_of_nonneg _ (show (0 : Int) ≤ 16777216 by decide), Int.fdiv_eq_ediv_of_nonneg _ (show (0 : Int) ≤ 65536 by decide), Int.fdiv_eq_ediv_of_nonneg _ (show (0 : Int) ≤ 256 by decide), Int.fdiv_eq_ediv_of_nonneg _ (show (0 : Int) ≤ 72057594037927936 by decide), Int.fdiv_eq_ediv_of_nonneg _ (show (0 : Int) ≤ 281474976710656 by decide), Int.fdiv_eq_ediv_of_nonneg _ (show (0 : Int) ≤ 1099511627776 by decide), Int.fdiv_eq_ediv_of_nonneg _ (show (0 : Int) ≤ 4294967296 by decide), Int.fdiv_eq_ediv_of_nonneg _ (show (0 : Int) ≤ 1 by decide), wu8, List.cons_append, List.nil_append, List.cons.injEq, and_true]
  exact ⟨by omega, by omega, by omega, trivial, by omega, by omega, by omega, by omega⟩
namespace rnum
variable {G : Glob}
end rnum
namespace num
variable {G : Glob}
noncomputable abbrev fn := Tryd.f19
noncomputable def body : Code := bodyOf fn
noncomputable def Γ : Cons Tryd.prog G := [four_con]
noncomputable def R1 : Code := cs1 (csuf 1 body)
noncomputable def T : Code := cs2 (csuf 1 body)
noncomputable def i1 : Nat := match R1 with | .region i _ _ => i | _ => 0
theorem suf_eq : csuf 1 body = .seq (.region i1 (opsOf R1) false) T := by kernel_rfl
def M0 (v : Int) : List (Option SV) := maskL 11 0 [(0, .o (.a (.v (.int .u64 v))))]
def M1 (v : Int) : List (Option SV) := maskL 11 0 [(0, .o (.a (.v (.int .u64 v)))), (6, .o (.a (.slg 0 4)))]
def M2 (b : Nat) : List (Option SV) := maskL 11 0 [(2, .o (.a (.slg b 8)))]
def m1 (v : Int) (lo : Nat) (hi : Option Nat) : List Blk := [⟨true, 5, .gro .u8 (b4 (numH v)) lo hi⟩]
def mI (v : Int) : List Blk := [⟨true, 5, .gro .u8 (b4 (numH v) ++ b4 (numL v)) 8 none⟩]
def mG (v : Int) : List Blk := [⟨true, 5, .gro .u8 (b4 (numH v)) 4 (some 8)⟩, ⟨true, 5, .gro .u8 (b4 (numH v) ++ b4 (numL v)) 8 none⟩]
theorem ids0 (v : Int) : idsIn 0 (M0 v) [] = true := by kernel_rfl
theorem ids1 (v : Int) (lo : Nat) (hi : Option Nat) : idsIn (m1 v lo hi).length (M1 v) (m1 v lo hi) = true := by kernel_rfl
theorem idsI (v : Int) : idsIn (mI v).length (M2 0) (mI v) = true := by kernel_rfl
theorem idsG (v : Int) : idsIn (mG v).length (M2 1) (mG v) = true := by kernel_rfl
theorem s0 (v : Int) : outX ([] : List Blk).length (M0 v) (exec (Γ (G := G)) tys 100 (cpre 1 body) ⟨startT fn [.o (.a (.v (.int .u64 v)))], [], []⟩) = some (.normal, live (M0 v), (M0 v).length, [], []) := by kernel_rfl
theorem p1 (v : Int) (g : Nat → SV) : outXL (m1 v 4 none).length (M1 v) (runOps (Γ (G := G)) tys (opsOf R1).toList ((opsOf R1).toList.take 4) ⟨fill g 0 (M0 v), [], []⟩) = some (live (M1 v), (M1 v).length, m1 v 4 none, []) := by kernel_rfl
theorem pI (v : Int) (g : Nat → SV) : outXL (mI v).length (M2 0) (runOps (Γ (G := G)) tys (opsOf R1).toList (((opsOf R1).toList.drop 4).take 5) ⟨fill g 0 (M1 v), m1 v 8 none, []⟩) = some (live (M2 0), (M2 0).length, mI v, [IntKind.i64 = .i64, 4 = (b4 (numH v)).length, 4 + 4 ≤ 8]) := by kernel_rfl
theorem pG (v : Int) (g : Nat → SV) : outXL (mG v).length (M2 1) (runOps (Γ (G := G)) tys (opsOf R1).toList (((opsOf R1).toList.drop 4).take 5) ⟨fill g 0 (M1 v), m1 v 4 (some 8), []⟩) = some (live (M2 1), (M2 1).length, mG v, [IntKind.i64 = .i64, 4 = (b4 (numH v)).length, ∀ h, some 8 = some h → h ≤ 4 + 4, 4 + 4 ≤ 140737488355328]) := by kernel_rfl
theorem nil5 : ((opsOf R1).toList.drop 4).drop 5 = [] := by kernel_rfl
theorem T_eq : T = .ret := by kernel_rfl
theorem resI (v : Int) (g : Nat → SV) : eRes tys (fill g 0 (M2 0)) (fun k => (mI v)[k]?) fn.results.toList = some [.a (.slg 0 8)] := by kernel_rfl
theorem resG (v : Int) (g : Nat → SV) : eRes tys (fill g 0 (M2 1)) (fun k => (mG v)[k]?) fn.results.toList = some [.a (.slg 1 8)] := by kernel_rfl
theorem walk (v : Int) : RunsF Tryd.prog G 0 body (startT fn [.o (.a (.v (.int .u64 v)))]) [] (EndsM tys fn (endsQ (.o (.a (.slg 0 8))) (.new 5 (.gro .u8 (b4 (numH v) ++ b4 (numL v)) 8 none)))) := by
  refine Runs.of_outXP tys_ok mixed 1 (s0 v) trivial (ids0 v) rfl fun g => ?_
  rw [suf_eq]
  refine Runs.seq (Runs.region ?_)
  refine RunsL.of_outX tys_ok 4 (p1 v g) trivial (ids1 v 4 none) rfl fun g => ?_
  refine RunsL.room 0 8 (own := true) (ty := 5) (kd := .u8) (xs := b4 (numH v)) (lo := 4) rfl ?_ ?_
  · refine RunsL.of_outX tys_ok 5 (pI v g) ⟨rfl, rfl, by omega, trivial⟩ (idsI v) rfl fun g => ?_
    rw [nil5]
    refine RunsL.nil ?_
    show RunsF _ _ _ T _ _ _
    rw [T_eq]
    exact Runs.of_exec (Γ := Γ) (n := 1) (orc := []) tys_ok mixed rfl trivial (EndsM.ret (resI v g) ⟨0, rfl, rfl⟩)
  · refine RunsL.of_outX tys_ok 5 (pG v g) ⟨rfl, rfl, fun h hh => by cases hh; omega, by omega, trivial⟩ (idsG v) rfl fun g => ?_
    rw [nil5]
    refine RunsL.nil ?_
    show RunsF _ _ _ T _ _ _
    rw [T_eq]
    exact Runs.of_exec (Γ := Γ) (n := 1) (orc := []) tys_ok mixed rfl trivial (EndsM.ret (resG v g) ⟨1, rfl, rfl⟩)
def spec : List PArg → Option (SV × LEff × Cst)
  | [.val (.o (.a (.v (.int .u64 v))))] => some (.o (.a (.slg 0 8)), .new 5 (.gro .u8 (b4 (numH v) ++ b4 (numL v)) 8 none), [])
  | _ => none
end num
noncomputable def num_con {G : Glob} : Con Tryd.prog G := Con.parts tys_ok 19 num.fn Tryd.func19 (by kernel_rfl) (c := num.body) (by kernel_rfl) [.val] num.spec
  (fun ps r e p h hp => by
    unfold num.spec at h
    split at h <;> cases h
    exact ⟨rfl, fun b hb => by cases hb⟩)
  (fun ps r e p cap h hp hi => by
    unfold num.spec at h
    split at h <;> cases h
    exact num.walk _)
end Go.Proofs.YthlmepolmemejaaDoor

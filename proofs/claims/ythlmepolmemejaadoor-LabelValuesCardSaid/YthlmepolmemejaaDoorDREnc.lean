/- Package beaconref07: Encode of a list of so many slices: walks, contracts. -/
import Derived.Test.YthlmepolmemejaaDoorDEnc
namespace Go.Proofs.YthlmepolmemejaaDoor
open Go Go.Eng Go.RowKit
set_option linter.unusedVariables false
set_option linter.unusedSimpArgs false
set_option maxRecDepth 100000
def rencRes (ls : List (List Int)) : SV := .t [.a (.slg 0 (encT ls)), .a (.v (.int .i64 0))]
namespace renc
noncomputable abbrev fn := Tryd.f17
noncomputable def body : Code := bodyOf fn
noncomputable def Γ {G : Glob} : Cons Tryd.prog G := [rfour_con]
noncomputable def A14 : Code := cs1 (cs1 (csuf 5 body))
noncomputable def L : Code := cL (cB (cs2 (cs1 (csuf 5 body))))
noncomputable def D : Code := cs2 (csuf 5 body)
theorem suf_eq : csuf 5 body = .seq (.seq A14 (.block 2 (.loop L))) D := by kernel_rfl
noncomputable def B3 : Code := cB (cs1 (csuf 2 L))
noncomputable def R17 : Code := cs1 (csuf 1 B3)
noncomputable def R18 : Code := cs2 (csuf 1 B3)
noncomputable def R19 : Code := cs2 (csuf 2 L)
noncomputable def i17 : Nat := match R17 with | .region i _ _ => i | _ => 0
noncomputable def i18 : Nat := match R18 with | .region i _ _ => i | _ => 0
theorem L_eq : csuf 2 L = .seq (.block 3 B3) R19 := by kernel_rfl
theorem B3_eq : csuf 1 B3 = .seq (.region i17 (opsOf R17) false) (.region i18 (opsOf R18) false) := by kernel_rfl
theorem nil17 : (opsOf R17).toList.drop 9 = [] := by kernel_rfl
theorem nil18 : (opsOf R18).toList.drop 7 = [] := by kernel_rfl
namespace k1
def args (y1 : List Int) (n1 : Nat) (t1 : TypeId) (ty : TypeId) : List Blk := [⟨false, ty, .lit [.slg 1 n1]⟩, ⟨false, t1, .pre .u8 y1⟩]
def mem0 (y1 : List Int) (n1 : Nat) (t1 : TypeId) (ty : TypeId) : List Blk := args y1 n1 t1 ty ++ [⟨true, 5, .lit ((b4 1).map (int1 .u8))⟩]
def mem (y1 : List Int) (n1 : Nat) (t1 : TypeId) (ty : TypeId) (D : List Int) (lo : Nat) (hi : Option Nat) : List Blk := args y1 n1 t1 ty ++ [⟨true, 5, .gro .u8 D lo hi⟩]
def M0 : List (Option SV) := maskL 61 0 [(0, .o (.a (.slc 0 0 1 1))), (6, .o (.a (.slc 2 0 4 4)))]
def M1 (i : Int) : List (Option SV) := maskL 61 0 [(0, .o (.a (.slc 0 0 1 1))), (6, .o (.a (.slc 2 0 4 4))), (41, .o (.a (.v (.int .i64 1)))), (42, .o (.a (.v (.int .i64 i))))]
def M2 (i : Int) (n : Nat) : List (Option SV) := maskL 61 0 [(0, .o (.a (.slc 0 0 1 1))), (6, .o (.a (.slg 2 n))), (41, .o (.a (.v (.int .i64 1)))), (42, .o (.a (.v (.int .i64 i))))]
def N1 (i : Int) : List (Option SV) := maskL 61 0 [(0, .o (.a (.slc 0 0 1 1))), (6, .o (.a (.slc 2 0 4 4))), (7, .o (.a (.v (.int .i64 i)))), (41, .o (.a (.v (.int .i64 1)))), (42, .o (.a (.v (.int .i64 i))))]
def N2 (i : Int) (n : Nat) : List (Option SV) := maskL 61 0 [(0, .o (.a (.slc 0 0 1 1))), (6, .o (.a (.slg 2 n))), (7, .o (.a (.v (.int .i64 i)))), (41, .o (.a (.v (.int .i64 1)))), (42, .o (.a (.v (.int .i64 i))))]
def MZ (n : Nat) : List (Option SV) := maskL 61 0 [(6, .o (.a (.slg 2 n)))]
theorem ids0 (y1 : List Int) (n1 : Nat) (t1 : TypeId) (ty : TypeId) : idsIn (mem0 y1 n1 t1 ty ).length (M0) (mem0 y1 n1 t1 ty ) = true := by kernel_rfl
theorem ids1 (y1 : List Int) (n1 : Nat) (t1 : TypeId) (ty : TypeId) (i : Int) : idsIn (mem0 y1 n1 t1 ty ).length (M1 i) (mem0 y1 n1 t1 ty ) = true := by kernel_rfl
theorem idsN1 (y1 : List Int) (n1 : Nat) (t1 : TypeId) (ty : TypeId) (i : Int) : idsIn (mem0 y1 n1 t1 ty ).length (N1 i) (mem0 y1 n1 t1 ty ) = true := by kernel_rfl
theorem ids2 (y1 : List Int) (n1 : Nat) (t1 : TypeId) (ty : TypeId) (D : List Int) (n lo : Nat) (hi : Option Nat) (i : Int) : idsIn (mem y1 n1 t1 ty D lo hi).length (M2 i n) (mem y1 n1 t1 ty D lo hi) = true := by kernel_rfl
theorem idsN2 (y1 : List Int) (n1 : Nat) (t1 : TypeId) (ty : TypeId) (D : List Int) (n lo : Nat) (hi : Option Nat) (i : Int) : idsIn (mem y1 n1 t1 ty D lo hi).length (N2 i n) (mem y1 n1 t1 ty D lo hi) = true := by kernel_rfl
theorem idsZ (y1 : List Int) (n1 : Nat) (t1 : TypeId) (ty : TypeId) (D : List Int) (n lo : Nat) (hi : Option Nat) : idsIn (mem y1 n1 t1 ty D lo hi).length (MZ n) (mem y1 n1 t1 ty D lo hi) = true := by kernel_rfl
def c0 (y1 : List Int) (n1 : Nat) (t1 : TypeId) (ty : TypeId) : Cst := [decide (((n1 : Nat) : Int) > 1048576) = false, IntKind.i64.wrap (((4 : Nat) : Int) + 4) = ((4 + 4 : Nat) : Int), IntKind.i64.wrap (((4 + 4 : Nat) : Int) + ((n1 : Nat) : Int)) = ((4 + 4 + n1 : Nat) : Int), decide (((4 + 4 + n1 : Nat) : Int) > 1048576) = false, decide (((4 + 4 + n1 : Nat) : Int) > 1048576) = false]
theorem holds0 (y1 : List Int) (n1 : Nat) (t1 : TypeId) (ty : TypeId) (hT : 4 + 4 + n1 ≤ 1048576) : Holds (c0 y1 n1 t1 ty ) := ⟨decide_eq_false (by omega), by rw [wi64 _ (by omega) (by omega)] <;> omega, by rw [wi64 _ (by omega) (by omega)] <;> omega, decide_eq_false (by omega), decide_eq_false (by omega), trivial⟩
theorem s0 {G : Glob} (y1 : List Int) (n1 : Nat) (t1 : TypeId) (ty : TypeId) : outX (mem0 y1 n1 t1 ty ).length M0 (exec (Γ (G := G)) tys 200 (cpre 5 body) ⟨startT fn [.o (.a (.slc 0 0 1 1))], args y1 n1 t1 ty , [(18, [.b false]), (20, [.n ((4 + 4 : Nat) : Int)]), (26, [.n ((4 + 4 + n1 : Nat) : Int)]), (28, [.b false]), (35, [.b false])]⟩) = some (.normal, live M0, M0.length, mem0 y1 n1 t1 ty , c0 y1 n1 t1 ty ) := by kernel_rfl
theorem a14 {G : Glob} (y1 : List Int) (n1 : Nat) (t1 : TypeId) (ty : TypeId) (g : Nat → SV) : outX (mem0 y1 n1 t1 ty ).length (M1 0) (exec (Γ (G := G)) tys 200 A14 ⟨fill g 0 (M0), mem0 y1 n1 t1 ty , []⟩) = some (.normal, live (M1 0), (M1 0).length, mem0 y1 n1 t1 ty , []) := by kernel_rfl
theorem hd0 {G : Glob} (y1 : List Int) (n1 : Nat) (t1 : TypeId) (ty : TypeId) (g : Nat → SV) : outX (mem0 y1 n1 t1 ty ).length (M1 0) (exec (Γ (G := G)) tys 100 (cpre 2 L) ⟨fill g 0 (M1 0), mem0 y1 n1 t1 ty , []⟩) = some (.normal, live (M1 0), (M1 0).length, mem0 y1 n1 t1 ty , []) := by kernel_rfl
theorem x0 {G : Glob} (y1 : List Int) (n1 : Nat) (t1 : TypeId) (ty : TypeId) (g : Nat → SV) : outX (mem0 y1 n1 t1 ty ).length (N1 0) (exec (Γ (G := G)) tys 100 (cpre 1 B3) ⟨fill g 0 (M1 0), mem0 y1 n1 t1 ty , []⟩) = some (.normal, live (N1 0), (N1 0).length, mem0 y1 n1 t1 ty , []) := by kernel_rfl
theorem p0 {G : Glob} (y1 : List Int) (n1 : Nat) (t1 : TypeId) (ty : TypeId) (g : Nat → SV) : outNL [0, 1, 4] (N2 0 (4 + 4)) (runOps (Γ (G := G)) tys (opsOf R17).toList ((opsOf R17).toList.take 9) ⟨fill g 0 (N1 0), mem0 y1 n1 t1 ty , []⟩) = some ((live (N2 0 (4 + 4))).map (SV.ren (piF [0, 1, 4])), (N2 0 (4 + 4)).length, (mem y1 n1 t1 ty (b4 1 ++ b4 ((n1 : Nat) : Int)) (4 + 4) none).map (fun b => some (b.ren (piF [0, 1, 4]))), [0 + 4 ≤ 4, 0 + 4 ≤ 4, 4 < 4 + 4, Room Tryd.prog 5 (4 + 4)]) := by kernel_rfl
theorem r0 {G : Glob} (y1 : List Int) (n1 : Nat) (t1 : TypeId) (ty : TypeId) (D : List Int) (n : Nat) (g : Nat → SV) : outXL (mem y1 n1 t1 ty (D ++ ((y1.drop 0).take n1)) (n + n1) none).length (N2 0 (n + n1)) (runOps (Γ (G := G)) tys (opsOf R18).toList ((opsOf R18).toList.take 7) ⟨fill g 0 (N2 0 n), mem y1 n1 t1 ty D (n + n1) none, []⟩) = some (live (N2 0 (n + n1)), (N2 0 (n + n1)).length, mem y1 n1 t1 ty (D ++ ((y1.drop 0).take n1)) (n + n1) none, [0 + n1 ≤ y1.length, n = D.length, n + n1 ≤ n + n1]) := by kernel_rfl
theorem s0' {G : Glob} (y1 : List Int) (n1 : Nat) (t1 : TypeId) (ty : TypeId) (D : List Int) (n : Nat) (lo : Nat) (g : Nat → SV) : outNL [0, 1, 3] (N2 0 (n + n1)) (runOps (Γ (G := G)) tys (opsOf R18).toList ((opsOf R18).toList.take 7) ⟨fill g 0 (N2 0 n), mem y1 n1 t1 ty D lo (some (n + n1)), []⟩) = some ((live (N2 0 (n + n1))).map (SV.ren (piF [0, 1, 3])), (N2 0 (n + n1)).length, (mem y1 n1 t1 ty (D ++ ((y1.drop 0).take n1)) (n + n1) none).map (fun b => some (b.ren (piF [0, 1, 3]))), [0 + n1 ≤ y1.length, n = D.length, n + n1 ≤ n + n1, Room Tryd.prog 5 (n + n1)]) := by kernel_rfl
theorem e0 {G : Glob} (y1 : List Int) (n1 : Nat) (t1 : TypeId) (ty : TypeId) (D : List Int) (n : Nat) (lo : Nat) (g : Nat → SV) : outX (mem y1 n1 t1 ty D lo none).length (M2 1 n) (exec (Γ (G := G)) tys 100 R19 ⟨fill g 0 (N2 0 n), mem y1 n1 t1 ty D lo none, []⟩) = some (.normal, live (M2 1 n), (M2 1 n).length, mem y1 n1 t1 ty D lo none, []) := by kernel_rfl
theorem u0 {G : Glob} (y1 : List Int) (n1 : Nat) (t1 : TypeId) (ty : TypeId) {Post : Ex → List SV → List Blk → Prop} (hp : ∀ g, Post .normal (fill g 0 (N2 0 (4 + 4))) (mem y1 n1 t1 ty (b4 1 ++ b4 ((n1 : Nat) : Int)) (4 + 4) none)) (g : Nat → SV) :
    RunsL Tryd.prog G 2 (opsOf R17) (opsOf R17).toList (fill g 0 (N1 0)) (mem0 y1 n1 t1 ty ) Post := by
  refine RunsL.of_outN tys_ok 9 _ (p0 y1 n1 t1 ty g) ⟨by omega, by omega, by omega, room8 _ (by omega), trivial⟩ (idsN2 y1 n1 t1 ty _ _ _ _ _) rfl fun g => ?_
  rw [nil17]
  exact RunsL.nil (hp g)
theorem v0 {G : Glob} (y1 : List Int) (n1 : Nat) (t1 : TypeId) (ty : TypeId) (D : List Int) (n lo : Nat) (hD : n = D.length) (hn : n ≤ 1048576) (hy : y1.length = n1) (hm : n1 ≤ 1048576) {Post : Ex → List SV → List Blk → Prop} (hp : ∀ g, Post .normal (fill g 0 (N2 0 (n + n1))) (mem y1 n1 t1 ty (D ++ ((y1.drop 0).take n1)) (n + n1) none)) (g : Nat → SV) :
    RunsL Tryd.prog G 2 (opsOf R18) (opsOf R18).toList (fill g 0 (N2 0 n)) (mem y1 n1 t1 ty D lo none) Post := by
  refine RunsL.room 2 (n + n1) (own := true) (ty := 5) (kd := .u8) (xs := D) (lo := lo) rfl ?_ ?_
  · refine RunsL.of_outX tys_ok 7 (r0 y1 n1 t1 ty D n g) ⟨by omega, hD, by omega, trivial⟩ (idsN2 y1 n1 t1 ty _ _ _ _ _) rfl fun g => ?_
    rw [nil18]
    exact RunsL.nil (hp g)
  · refine RunsL.of_outN tys_ok 7 _ (s0' y1 n1 t1 ty D n lo g) ⟨by omega, hD, by omega, room8 _ (by omega), trivial⟩ (idsN2 y1 n1 t1 ty _ _ _ _ _) rfl fun g => ?_
    rw [nil18]
    exact RunsL.nil (hp g)
theorem hz {G : Glob} (y1 : List Int) (n1 : Nat) (t1 : TypeId) (ty : TypeId) (D : List Int) (n lo : Nat) (g : Nat → SV) : outX (mem y1 n1 t1 ty D lo none).length (MZ n) (exec (Γ (G := G)) tys 100 L ⟨fill g 0 (M2 1 n), mem y1 n1 t1 ty D lo none, []⟩) = some (.exit 2, live (MZ n), (MZ n).length, mem y1 n1 t1 ty D lo none, []) := by kernel_rfl
noncomputable def fin (G : Glob) (y1 : List Int) (n1 : Nat) (t1 : TypeId) (ty : TypeId) (D : List Int) (n lo : Nat) (g : Nat → SV) : St := outS (Γ (G := G)) tys 100 renc.D ⟨fill g 0 (MZ n), mem y1 n1 t1 ty D lo none, []⟩
theorem d {G : Glob} (y1 : List Int) (n1 : Nat) (t1 : TypeId) (ty : TypeId) (D : List Int) (n lo : Nat) (g : Nat → SV) : exec (Γ (G := G)) tys 100 renc.D ⟨fill g 0 (MZ n), mem y1 n1 t1 ty D lo none, []⟩ = some (.ret, ⟨(fin G y1 n1 t1 ty D n lo g).tm, (fin G y1 n1 t1 ty D n lo g).mem, []⟩, []) := by kernel_rfl
theorem res {G : Glob} (y1 : List Int) (n1 : Nat) (t1 : TypeId) (ty : TypeId) (D : List Int) (n lo : Nat) (g : Nat → SV) : eRes tys (fin G y1 n1 t1 ty D n lo g).tm (fun k => (fin G y1 n1 t1 ty D n lo g).mem[k]?) fn.results.toList = some [.a (.slg 2 n), .a (.v (.int .i64 0))] := by kernel_rfl
theorem row {G : Glob} (y1 : List Int) (n1 : Nat) (t1 : TypeId) (ty : TypeId) (D : List Int) (n lo : Nat) (g : Nat → SV) : (fin G y1 n1 t1 ty D n lo g).mem[2]? = some ⟨true, 5, .gro .u8 D lo none⟩ := by kernel_rfl
def Mx (y1 : List Int) (n1 : Nat) (t1 : TypeId) (ty : TypeId) : Nat → List (Option SV)
  | 0 => M1 0
  | _ => M2 1 (4 + 4 + n1)
def Bx (y1 : List Int) (n1 : Nat) (t1 : TypeId) (ty : TypeId) : Nat → List Blk
  | 0 => mem0 y1 n1 t1 ty 
  | _ => mem y1 n1 t1 ty (b4 1 ++ b4 ((n1 : Nat) : Int) ++ ((y1.drop 0).take n1)) (4 + 4 + n1) none
theorem walk {G : Glob} (y1 : List Int) (n1 : Nat) (t1 : TypeId) (ty : TypeId) (h1 : y1.length = n1) (hT : encT [y1] ≤ 1048576) :
    RunsF Tryd.prog G 2 body (startT fn [.o (.a (.slc 0 0 1 1))]) (args y1 n1 t1 ty ) (EndsM tys fn (endsQ (rencRes [y1]) (.new 5 (.gro .u8 (encB [y1]) (encT [y1]) none)))) := by
  have hE : encT [y1] = 4 + 4 + n1 := by simp only [encT, encL]; omega
  have el1 : ((y1.drop 0).take n1).length = n1 := by rw [dt y1 n1 h1]; exact h1
  refine Runs.of_outXP tys_ok mixed 5 (s0 y1 n1 t1 ty ) (holds0 y1 n1 t1 ty (by omega)) (ids0 y1 n1 t1 ty ) rfl fun g => ?_
  rw [suf_eq]
  refine Runs.seq (Runs.seq (Runs.of_outX tys_ok mixed (a14 y1 n1 t1 ty g) trivial (ids1 y1 n1 t1 ty 0) rfl fun g => ?_))
  refine Runs.block ?_
  refine Runs.loopX (Mx y1 n1 t1 ty ) (Bx y1 n1 t1 ty ) (fun i => i ≤ 1) (fun i => 1 - i) ?_ 0 (by omega) g
  intro i g hi
  obtain rfl | rfl : i = 0 ∨ i = 1 := by omega
  · refine Runs.of_outXP tys_ok mixed 2 (hd0 y1 n1 t1 ty g) trivial (ids1 y1 n1 t1 ty 0) rfl fun g => ?_
    rw [L_eq]
    refine Runs.seq (Runs.block (Runs.of_outXP tys_ok mixed 1 (x0 y1 n1 t1 ty g) trivial (idsN1 y1 n1 t1 ty 0) rfl fun g => ?_))
    rw [B3_eq]
    refine Runs.seq (Runs.region (u0 y1 n1 t1 ty (fun g => ?_) g))
    refine Runs.region (v0 y1 n1 t1 ty (b4 1 ++ b4 ((n1 : Nat) : Int)) (4 + 4) (4 + 4) (by simp only [List.length_append, b4_len, el1]) (by omega) h1 (by omega) (fun g => ?_) g)
    exact Runs.of_outX tys_ok mixed (e0 y1 n1 t1 ty _ _ _ g) trivial (ids2 y1 n1 t1 ty _ _ _ _ _) rfl fun g => ⟨1, g, rfl, rfl, by omega, by omega⟩
  · refine Runs.of_outX tys_ok mixed (hz y1 n1 t1 ty (b4 1 ++ b4 ((n1 : Nat) : Int) ++ ((y1.drop 0).take n1)) (4 + 4 + n1) (4 + 4 + n1) g) trivial (idsZ y1 n1 t1 ty _ _ _ _) rfl fun g => ?_
    refine Runs.of_exec tys_ok mixed (d y1 n1 t1 ty _ _ _ g) trivial (EndsM.ret (res y1 n1 t1 ty _ _ _ g) ⟨2, ?_, ?_⟩)
    · unfold rencRes
      rw [hE]
      rfl
    · rw [row, hE]
      congr 3
      simp only [dt y1 n1 h1, encB, encR, List.append_assoc, List.append_nil, h1]
      rfl
def D : Dec Tryd.prog LstA := Dec.list Tryd.prog .u8 [true] rencRes (fun ls => .new 5 (.gro .u8 (encB ls) (encT ls) none)) (fun ls => [encT ls ≤ 1048576]) (fun ls => rfl)
noncomputable def con {G : Glob} : Con Tryd.prog G := Con.hand tys_ok 17 fn Tryd.func17 (by kernel_rfl) (c := body) (by kernel_rfl) D
  (fun x hc hi => by
    obtain ⟨its, m, ty⟩ := x
    obtain ⟨hs, hn, hy⟩ := hi
    have hp := (holds_append hc).2.1
    simp only at hs hn hy hp
    obtain ⟨a1, t1, rfl, q1⟩ := shp_cons hs
    obtain rfl := shp_nil q1
    have hn : m = 1 := hn
    subst hn
    exact walk a1.ys a1.n a1.ty ty (hy a1 (by simp [winsI])) hp)
end k1
namespace k2
def args (y1 : List Int) (n1 : Nat) (t1 : TypeId) (y2 : List Int) (n2 : Nat) (t2 : TypeId) (ty : TypeId) : List Blk := [⟨false, ty, .lit [.slg 1 n1, .slg 2 n2]⟩, ⟨false, t1, .pre .u8 y1⟩, ⟨false, t2, .pre .u8 y2⟩]
def mem0 (y1 : List Int) (n1 : Nat) (t1 : TypeId) (y2 : List Int) (n2 : Nat) (t2 : TypeId) (ty : TypeId) : List Blk := args y1 n1 t1 y2 n2 t2 ty ++ [⟨true, 5, .lit ((b4 2).map (int1 .u8))⟩]
def mem (y1 : List Int) (n1 : Nat) (t1 : TypeId) (y2 : List Int) (n2 : Nat) (t2 : TypeId) (ty : TypeId) (D : List Int) (lo : Nat) (hi : Option Nat) : List Blk := args y1 n1 t1 y2 n2 t2 ty ++ [⟨true, 5, .gro .u8 D lo hi⟩]
def M0 : List (Option SV) := maskL 61 0 [(0, .o (.a (.slc 0 0 2 2))), (6, .o (.a (.slc 3 0 4 4)))]
def M1 (i : Int) : List (Option SV) := maskL 61 0 [(0, .o (.a (.slc 0 0 2 2))), (6, .o (.a (.slc 3 0 4 4))), (41, .o (.a (.v (.int .i64 2)))), (42, .o (.a (.v (.int .i64 i))))]
def M2 (i : Int) (n : Nat) : List (Option SV) := maskL 61 0 [(0, .o (.a (.slc 0 0 2 2))), (6, .o (.a (.slg 3 n))), (41, .o (.a (.v (.int .i64 2)))), (42, .o (.a (.v (.int .i64 i))))]
def N1 (i : Int) : List (Option SV) := maskL 61 0 [(0, .o (.a (.slc 0 0 2 2))), (6, .o (.a (.slc 3 0 4 4))), (7, .o (.a (.v (.int .i64 i)))), (41, .o (.a (.v (.int .i64 2)))), (42, .o (.a (.v (.int .i64 i))))]
def N2 (i : Int) (n : Nat) : List (Option SV) := maskL 61 0 [(0, .o (.a (.slc 0 0 2 2))), (6, .o (.a (.slg 3 n))), (7, .o (.a (.v (.int .i64 i)))), (41, .o (.a (.v (.int .i64 2)))), (42, .o (.a (.v (.int .i64 i))))]
def MZ (n : Nat) : List (Option SV) := maskL 61 0 [(6, .o (.a (.slg 3 n)))]
theorem ids0 (y1 : List Int) (n1 : Nat) (t1 : TypeId) (y2 : List Int) (n2 : Nat) (t2 : TypeId) (ty : TypeId) : idsIn (mem0 y1 n1 t1 y2 n2 t2 ty ).length (M0) (mem0 y1 n1 t1 y2 n2 t2 ty ) = true := by kernel_rfl
theorem ids1 (y1 : List Int) (n1 : Nat) (t1 : TypeId) (y2 : List Int) (n2 : Nat) (t2 : TypeId) (ty : TypeId) (i : Int) : idsIn (mem0 y1 n1 t1 y2 n2 t2 ty ).length (M1 i) (mem0 y1 n1 t1 y2 n2 t2 ty ) = true := by kernel_rfl
theorem idsN1 (y1 : List Int) (n1 : Nat) (t1 : TypeId) (y2 : List Int) (n2 : Nat) (t2 : TypeId) (ty : TypeId) (i : Int) : idsIn (mem0 y1 n1 t1 y2 n2 t2 ty ).length (N1 i) (mem0 y1 n1 t1 y2 n2 t2 ty ) = true := by kernel_rfl
theorem ids2 (y1 : List Int) (n1 : Nat) (t1 : TypeId) (y2 : List Int) (n2 : Nat) (t2 : TypeId) (ty : TypeId) (D : List Int) (n lo : Nat) (hi : Option Nat) (i : Int) : idsIn (mem y1 n1 t1 y2 n2 t2 ty D lo hi).length (M2 i n) (mem y1 n1 t1 y2 n2 t2 ty D lo hi) = true := by kernel_rfl
theorem idsN2 (y1 : List Int) (n1 : Nat) (t1 : TypeId) (y2 : List Int) (n2 : Nat) (t2 : TypeId) (ty : TypeId) (D : List Int) (n lo : Nat) (hi : Option Nat) (i : Int) : idsIn (mem y1 n1 t1 y2 n2 t2 ty D lo hi).length (N2 i n) (mem y1 n1 t1 y2 n2 t2 ty D lo hi) = true := by kernel_rfl
theorem idsZ (y1 : List Int) (n1 : Nat) (t1 : TypeId) (y2 : List Int) (n2 : Nat) (t2 : TypeId) (ty : TypeId) (D : List Int) (n lo : Nat) (hi : Option Nat) : idsIn (mem y1 n1 t1 y2 n2 t2 ty D lo hi).length (MZ n) (mem y1 n1 t1 y2 n2 t2 ty D lo hi) = true := by kernel_rfl
def c0 (y1 : List Int) (n1 : Nat) (t1 : TypeId) (y2 : List Int) (n2 : Nat) (t2 : TypeId) (ty : TypeId) : Cst := [decide (((n1 : Nat) : Int) > 1048576) = false, IntKind.i64.wrap (((4 : Nat) : Int) + 4) = ((4 + 4 : Nat) : Int), IntKind.i64.wrap (((4 + 4 : Nat) : Int) + ((n1 : Nat) : Int)) = ((4 + 4 + n1 : Nat) : Int), decide (((4 + 4 + n1 : Nat) : Int) > 1048576) = false, decide (((n2 : Nat) : Int) > 1048576) = false, IntKind.i64.wrap (((4 + 4 + n1 : Nat) : Int) + 4) = ((4 + 4 + n1 + 4 : Nat) : Int), IntKind.i64.wrap (((4 + 4 + n1 + 4 : Nat) : Int) + ((n2 : Nat) : Int)) = ((4 + 4 + n1 + 4 + n2 : Nat) : Int), decide (((4 + 4 + n1 + 4 + n2 : Nat) : Int) > 1048576) = false, decide (((4 + 4 + n1 + 4 + n2 : Nat) : Int) > 1048576) = false]
theorem holds0 (y1 : List Int) (n1 : Nat) (t1 : TypeId) (y2 : List Int) (n2 : Nat) (t2 : TypeId) (ty : TypeId) (hT : 4 + 4 + n1 + 4 + n2 ≤ 1048576) : Holds (c0 y1 n1 t1 y2 n2 t2 ty ) := ⟨decide_eq_false (by omega), by rw [wi64 _ (by omega) (by omega)] <;> omega, by rw [wi64 _ (by omega) (by omega)] <;> omega, decide_eq_false (by omega), decide_eq_false (by omega), by rw [wi64 _ (by omega) (by omega)] <;> omega, by rw [wi64 _ (by omega) (by omega)] <;> omega, decide_eq_false (by omega), decide_eq_false (by omega), trivial⟩
theorem s0 {G : Glob} (y1 : List Int) (n1 : Nat) (t1 : TypeId) (y2 : List Int) (n2 : Nat) (t2 : TypeId) (ty : TypeId) : outX (mem0 y1 n1 t1 y2 n2 t2 ty ).length M0 (exec (Γ (G := G)) tys 200 (cpre 5 body) ⟨startT fn [.o (.a (.slc 0 0 2 2))], args y1 n1 t1 y2 n2 t2 ty , [(18, [.b false, .b false]), (20, [.n ((4 + 4 : Nat) : Int), .n ((4 + 4 + n1 + 4 : Nat) : Int)]), (26, [.n ((4 + 4 + n1 : Nat) : Int), .n ((4 + 4 + n1 + 4 + n2 : Nat) : Int)]), (28, [.b false, .b false]), (35, [.b false])]⟩) = some (.normal, live M0, M0.length, mem0 y1 n1 t1 y2 n2 t2 ty , c0 y1 n1 t1 y2 n2 t2 ty ) := by kernel_rfl
theorem a14 {G : Glob} (y1 : List Int) (n1 : Nat) (t1 : TypeId) (y2 : List Int) (n2 : Nat) (t2 : TypeId) (ty : TypeId) (g : Nat → SV) : outX (mem0 y1 n1 t1 y2 n2 t2 ty ).length (M1 0) (exec (Γ (G := G)) tys 200 A14 ⟨fill g 0 (M0), mem0 y1 n1 t1 y2 n2 t2 ty , []⟩) = some (.normal, live (M1 0), (M1 0).length, mem0 y1 n1 t1 y2 n2 t2 ty , []) := by kernel_rfl
theorem hd0 {G : Glob} (y1 : List Int) (n1 : Nat) (t1 : TypeId) (y2 : List Int) (n2 : Nat) (t2 : TypeId) (ty : TypeId) (g : Nat → SV) : outX (mem0 y1 n1 t1 y2 n2 t2 ty ).length (M1 0) (exec (Γ (G := G)) tys 100 (cpre 2 L) ⟨fill g 0 (M1 0), mem0 y1 n1 t1 y2 n2 t2 ty , []⟩) = some (.normal, live (M1 0), (M1 0).length, mem0 y1 n1 t1 y2 n2 t2 ty , []) := by kernel_rfl
theorem x0 {G : Glob} (y1 : List Int) (n1 : Nat) (t1 : TypeId) (y2 : List Int) (n2 : Nat) (t2 : TypeId) (ty : TypeId) (g : Nat → SV) : outX (mem0 y1 n1 t1 y2 n2 t2 ty ).length (N1 0) (exec (Γ (G := G)) tys 100 (cpre 1 B3) ⟨fill g 0 (M1 0), mem0 y1 n1 t1 y2 n2 t2 ty , []⟩) = some (.normal, live (N1 0), (N1 0).length, mem0 y1 n1 t1 y2 n2 t2 ty , []) := by kernel_rfl
theorem p0 {G : Glob} (y1 : List Int) (n1 : Nat) (t1 : TypeId) (y2 : List Int) (n2 : Nat) (t2 : TypeId) (ty : TypeId) (g : Nat → SV) : outNL [0, 1, 2, 5] (N2 0 (4 + 4)) (runOps (Γ (G := G)) tys (opsOf R17).toList ((opsOf R17).toList.take 9) ⟨fill g 0 (N1 0), mem0 y1 n1 t1 y2 n2 t2 ty , []⟩) = some ((live (N2 0 (4 + 4))).map (SV.ren (piF [0, 1, 2, 5])), (N2 0 (4 + 4)).length, (mem y1 n1 t1 y2 n2 t2 ty (b4 2 ++ b4 ((n1 : Nat) : Int)) (4 + 4) none).map (fun b => some (b.ren (piF [0, 1, 2, 5]))), [0 + 4 ≤ 4, 0 + 4 ≤ 4, 4 < 4 + 4, Room Tryd.prog 5 (4 + 4)]) := by kernel_rfl
theorem r0 {G : Glob} (y1 : List Int) (n1 : Nat) (t1 : TypeId) (y2 : List Int) (n2 : Nat) (t2 : TypeId) (ty : TypeId) (D : List Int) (n : Nat) (g : Nat → SV) : outXL (mem y1 n1 t1 y2 n2 t2 ty (D ++ ((y1.drop 0).take n1)) (n + n1) none).length (N2 0 (n + n1)) (runOps (Γ (G := G)) tys (opsOf R18).toList ((opsOf R18).toList.take 7) ⟨fill g 0 (N2 0 n), mem y1 n1 t1 y2 n2 t2 ty D (n + n1) none, []⟩) = some (live (N2 0 (n + n1)), (N2 0 (n + n1)).length, mem y1 n1 t1 y2 n2 t2 ty (D ++ ((y1.drop 0).take n1)) (n + n1) none, [0 + n1 ≤ y1.length, n = D.length, n + n1 ≤ n + n1]) := by kernel_rfl
theorem s0' {G : Glob} (y1 : List Int) (n1 : Nat) (t1 : TypeId) (y2 : List Int) (n2 : Nat) (t2 : TypeId) (ty : TypeId) (D : List Int) (n : Nat) (lo : Nat) (g : Nat → SV) : outNL [0, 1, 2, 4] (N2 0 (n + n1)) (runOps (Γ (G := G)) tys (opsOf R18).toList ((opsOf R18).toList.take 7) ⟨fill g 0 (N2 0 n), mem y1 n1 t1 y2 n2 t2 ty D lo (some (n + n1)), []⟩) = some ((live (N2 0 (n + n1))).map (SV.ren (piF [0, 1, 2, 4])), (N2 0 (n + n1)).length, (mem y1 n1 t1 y2 n2 t2 ty (D ++ ((y1.drop 0).take n1)) (n + n1) none).map (fun b => some (b.ren (piF [0, 1, 2, 4]))), [0 + n1 ≤ y1.length, n = D.length, n + n1 ≤ n + n1, Room Tryd.prog 5 (n + n1)]) := by kernel_rfl
theorem e0 {G : Glob} (y1 : List Int) (n1 : Nat) (t1 : TypeId) (y2 : List Int) (n2 : Nat) (t2 : TypeId) (ty : TypeId) (D : List Int) (n : Nat) (lo : Nat) (g : Nat → SV) : outX (mem y1 n1 t1 y2 n2 t2 ty D lo none).length (M2 1 n) (exec (Γ (G := G)) tys 100 R19 ⟨fill g 0 (N2 0 n), mem y1 n1 t1 y2 n2 t2 ty D lo none, []⟩) = some (.normal, live (M2 1 n), (M2 1 n).length, mem y1 n1 t1 y2 n2 t2 ty D lo none, []) := by kernel_rfl
theorem hd1 {G : Glob} (y1 : List Int) (n1 : Nat) (t1 : TypeId) (y2 : List Int) (n2 : Nat) (t2 : TypeId) (ty : TypeId) (D : List Int) (n : Nat) (lo : Nat) (g : Nat → SV) : outX (mem y1 n1 t1 y2 n2 t2 ty D lo none).length (M2 1 n) (exec (Γ (G := G)) tys 100 (cpre 2 L) ⟨fill g 0 (M2 1 n), mem y1 n1 t1 y2 n2 t2 ty D lo none, []⟩) = some (.normal, live (M2 1 n), (M2 1 n).length, mem y1 n1 t1 y2 n2 t2 ty D lo none, []) := by kernel_rfl
theorem x1 {G : Glob} (y1 : List Int) (n1 : Nat) (t1 : TypeId) (y2 : List Int) (n2 : Nat) (t2 : TypeId) (ty : TypeId) (D : List Int) (n : Nat) (lo : Nat) (g : Nat → SV) : outX (mem y1 n1 t1 y2 n2 t2 ty D lo none).length (N2 1 n) (exec (Γ (G := G)) tys 100 (cpre 1 B3) ⟨fill g 0 (M2 1 n), mem y1 n1 t1 y2 n2 t2 ty D lo none, []⟩) = some (.normal, live (N2 1 n), (N2 1 n).length, mem y1 n1 t1 y2 n2 t2 ty D lo none, []) := by kernel_rfl
theorem p1 {G : Glob} (y1 : List Int) (n1 : Nat) (t1 : TypeId) (y2 : List Int) (n2 : Nat) (t2 : TypeId) (ty : TypeId) (D : List Int) (n : Nat) (g : Nat → SV) : outXL (mem y1 n1 t1 y2 n2 t2 ty (D ++ b4 ((n2 : Nat) : Int)) (n + 4) none).length (N2 1 (n + 4)) (runOps (Γ (G := G)) tys (opsOf R17).toList ((opsOf R17).toList.take 9) ⟨fill g 0 (N2 1 n), mem y1 n1 t1 y2 n2 t2 ty D (n + 4) none, []⟩) = some (live (N2 1 (n + 4)), (N2 1 (n + 4)).length, mem y1 n1 t1 y2 n2 t2 ty (D ++ b4 ((n2 : Nat) : Int)) (n + 4) none, [0 + 4 ≤ 4, n = D.length, n + 4 ≤ n + 4]) := by kernel_rfl
theorem q1 {G : Glob} (y1 : List Int) (n1 : Nat) (t1 : TypeId) (y2 : List Int) (n2 : Nat) (t2 : TypeId) (ty : TypeId) (D : List Int) (n : Nat) (lo : Nat) (g : Nat → SV) : outNL [0, 1, 2, 5] (N2 1 (n + 4)) (runOps (Γ (G := G)) tys (opsOf R17).toList ((opsOf R17).toList.take 9) ⟨fill g 0 (N2 1 n), mem y1 n1 t1 y2 n2 t2 ty D lo (some (n + 4)), []⟩) = some ((live (N2 1 (n + 4))).map (SV.ren (piF [0, 1, 2, 5])), (N2 1 (n + 4)).length, (mem y1 n1 t1 y2 n2 t2 ty (D ++ b4 ((n2 : Nat) : Int)) (n + 4) none).map (fun b => some (b.ren (piF [0, 1, 2, 5]))), [0 + 4 ≤ 4, n = D.length, n + 4 ≤ n + 4, Room Tryd.prog 5 (n + 4)]) := by kernel_rfl
theorem r1 {G : Glob} (y1 : List Int) (n1 : Nat) (t1 : TypeId) (y2 : List Int) (n2 : Nat) (t2 : TypeId) (ty : TypeId) (D : List Int) (n : Nat) (g : Nat → SV) : outXL (mem y1 n1 t1 y2 n2 t2 ty (D ++ ((y2.drop 0).take n2)) (n + n2) none).length (N2 1 (n + n2)) (runOps (Γ (G := G)) tys (opsOf R18).toList ((opsOf R18).toList.take 7) ⟨fill g 0 (N2 1 n), mem y1 n1 t1 y2 n2 t2 ty D (n + n2) none, []⟩) = some (live (N2 1 (n + n2)), (N2 1 (n + n2)).length, mem y1 n1 t1 y2 n2 t2 ty (D ++ ((y2.drop 0).take n2)) (n + n2) none, [0 + n2 ≤ y2.length, n = D.length, n + n2 ≤ n + n2]) := by kernel_rfl
theorem s1' {G : Glob} (y1 : List Int) (n1 : Nat) (t1 : TypeId) (y2 : List Int) (n2 : Nat) (t2 : TypeId) (ty : TypeId) (D : List Int) (n : Nat) (lo : Nat) (g : Nat → SV) : outNL [0, 1, 2, 4] (N2 1 (n + n2)) (runOps (Γ (G := G)) tys (opsOf R18).toList ((opsOf R18).toList.take 7) ⟨fill g 0 (N2 1 n), mem y1 n1 t1 y2 n2 t2 ty D lo (some (n + n2)), []⟩) = some ((live (N2 1 (n + n2))).map (SV.ren (piF [0, 1, 2, 4])), (N2 1 (n + n2)).length, (mem y1 n1 t1 y2 n2 t2 ty (D ++ ((y2.drop 0).take n2)) (n + n2) none).map (fun b => some (b.ren (piF [0, 1, 2, 4]))), [0 + n2 ≤ y2.length, n = D.length, n + n2 ≤ n + n2, Room Tryd.prog 5 (n + n2)]) := by kernel_rfl
theorem e1 {G : Glob} (y1 : List Int) (n1 : Nat) (t1 : TypeId) (y2 : List Int) (n2 : Nat) (t2 : TypeId) (ty : TypeId) (D : List Int) (n : Nat) (lo : Nat) (g : Nat → SV) : outX (mem y1 n1 t1 y2 n2 t2 ty D lo none).length (M2 2 n) (exec (Γ (G := G)) tys 100 R19 ⟨fill g 0 (N2 1 n), mem y1 n1 t1 y2 n2 t2 ty D lo none, []⟩) = some (.normal, live (M2 2 n), (M2 2 n).length, mem y1 n1 t1 y2 n2 t2 ty D lo none, []) := by kernel_rfl
theorem u0 {G : Glob} (y1 : List Int) (n1 : Nat) (t1 : TypeId) (y2 : List Int) (n2 : Nat) (t2 : TypeId) (ty : TypeId) {Post : Ex → List SV → List Blk → Prop} (hp : ∀ g, Post .normal (fill g 0 (N2 0 (4 + 4))) (mem y1 n1 t1 y2 n2 t2 ty (b4 2 ++ b4 ((n1 : Nat) : Int)) (4 + 4) none)) (g : Nat → SV) :
    RunsL Tryd.prog G 3 (opsOf R17) (opsOf R17).toList (fill g 0 (N1 0)) (mem0 y1 n1 t1 y2 n2 t2 ty ) Post := by
  refine RunsL.of_outN tys_ok 9 _ (p0 y1 n1 t1 y2 n2 t2 ty g) ⟨by omega, by omega, by omega, room8 _ (by omega), trivial⟩ (idsN2 y1 n1 t1 y2 n2 t2 ty _ _ _ _ _) rfl fun g => ?_
  rw [nil17]
  exact RunsL.nil (hp g)
theorem v0 {G : Glob} (y1 : List Int) (n1 : Nat) (t1 : TypeId) (y2 : List Int) (n2 : Nat) (t2 : TypeId) (ty : TypeId) (D : List Int) (n lo : Nat) (hD : n = D.length) (hn : n ≤ 1048576) (hy : y1.length = n1) (hm : n1 ≤ 1048576) {Post : Ex → List SV → List Blk → Prop} (hp : ∀ g, Post .normal (fill g 0 (N2 0 (n + n1))) (mem y1 n1 t1 y2 n2 t2 ty (D ++ ((y1.drop 0).take n1)) (n + n1) none)) (g : Nat → SV) :
    RunsL Tryd.prog G 3 (opsOf R18) (opsOf R18).toList (fill g 0 (N2 0 n)) (mem y1 n1 t1 y2 n2 t2 ty D lo none) Post := by
  refine RunsL.room 3 (n + n1) (own := true) (ty := 5) (kd := .u8) (xs := D) (lo := lo) rfl ?_ ?_
  · refine RunsL.of_outX tys_ok 7 (r0 y1 n1 t1 y2 n2 t2 ty D n g) ⟨by omega, hD, by omega, trivial⟩ (idsN2 y1 n1 t1 y2 n2 t2 ty _ _ _ _ _) rfl fun g => ?_
    rw [nil18]
    exact RunsL.nil (hp g)
  · refine RunsL.of_outN tys_ok 7 _ (s0' y1 n1 t1 y2 n2 t2 ty D n lo g) ⟨by omega, hD, by omega, room8 _ (by omega), trivial⟩ (idsN2 y1 n1 t1 y2 n2 t2 ty _ _ _ _ _) rfl fun g => ?_
    rw [nil18]
    exact RunsL.nil (hp g)
theorem u1 {G : Glob} (y1 : List Int) (n1 : Nat) (t1 : TypeId) (y2 : List Int) (n2 : Nat) (t2 : TypeId) (ty : TypeId) (D : List Int) (n lo : Nat) (hD : n = D.length) (hn : n ≤ 1048576) {Post : Ex → List SV → List Blk → Prop} (hp : ∀ g, Post .normal (fill g 0 (N2 1 (n + 4))) (mem y1 n1 t1 y2 n2 t2 ty (D ++ b4 ((n2 : Nat) : Int)) (n + 4) none)) (g : Nat → SV) :
    RunsL Tryd.prog G 3 (opsOf R17) (opsOf R17).toList (fill g 0 (N2 1 n)) (mem y1 n1 t1 y2 n2 t2 ty D lo none) Post := by
  refine RunsL.room 3 (n + 4) (own := true) (ty := 5) (kd := .u8) (xs := D) (lo := lo) rfl ?_ ?_
  · refine RunsL.of_outX tys_ok 9 (p1 y1 n1 t1 y2 n2 t2 ty D n g) ⟨by omega, hD, by omega, trivial⟩ (idsN2 y1 n1 t1 y2 n2 t2 ty _ _ _ _ _) rfl fun g => ?_
    rw [nil17]
    exact RunsL.nil (hp g)
  · refine RunsL.of_outN tys_ok 9 _ (q1 y1 n1 t1 y2 n2 t2 ty D n lo g) ⟨by omega, hD, by omega, room8 _ (by omega), trivial⟩ (idsN2 y1 n1 t1 y2 n2 t2 ty _ _ _ _ _) rfl fun g => ?_
    rw [nil17]
    exact RunsL.nil (hp g)
theorem v1 {G : Glob} (y1 : List Int) (n1 : Nat) (t1 : TypeId) (y2 : List Int) (n2 : Nat) (t2 : TypeId) (ty : TypeId) (D : List Int) (n lo : Nat) (hD : n = D.length) (hn : n ≤ 1048576) (hy : y2.length = n2) (hm : n2 ≤ 1048576) {Post : Ex → List SV → List Blk → Prop} (hp : ∀ g, Post .normal (fill g 0 (N2 1 (n + n2))) (mem y1 n1 t1 y2 n2 t2 ty (D ++ ((y2.drop 0).take n2)) (n + n2) none)) (g : Nat → SV) :
    RunsL Tryd.prog G 3 (opsOf R18) (opsOf R18).toList (fill g 0 (N2 1 n)) (mem y1 n1 t1 y2 n2 t2 ty D lo none) Post := by
  refine RunsL.room 3 (n + n2) (own := true) (ty := 5) (kd := .u8) (xs := D) (lo := lo) rfl ?_ ?_
  · refine RunsL.of_outX tys_ok 7 (r1 y1 n1 t1 y2 n2 t2 ty D n g) ⟨by omega, hD, by omega, trivial⟩ (idsN2 y1 n1 t1 y2 n2 t2 ty _ _ _ _ _) rfl fun g => ?_
    rw [nil18]
    exact RunsL.nil (hp g)
  · refine RunsL.of_outN tys_ok 7 _ (s1' y1 n1 t1 y2 n2 t2 ty D n lo g) ⟨by omega, hD, by omega, room8 _ (by omega), trivial⟩ (idsN2 y1 n1 t1 y2 n2 t2 ty _ _ _ _ _) rfl fun g => ?_
    rw [nil18]
    exact RunsL.nil (hp g)
theorem hz {G : Glob} (y1 : List Int) (n1 : Nat) (t1 : TypeId) (y2 : List Int) (n2 : Nat) (t2 : TypeId) (ty : TypeId) (D : List Int) (n lo : Nat) (g : Nat → SV) : outX (mem y1 n1 t1 y2 n2 t2 ty D lo none).length (MZ n) (exec (Γ (G := G)) tys 100 L ⟨fill g 0 (M2 2 n), mem y1 n1 t1 y2 n2 t2 ty D lo none, []⟩) = some (.exit 2, live (MZ n), (MZ n).length, mem y1 n1 t1 y2 n2 t2 ty D lo none, []) := by kernel_rfl
noncomputable def fin (G : Glob) (y1 : List Int) (n1 : Nat) (t1 : TypeId) (y2 : List Int) (n2 : Nat) (t2 : TypeId) (ty : TypeId) (D : List Int) (n lo : Nat) (g : Nat → SV) : St := outS (Γ (G := G)) tys 100 renc.D ⟨fill g 0 (MZ n), mem y1 n1 t1 y2 n2 t2 ty D lo none, []⟩
theorem d {G : Glob} (y1 : List Int) (n1 : Nat) (t1 : TypeId) (y2 : List Int) (n2 : Nat) (t2 : TypeId) (ty : TypeId) (D : List Int) (n lo : Nat) (g : Nat → SV) : exec (Γ (G := G)) tys 100 renc.D ⟨fill g 0 (MZ n), mem y1 n1 t1 y2 n2 t2 ty D lo none, []⟩ = some (.ret, ⟨(fin G y1 n1 t1 y2 n2 t2 ty D n lo g).tm, (fin G y1 n1 t1 y2 n2 t2 ty D n lo g).mem, []⟩, []) := by kernel_rfl
theorem res {G : Glob} (y1 : List Int) (n1 : Nat) (t1 : TypeId) (y2 : List Int) (n2 : Nat) (t2 : TypeId) (ty : TypeId) (D : List Int) (n lo : Nat) (g : Nat → SV) : eRes tys (fin G y1 n1 t1 y2 n2 t2 ty D n lo g).tm (fun k => (fin G y1 n1 t1 y2 n2 t2 ty D n lo g).mem[k]?) fn.results.toList = some [.a (.slg 3 n), .a (.v (.int .i64 0))] := by kernel_rfl
theorem row {G : Glob} (y1 : List Int) (n1 : Nat) (t1 : TypeId) (y2 : List Int) (n2 : Nat) (t2 : TypeId) (ty : TypeId) (D : List Int) (n lo : Nat) (g : Nat → SV) : (fin G y1 n1 t1 y2 n2 t2 ty D n lo g).mem[3]? = some ⟨true, 5, .gro .u8 D lo none⟩ := by kernel_rfl
def Mx (y1 : List Int) (n1 : Nat) (t1 : TypeId) (y2 : List Int) (n2 : Nat) (t2 : TypeId) (ty : TypeId) : Nat → List (Option SV)
  | 0 => M1 0
  | 1 => M2 1 (4 + 4 + n1)
  | _ => M2 2 (4 + 4 + n1 + 4 + n2)
def Bx (y1 : List Int) (n1 : Nat) (t1 : TypeId) (y2 : List Int) (n2 : Nat) (t2 : TypeId) (ty : TypeId) : Nat → List Blk
  | 0 => mem0 y1 n1 t1 y2 n2 t2 ty 
  | 1 => mem y1 n1 t1 y2 n2 t2 ty (b4 2 ++ b4 ((n1 : Nat) : Int) ++ ((y1.drop 0).take n1)) (4 + 4 + n1) none
  | _ => mem y1 n1 t1 y2 n2 t2 ty (b4 2 ++ b4 ((n1 : Nat) : Int) ++ ((y1.drop 0).take n1) ++ b4 ((n2 : Nat) : Int) ++ ((y2.drop 0).take n2)) (4 + 4 + n1 + 4 + n2) none
theorem walk {G : Glob} (y1 : List Int) (n1 : Nat) (t1 : TypeId) (y2 : List Int) (n2 : Nat) (t2 : TypeId) (ty : TypeId) (h1 : y1.length = n1) (h2 : y2.length = n2) (hT : encT [y1, y2] ≤ 1048576) :
    RunsF Tryd.prog G 3 body (startT fn [.o (.a (.slc 0 0 2 2))]) (args y1 n1 t1 y2 n2 t2 ty ) (EndsM tys fn (endsQ (rencRes [y1, y2]) (.new 5 (.gro .u8 (encB [y1, y2]) (encT [y1, y2]) none)))) := by
  have hE : encT [y1, y2] = 4 + 4 + n1 + 4 + n2 := by simp only [encT, encL]; omega
  have el1 : ((y1.drop 0).take n1).length = n1 := by rw [dt y1 n1 h1]; exact h1
  have el2 : ((y2.drop 0).take n2).length = n2 := by rw [dt y2 n2 h2]; exact h2
  refine Runs.of_outXP tys_ok mixed 5 (s0 y1 n1 t1 y2 n2 t2 ty ) (holds0 y1 n1 t1 y2 n2 t2 ty (by omega)) (ids0 y1 n1 t1 y2 n2 t2 ty ) rfl fun g => ?_
  rw [suf_eq]
  refine Runs.seq (Runs.seq (Runs.of_outX tys_ok mixed (a14 y1 n1 t1 y2 n2 t2 ty g) trivial (ids1 y1 n1 t1 y2 n2 t2 ty 0) rfl fun g => ?_))
  refine Runs.block ?_
  refine Runs.loopX (Mx y1 n1 t1 y2 n2 t2 ty ) (Bx y1 n1 t1 y2 n2 t2 ty ) (fun i => i ≤ 2) (fun i => 2 - i) ?_ 0 (by omega) g
  intro i g hi
  obtain rfl | rfl | rfl : i = 0 ∨ i = 1 ∨ i = 2 := by omega
  · refine Runs.of_outXP tys_ok mixed 2 (hd0 y1 n1 t1 y2 n2 t2 ty g) trivial (ids1 y1 n1 t1 y2 n2 t2 ty 0) rfl fun g => ?_
    rw [L_eq]
    refine Runs.seq (Runs.block (Runs.of_outXP tys_ok mixed 1 (x0 y1 n1 t1 y2 n2 t2 ty g) trivial (idsN1 y1 n1 t1 y2 n2 t2 ty 0) rfl fun g => ?_))
    rw [B3_eq]
    refine Runs.seq (Runs.region (u0 y1 n1 t1 y2 n2 t2 ty (fun g => ?_) g))
    refine Runs.region (v0 y1 n1 t1 y2 n2 t2 ty (b4 2 ++ b4 ((n1 : Nat) : Int)) (4 + 4) (4 + 4) (by simp only [List.length_append, b4_len, el1, el2]) (by omega) h1 (by omega) (fun g => ?_) g)
    exact Runs.of_outX tys_ok mixed (e0 y1 n1 t1 y2 n2 t2 ty _ _ _ g) trivial (ids2 y1 n1 t1 y2 n2 t2 ty _ _ _ _ _) rfl fun g => ⟨1, g, rfl, rfl, by omega, by omega⟩
  · refine Runs.of_outXP tys_ok mixed 2 (hd1 y1 n1 t1 y2 n2 t2 ty (b4 2 ++ b4 ((n1 : Nat) : Int) ++ ((y1.drop 0).take n1)) (4 + 4 + n1) (4 + 4 + n1) g) trivial (ids2 y1 n1 t1 y2 n2 t2 ty _ _ _ _ _) rfl fun g => ?_
    rw [L_eq]
    refine Runs.seq (Runs.block (Runs.of_outXP tys_ok mixed 1 (x1 y1 n1 t1 y2 n2 t2 ty _ _ _ g) trivial (idsN2 y1 n1 t1 y2 n2 t2 ty _ _ _ _ _) rfl fun g => ?_))
    rw [B3_eq]
    refine Runs.seq (Runs.region (u1 y1 n1 t1 y2 n2 t2 ty (b4 2 ++ b4 ((n1 : Nat) : Int) ++ ((y1.drop 0).take n1)) (4 + 4 + n1) (4 + 4 + n1) (by simp only [List.length_append, b4_len, el1, el2]) (by omega) (fun g => ?_) g))
    refine Runs.region (v1 y1 n1 t1 y2 n2 t2 ty (b4 2 ++ b4 ((n1 : Nat) : Int) ++ ((y1.drop 0).take n1) ++ b4 ((n2 : Nat) : Int)) (4 + 4 + n1 + 4) (4 + 4 + n1 + 4) (by simp only [List.length_append, b4_len, el1, el2]) (by omega) h2 (by omega) (fun g => ?_) g)
    exact Runs.of_outX tys_ok mixed (e1 y1 n1 t1 y2 n2 t2 ty _ _ _ g) trivial (ids2 y1 n1 t1 y2 n2 t2 ty _ _ _ _ _) rfl fun g => ⟨2, g, rfl, rfl, by omega, by omega⟩
  · refine Runs.of_outX tys_ok mixed (hz y1 n1 t1 y2 n2 t2 ty (b4 2 ++ b4 ((n1 : Nat) : Int) ++ ((y1.drop 0).take n1) ++ b4 ((n2 : Nat) : Int) ++ ((y2.drop 0).take n2)) (4 + 4 + n1 + 4 + n2) (4 + 4 + n1 + 4 + n2) g) trivial (idsZ y1 n1 t1 y2 n2 t2 ty _ _ _ _) rfl fun g => ?_
    refine Runs.of_exec tys_ok mixed (d y1 n1 t1 y2 n2 t2 ty _ _ _ g) trivial (EndsM.ret (res y1 n1 t1 y2 n2 t2 ty _ _ _ g) ⟨3, ?_, ?_⟩)
    · unfold rencRes
      rw [hE]
      rfl
    · rw [row, hE]
      congr 3
      simp only [dt y1 n1 h1, dt y2 n2 h2, encB, encR, List.append_assoc, List.append_nil, h1, h2]
      rfl
def D : Dec Tryd.prog LstA := Dec.list Tryd.prog .u8 [true, true] rencRes (fun ls => .new 5 (.gro .u8 (encB ls) (encT ls) none)) (fun ls => [encT ls ≤ 1048576]) (fun ls => rfl)
noncomputable def con {G : Glob} : Con Tryd.prog G := Con.hand tys_ok 17 fn Tryd.func17 (by kernel_rfl) (c := body) (by kernel_rfl) D
  (fun x hc hi => by
    obtain ⟨its, m, ty⟩ := x
    obtain ⟨hs, hn, hy⟩ := hi
    have hp := (holds_append hc).2.1
    simp only at hs hn hy hp
    obtain ⟨a1, t1, rfl, q1⟩ := shp_cons hs
    obtain ⟨a2, t2, rfl, q2⟩ := shp_cons q1
    obtain rfl := shp_nil q2
    have hn : m = 2 := hn
    subst hn
    exact walk a1.ys a1.n a1.ty a2.ys a2.n a2.ty ty (hy a1 (by simp [winsI])) (hy a2 (by simp [winsI])) hp)
end k2
end renc
end Go.Proofs.YthlmepolmemejaaDoor

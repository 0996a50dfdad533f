/- Package wire: Encode of longer lists of slices: walks, contracts. -/
import Derived.Test.YthlmepolmemejaaDoorDEnc
import Derived.Test.YthlmepolmemejaaDoorDLst
namespace Go.Proofs.YthlmepolmemejaaDoor
open Go Go.Eng Go.RowKit
set_option linter.unusedVariables false
set_option linter.unusedSimpArgs false
set_option maxRecDepth 100000
namespace enc
namespace k2n
noncomputable def e (G : Glob) (a : Option Addr) (z : Nat) (y1 : List Int) (n1 : Nat) (t1 : TypeId) (ty : TypeId) : St := outS (Γ (G := G)) tys 200 body ⟨startT fn [.o (.a (.slc 0 0 2 2))], [⟨false, ty, .lit [.slg 1 n1, .v (.slice a 0 z)]⟩, ⟨false, t1, .pre .u8 y1⟩], [(20, [.n ((4 + 4 : Nat) : Int), .n ((4 + 4 + n1 + 4 : Nat) : Int)]), (24, [.n (1048576 - ((4 + 4 : Nat) : Int)), .n (1048576 - ((4 + 4 + n1 + 4 : Nat) : Int))]), (25, [.b false, .b false]), (29, [.n ((4 + 4 + n1 : Nat) : Int), .n ((4 + 4 + n1 + 4 + 0 : Nat) : Int)])]⟩
def c (a : Option Addr) (z : Nat) (y1 : List Int) (n1 : Nat) (t1 : TypeId) (ty : TypeId) : Cst := [IntKind.i64.wrap (((4 : Nat) : Int) + 4) = ((4 + 4 : Nat) : Int), IntKind.i64.wrap (1048576 - ((4 + 4 : Nat) : Int)) = 1048576 - ((4 + 4 : Nat) : Int), decide (((n1 : Nat) : Int) > 1048576 - ((4 + 4 : Nat) : Int)) = false, IntKind.i64.wrap (((4 + 4 : Nat) : Int) + ((n1 : Nat) : Int)) = ((4 + 4 + n1 : Nat) : Int), IntKind.i64.wrap (((4 + 4 + n1 : Nat) : Int) + 4) = ((4 + 4 + n1 + 4 : Nat) : Int), IntKind.i64.wrap (1048576 - ((4 + 4 + n1 + 4 : Nat) : Int)) = 1048576 - ((4 + 4 + n1 + 4 : Nat) : Int), decide (((0 : Nat) : Int) > 1048576 - ((4 + 4 + n1 + 4 : Nat) : Int)) = false, IntKind.i64.wrap (((4 + 4 + n1 + 4 : Nat) : Int) + ((0 : Nat) : Int)) = ((4 + 4 + n1 + 4 + 0 : Nat) : Int), (0 : Int) ≤ 0, (0 : Int) ≤ ((4 + 4 + n1 + 4 + 0 : Nat) : Int), Room Tryd.prog 5 (4 + 4 + n1 + 4 + 0), 0 ≤ 4 + 4 + n1 + 4 + 0, 0 + 4 ≤ 4 + 4 + n1 + 4 + 0, 0 + 0 + 4 ≤ (List.replicate (4 + 4 + n1 + 4 + 0) (0 : Int)).length, 4 ≤ 4 + 4 + n1 + 4 + 0, 4 + 4 ≤ 4 + 4 + n1 + 4 + 0, 0 + (4) + 4 ≤ (putI (0 + 0) (b4 ((2 : Nat) : Int)) 0 (List.replicate (4 + 4 + n1 + 4 + 0) (0 : Int))).length, 0 + n1 ≤ y1.length, 4 + 4 + n1 ≤ 4 + 4 + n1 + 4 + 0, 0 + (4 + 4) + n1 ≤ (putI (0 + (4)) (b4 ((n1 : Nat) : Int)) 0 (putI (0 + 0) (b4 ((2 : Nat) : Int)) 0 (List.replicate (4 + 4 + n1 + 4 + 0) (0 : Int)))).length, 4 + 4 + n1 ≤ 4 + 4 + n1 + 4 + 0, 4 + 4 + n1 + 4 ≤ 4 + 4 + n1 + 4 + 0, 0 + (4 + 4 + n1) + 4 ≤ (putI (0 + (4 + 4)) ((y1.drop 0).take n1) 0 (putI (0 + (4)) (b4 ((n1 : Nat) : Int)) 0 (putI (0 + 0) (b4 ((2 : Nat) : Int)) 0 (List.replicate (4 + 4 + n1 + 4 + 0) (0 : Int))))).length, 4 + 4 + n1 + 4 + 0 ≤ 4 + 4 + n1 + 4 + 0, 0 + (4 + 4 + n1 + 4) + 0 ≤ (putI (0 + (4 + 4 + n1)) (b4 ((0 : Nat) : Int)) 0 (putI (0 + (4 + 4)) ((y1.drop 0).take n1) 0 (putI (0 + (4)) (b4 ((n1 : Nat) : Int)) 0 (putI (0 + 0) (b4 ((2 : Nat) : Int)) 0 (List.replicate (4 + 4 + n1 + 4 + 0) (0 : Int)))))).length]
theorem ex {G : Glob} (a : Option Addr) (z : Nat) (y1 : List Int) (n1 : Nat) (t1 : TypeId) (ty : TypeId) : exec (Γ (G := G)) tys 200 body ⟨startT fn [.o (.a (.slc 0 0 2 2))], [⟨false, ty, .lit [.slg 1 n1, .v (.slice a 0 z)]⟩, ⟨false, t1, .pre .u8 y1⟩], [(20, [.n ((4 + 4 : Nat) : Int), .n ((4 + 4 + n1 + 4 : Nat) : Int)]), (24, [.n (1048576 - ((4 + 4 : Nat) : Int)), .n (1048576 - ((4 + 4 + n1 + 4 : Nat) : Int))]), (25, [.b false, .b false]), (29, [.n ((4 + 4 + n1 : Nat) : Int), .n ((4 + 4 + n1 + 4 + 0 : Nat) : Int)])]⟩ = some (.ret, ⟨(e G a z y1 n1 t1 ty ).tm, (e G a z y1 n1 t1 ty ).mem, (e G a z y1 n1 t1 ty ).orc⟩, c a z y1 n1 t1 ty ) := by kernel_rfl
theorem res {G : Glob} (a : Option Addr) (z : Nat) (y1 : List Int) (n1 : Nat) (t1 : TypeId) (ty : TypeId) : eRes tys (e G a z y1 n1 t1 ty ).tm (fun k => (e G a z y1 n1 t1 ty ).mem[k]?) fn.results.toList = some [.a (.sld 2 0 0 (4 + 4 + n1 + 4 + 0) (4 + 4 + n1 + 4 + 0)), .a (.v (.int .i64 0))] := by kernel_rfl
theorem row {G : Glob} (a : Option Addr) (z : Nat) (y1 : List Int) (n1 : Nat) (t1 : TypeId) (ty : TypeId) : (e G a z y1 n1 t1 ty ).mem[2]? = some ⟨true, 5, .run .u8 (putA [(n1, (y1.drop 0).take n1), (0, [])] 4 (putI (0 + 0) (b4 ((2 : Nat) : Int)) 0 (List.replicate (4 + 4 + n1 + 4 + 0) 0)))⟩ := by kernel_rfl
theorem holds (a : Option Addr) (z : Nat) (y1 : List Int) (n1 : Nat) (t1 : TypeId) (ty : TypeId) (h1 : y1.length = n1) (hT : 4 + 4 + n1 + 4 + 0 ≤ 1048576) : Holds (c a z y1 n1 t1 ty ) := ⟨by rw [wi64 _ (by omega) (by omega)] <;> omega, by rw [wi64 _ (by omega) (by omega)] <;> omega, decide_eq_false (by omega), by rw [wi64 _ (by omega) (by omega)] <;> omega, by rw [wi64 _ (by omega) (by omega)] <;> omega, by rw [wi64 _ (by omega) (by omega)] <;> omega, decide_eq_false (by omega), by rw [wi64 _ (by omega) (by omega)] <;> omega, by decide, by omega, room8 _ (by omega), by omega, by omega, by simp only [putI_length, List.length_replicate]; omega, by omega, by omega, by simp only [putI_length, List.length_replicate]; omega, by omega, by omega, by simp only [putI_length, List.length_replicate]; omega, by omega, by omega, by simp only [putI_length, List.length_replicate]; omega, by omega, by simp only [putI_length, List.length_replicate]; omega, trivial⟩
theorem run {G : Glob} (a : Option Addr) (z : Nat) (y1 : List Int) (n1 : Nat) (t1 : TypeId) (ty : TypeId) (h1 : y1.length = n1) (hT : encT [y1, []] ≤ 1048576) :
    RunsF Tryd.prog G 2 body (startT fn [.o (.a (.slc 0 0 2 2))]) [⟨false, ty, .lit [.slg 1 n1, .v (.slice a 0 z)]⟩, ⟨false, t1, .pre .u8 y1⟩] (EndsM tys fn (endsQ (encRes [y1, []]) (.new 5 (.run .u8 (encB [y1, []]))))) := by
  have hE : encT [y1, []] = 4 + 4 + n1 + 4 + 0 := by simp only [encT, encL, List.length_nil]; omega
  have hr := row (G := G) a z y1 n1 t1 ty 
  rw [dt y1 n1 h1] at hr
  refine Runs.of_exec tys_ok mixed (ex a z y1 n1 t1 ty ) (holds a z y1 n1 t1 ty h1 (by omega)) (EndsM.ret (res a z y1 n1 t1 ty ) ⟨2, ?_, ?_⟩)
  · unfold encRes
    rw [hE]
    rfl
  · have h := put_all [y1, []]
    rw [hE] at h
    rw [hr, ← h, ← h1]
    rfl
theorem good (ls : List (List Int)) : match (LEff.new 5 (.run .u8 (encB ls))) with | .none => (encRes ls).ids = [] | .new _ row => row.ids = [] | .upd _ _ => False := rfl
def D : Dec Tryd.prog LstA := Dec.listV Tryd.prog .u8 [true, false] encRes (fun ls => .new 5 (.run .u8 (encB ls))) (fun ls => [encT ls ≤ 1048576]) good
noncomputable def con {G : Glob} : Con Tryd.prog G := Con.hand tys_ok 16 fn Tryd.func16 (by kernel_rfl) (c := body) (by kernel_rfl) D
  (fun x hc hi => by
    obtain ⟨its, m, ty⟩ := x
    obtain ⟨⟨hs, hn, hy⟩, hv⟩ := hi
    have hp := (holds_append hc).2.1
    simp only at hs hn hy hp
    obtain ⟨a1, t1, rfl, q1⟩ := shp_cons hs
    obtain ⟨a2, t2, rfl, q2⟩ := shp_v q1
    obtain rfl := shp_nil q2
    have hn : m = 2 := hn
    subst hn
    obtain ⟨p0, c0, rfl⟩ := hv a2 (by simp)
    exact run p0 c0 a1.ys a1.n a1.ty ty (hy a1 (by simp [winsI])) hp)
end k2n
end enc
end Go.Proofs.YthlmepolmemejaaDoor

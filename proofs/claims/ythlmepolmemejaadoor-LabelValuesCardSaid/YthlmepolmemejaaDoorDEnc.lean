/- Package wire: Encode of a list of so many slices: walks, contracts. -/
import Derived.Test.YthlmepolmemejaaDoorDNum
namespace Go.Proofs.YthlmepolmemejaaDoor
open Go Go.Eng Go.RowKit
set_option linter.unusedVariables false
set_option linter.unusedSimpArgs false
set_option maxRecDepth 100000
def encR : List (List Int) → List Int
  | [] => []
  | y :: r => b4 (y.length : Int) ++ (y ++ encR r)
def encB (ls : List (List Int)) : List Int := b4 (ls.length : Int) ++ encR ls
def encL : List (List Int) → Nat
  | [] => 0
  | y :: r => 4 + y.length + encL r
def encT (ls : List (List Int)) : Nat := 4 + encL ls
theorem encR_len : ∀ ls, (encR ls).length = encL ls
  | [] => rfl
  | y :: r => by simp only [encR, encL, List.length_append, encR_len r, b4_len]; omega
theorem encB_len (ls : List (List Int)) : (encB ls).length = encT ls := by simp only [encB, encT, List.length_append, encR_len, b4_len]
theorem put_buf (D ys : List Int) (r : Nat) : putI (0 + D.length) ys 0 (D ++ List.replicate (ys.length + r) 0) = (D ++ ys) ++ List.replicate r 0 := by
  rw [putI_spec _ _ _ (by simp only [List.length_append, List.length_replicate]; omega), Nat.zero_add, List.take_left, ← List.drop_drop, List.drop_left, List.append_assoc]
  congr 1
  rw [List.drop_replicate]
  congr 1
  congr 1
  omega
def putA : List (Nat × List Int) → Nat → List Int → List Int
  | [], _, xs => xs
  | (k, y) :: r, n, xs => putA r (n + 4 + k) (putI (0 + (n + 4)) y 0 (putI (0 + n) (b4 (k : Int)) 0 xs))
theorem putA_spec : ∀ (ls : List (List Int)) (D : List Int) (n : Nat), n = D.length → putA (ls.map fun y => (y.length, y)) n (D ++ List.replicate (encL ls) 0) = D ++ encR ls
  | [], D, n, h => by simp [putA, encL, encR]
  | y :: r, D, n, h => by
    subst h
    have e1 : encL (y :: r) = (b4 (y.length : Int)).length + (y.length + encL r) := by rw [b4_len]; simp only [encL]; omega
    simp only [List.map_cons, putA]
    rw [e1, put_buf D]
    have e2 : D.length + 4 = (D ++ b4 (y.length : Int)).length := by rw [List.length_append, b4_len]
    rw [e2, put_buf, putA_spec r _ _ (by simp only [List.length_append, b4_len])]
    simp only [encR, List.append_assoc]
theorem put_all (ls : List (List Int)) : putA (ls.map fun y => (y.length, y)) 4 (putI (0 + 0) (b4 (ls.length : Int)) 0 (List.replicate (encT ls) 0)) = encB ls := by
  have h := put_buf [] (b4 (ls.length : Int)) (encL ls)
  simp only [List.nil_append, List.length_nil, b4_len] at h
  unfold encT
  rw [h, putA_spec ls _ 4 (by rw [b4_len])]
  rfl
theorem shp_cons {its : List Itm} {r : List Bool} (h : shapeI its = true :: r) : ∃ a t, its = .w a :: t ∧ shapeI t = r := by
  cases its with
  | nil => cases h
  | cons x t =>
    simp only [shapeI, List.cons.injEq] at h
    cases x with
    | w a => exact ⟨a, t, rfl, h.2⟩
    | v a => cases h.1
theorem shp_nil {its : List Itm} (h : shapeI its = []) : its = [] := by
  cases its with
  | nil => rfl
  | cons x t => cases h
theorem dt (y : List Int) (n : Nat) (h : y.length = n) : (y.drop 0).take n = y := by rw [List.drop_zero, List.take_of_length_le (by omega)]
def encRes (ls : List (List Int)) : SV := .t [.a (.sld 0 0 0 (encT ls) (encT ls)), .a (.v (.int .i64 0))]
namespace enc
noncomputable abbrev fn := Tryd.f16
noncomputable def body : Code := bodyOf fn
noncomputable def Γ {G : Glob} : Cons Tryd.prog G := [four_con]
namespace k1
noncomputable def e (G : Glob) (y1 : List Int) (n1 : Nat) (t1 : TypeId) (ty : TypeId) : St := outS (Γ (G := G)) tys 200 body ⟨startT fn [.o (.a (.slc 0 0 1 1))], [⟨false, ty, .lit [.slg 1 n1]⟩, ⟨false, t1, .pre .u8 y1⟩], [(20, [.n ((4 + 4 : Nat) : Int)]), (24, [.n (1048576 - ((4 + 4 : Nat) : Int))]), (25, [.b false]), (29, [.n ((4 + 4 + n1 : Nat) : Int)])]⟩
def c (y1 : List Int) (n1 : Nat) (t1 : TypeId) (ty : TypeId) : Cst := [IntKind.i64.wrap (((4 : Nat) : Int) + 4) = ((4 + 4 : Nat) : Int), IntKind.i64.wrap (1048576 - ((4 + 4 : Nat) : Int)) = 1048576 - ((4 + 4 : Nat) : Int), decide (((n1 : Nat) : Int) > 1048576 - ((4 + 4 : Nat) : Int)) = false, IntKind.i64.wrap (((4 + 4 : Nat) : Int) + ((n1 : Nat) : Int)) = ((4 + 4 + n1 : Nat) : Int), (0 : Int) ≤ 0, (0 : Int) ≤ ((4 + 4 + n1 : Nat) : Int), Room Tryd.prog 5 (4 + 4 + n1), 0 ≤ 4 + 4 + n1, 0 + 4 ≤ 4 + 4 + n1, 0 + 0 + 4 ≤ (List.replicate (4 + 4 + n1) (0 : Int)).length, 4 ≤ 4 + 4 + n1, 4 + 4 ≤ 4 + 4 + n1, 0 + (4) + 4 ≤ (putI (0 + 0) (b4 ((1 : Nat) : Int)) 0 (List.replicate (4 + 4 + n1) (0 : Int))).length, 0 + n1 ≤ y1.length, 4 + 4 + n1 ≤ 4 + 4 + n1, 0 + (4 + 4) + n1 ≤ (putI (0 + (4)) (b4 ((n1 : Nat) : Int)) 0 (putI (0 + 0) (b4 ((1 : Nat) : Int)) 0 (List.replicate (4 + 4 + n1) (0 : Int)))).length]
theorem ex {G : Glob} (y1 : List Int) (n1 : Nat) (t1 : TypeId) (ty : TypeId) : exec (Γ (G := G)) tys 200 body ⟨startT fn [.o (.a (.slc 0 0 1 1))], [⟨false, ty, .lit [.slg 1 n1]⟩, ⟨false, t1, .pre .u8 y1⟩], [(20, [.n ((4 + 4 : Nat) : Int)]), (24, [.n (1048576 - ((4 + 4 : Nat) : Int))]), (25, [.b false]), (29, [.n ((4 + 4 + n1 : Nat) : Int)])]⟩ = some (.ret, ⟨(e G y1 n1 t1 ty ).tm, (e G y1 n1 t1 ty ).mem, (e G y1 n1 t1 ty ).orc⟩, c y1 n1 t1 ty ) := by kernel_rfl
theorem res {G : Glob} (y1 : List Int) (n1 : Nat) (t1 : TypeId) (ty : TypeId) : eRes tys (e G y1 n1 t1 ty ).tm (fun k => (e G y1 n1 t1 ty ).mem[k]?) fn.results.toList = some [.a (.sld 2 0 0 (4 + 4 + n1) (4 + 4 + n1)), .a (.v (.int .i64 0))] := by kernel_rfl
theorem row {G : Glob} (y1 : List Int) (n1 : Nat) (t1 : TypeId) (ty : TypeId) : (e G y1 n1 t1 ty ).mem[2]? = some ⟨true, 5, .run .u8 (putA [(n1, (y1.drop 0).take n1)] 4 (putI (0 + 0) (b4 ((1 : Nat) : Int)) 0 (List.replicate (4 + 4 + n1) 0)))⟩ := by kernel_rfl
theorem holds (y1 : List Int) (n1 : Nat) (t1 : TypeId) (ty : TypeId) (h1 : y1.length = n1) (hT : 4 + 4 + n1 ≤ 1048576) : Holds (c y1 n1 t1 ty ) := ⟨by rw [wi64 _ (by omega) (by omega)] <;> omega, by rw [wi64 _ (by omega) (by omega)] <;> omega, decide_eq_false (by omega), by rw [wi64 _ (by omega) (by omega)] <;> omega, by decide, by omega, room8 _ (by omega), by omega, by omega, by simp only [putI_length, List.length_replicate]; omega, by omega, by omega, by simp only [putI_length, List.length_replicate]; omega, by omega, by omega, by simp only [putI_length, List.length_replicate]; omega, trivial⟩
theorem run {G : Glob} (y1 : List Int) (n1 : Nat) (t1 : TypeId) (ty : TypeId) (h1 : y1.length = n1) (hT : encT [y1] ≤ 1048576) :
    RunsF Tryd.prog G 2 body (startT fn [.o (.a (.slc 0 0 1 1))]) [⟨false, ty, .lit [.slg 1 n1]⟩, ⟨false, t1, .pre .u8 y1⟩] (EndsM tys fn (endsQ (encRes [y1]) (.new 5 (.run .u8 (encB [y1]))))) := by
  have hE : encT [y1] = 4 + 4 + n1 := by simp only [encT, encL]; omega
  have hr := row (G := G) y1 n1 t1 ty 
  rw [dt y1 n1 h1] at hr
  refine Runs.of_exec tys_ok mixed (ex y1 n1 t1 ty ) (holds y1 n1 t1 ty h1 (by omega)) (EndsM.ret (res y1 n1 t1 ty ) ⟨2, ?_, ?_⟩)
  · unfold encRes
    rw [hE]
    rfl
  · have h := put_all [y1]
    rw [hE] at h
    rw [hr, ← h, ← h1]
    rfl
theorem good (ls : List (List Int)) : match (LEff.new 5 (.run .u8 (encB ls))) with | .none => (encRes ls).ids = [] | .new _ row => row.ids = [] | .upd _ _ => False := rfl
def D : Dec Tryd.prog LstA := Dec.list Tryd.prog .u8 [true] encRes (fun ls => .new 5 (.run .u8 (encB ls))) (fun ls => [encT ls ≤ 1048576]) good
noncomputable def con {G : Glob} : Con Tryd.prog G := Con.hand tys_ok 16 fn Tryd.func16 (by kernel_rfl) (c := body) (by kernel_rfl) D
  (fun x hc hi => by
    obtain ⟨its, m, ty⟩ := x
    obtain ⟨hs, hn, hy⟩ := hi
    have hp := (holds_append hc).2.1
    simp only at hs hn hy hp
    obtain ⟨a1, t1, rfl, q1⟩ := shp_cons hs
    obtain rfl := shp_nil q1
    have hn : m = 1 := hn
    subst hn
    exact run a1.ys a1.n a1.ty ty (hy a1 (by simp [winsI])) hp)
end k1
namespace k2
noncomputable def e (G : Glob) (y1 : List Int) (n1 : Nat) (t1 : TypeId) (y2 : List Int) (n2 : Nat) (t2 : TypeId) (ty : TypeId) : St := outS (Γ (G := G)) tys 200 body ⟨startT fn [.o (.a (.slc 0 0 2 2))], [⟨false, ty, .lit [.slg 1 n1, .slg 2 n2]⟩, ⟨false, t1, .pre .u8 y1⟩, ⟨false, t2, .pre .u8 y2⟩], [(20, [.n ((4 + 4 : Nat) : Int), .n ((4 + 4 + n1 + 4 : Nat) : Int)]), (24, [.n (1048576 - ((4 + 4 : Nat) : Int)), .n (1048576 - ((4 + 4 + n1 + 4 : Nat) : Int))]), (25, [.b false, .b false]), (29, [.n ((4 + 4 + n1 : Nat) : Int), .n ((4 + 4 + n1 + 4 + n2 : Nat) : Int)])]⟩
def c (y1 : List Int) (n1 : Nat) (t1 : TypeId) (y2 : List Int) (n2 : Nat) (t2 : TypeId) (ty : TypeId) : Cst := [IntKind.i64.wrap (((4 : Nat) : Int) + 4) = ((4 + 4 : Nat) : Int), IntKind.i64.wrap (1048576 - ((4 + 4 : Nat) : Int)) = 1048576 - ((4 + 4 : Nat) : Int), decide (((n1 : Nat) : Int) > 1048576 - ((4 + 4 : Nat) : Int)) = false, IntKind.i64.wrap (((4 + 4 : Nat) : Int) + ((n1 : Nat) : Int)) = ((4 + 4 + n1 : Nat) : Int), IntKind.i64.wrap (((4 + 4 + n1 : Nat) : Int) + 4) = ((4 + 4 + n1 + 4 : Nat) : Int), IntKind.i64.wrap (1048576 - ((4 + 4 + n1 + 4 : Nat) : Int)) = 1048576 - ((4 + 4 + n1 + 4 : Nat) : Int), decide (((n2 : Nat) : Int) > 1048576 - ((4 + 4 + n1 + 4 : Nat) : Int)) = false, IntKind.i64.wrap (((4 + 4 + n1 + 4 : Nat) : Int) + ((n2 : Nat) : Int)) = ((4 + 4 + n1 + 4 + n2 : Nat) : Int), (0 : Int) ≤ 0, (0 : Int) ≤ ((4 + 4 + n1 + 4 + n2 : Nat) : Int), Room Tryd.prog 5 (4 + 4 + n1 + 4 + n2), 0 ≤ 4 + 4 + n1 + 4 + n2, 0 + 4 ≤ 4 + 4 + n1 + 4 + n2, 0 + 0 + 4 ≤ (List.replicate (4 + 4 + n1 + 4 + n2) (0 : Int)).length, 4 ≤ 4 + 4 + n1 + 4 + n2, 4 + 4 ≤ 4 + 4 + n1 + 4 + n2, 0 + (4) + 4 ≤ (putI (0 + 0) (b4 ((2 : Nat) : Int)) 0 (List.replicate (4 + 4 + n1 + 4 + n2) (0 : Int))).length, 0 + n1 ≤ y1.length, 4 + 4 + n1 ≤ 4 + 4 + n1 + 4 + n2, 0 + (4 + 4) + n1 ≤ (putI (0 + (4)) (b4 ((n1 : Nat) : Int)) 0 (putI (0 + 0) (b4 ((2 : Nat) : Int)) 0 (List.replicate (4 + 4 + n1 + 4 + n2) (0 : Int)))).length, 4 + 4 + n1 ≤ 4 + 4 + n1 + 4 + n2, 4 + 4 + n1 + 4 ≤ 4 + 4 + n1 + 4 + n2, 0 + (4 + 4 + n1) + 4 ≤ (putI (0 + (4 + 4)) ((y1.drop 0).take n1) 0 (putI (0 + (4)) (b4 ((n1 : Nat) : Int)) 0 (putI (0 + 0) (b4 ((2 : Nat) : Int)) 0 (List.replicate (4 + 4 + n1 + 4 + n2) (0 : Int))))).length, 0 + n2 ≤ y2.length, 4 + 4 + n1 + 4 + n2 ≤ 4 + 4 + n1 + 4 + n2, 0 + (4 + 4 + n1 + 4) + n2 ≤ (putI (0 + (4 + 4 + n1)) (b4 ((n2 : Nat) : Int)) 0 (putI (0 + (4 + 4)) ((y1.drop 0).take n1) 0 (putI (0 + (4)) (b4 ((n1 : Nat) : Int)) 0 (putI (0 + 0) (b4 ((2 : Nat) : Int)) 0 (List.replicate (4 + 4 + n1 + 4 + n2) (0 : Int)))))).length]
theorem ex {G : Glob} (y1 : List Int) (n1 : Nat) (t1 : TypeId) (y2 : List Int) (n2 : Nat) (t2 : TypeId) (ty : TypeId) : exec (Γ (G := G)) tys 200 body ⟨startT fn [.o (.a (.slc 0 0 2 2))], [⟨false, ty, .lit [.slg 1 n1, .slg 2 n2]⟩, ⟨false, t1, .pre .u8 y1⟩, ⟨false, t2, .pre .u8 y2⟩], [(20, [.n ((4 + 4 : Nat) : Int), .n ((4 + 4 + n1 + 4 : Nat) : Int)]), (24, [.n (1048576 - ((4 + 4 : Nat) : Int)), .n (1048576 - ((4 + 4 + n1 + 4 : Nat) : Int))]), (25, [.b false, .b false]), (29, [.n ((4 + 4 + n1 : Nat) : Int), .n ((4 + 4 + n1 + 4 + n2 : Nat) : Int)])]⟩ = some (.ret, ⟨(e G y1 n1 t1 y2 n2 t2 ty ).tm, (e G y1 n1 t1 y2 n2 t2 ty ).mem, (e G y1 n1 t1 y2 n2 t2 ty ).orc⟩, c y1 n1 t1 y2 n2 t2 ty ) := by kernel_rfl
theorem res {G : Glob} (y1 : List Int) (n1 : Nat) (t1 : TypeId) (y2 : List Int) (n2 : Nat) (t2 : TypeId) (ty : TypeId) : eRes tys (e G y1 n1 t1 y2 n2 t2 ty ).tm (fun k => (e G y1 n1 t1 y2 n2 t2 ty ).mem[k]?) fn.results.toList = some [.a (.sld 3 0 0 (4 + 4 + n1 + 4 + n2) (4 + 4 + n1 + 4 + n2)), .a (.v (.int .i64 0))] := by kernel_rfl
theorem row {G : Glob} (y1 : List Int) (n1 : Nat) (t1 : TypeId) (y2 : List Int) (n2 : Nat) (t2 : TypeId) (ty : TypeId) : (e G y1 n1 t1 y2 n2 t2 ty ).mem[3]? = some ⟨true, 5, .run .u8 (putA [(n1, (y1.drop 0).take n1), (n2, (y2.drop 0).take n2)] 4 (putI (0 + 0) (b4 ((2 : Nat) : Int)) 0 (List.replicate (4 + 4 + n1 + 4 + n2) 0)))⟩ := by kernel_rfl
theorem holds (y1 : List Int) (n1 : Nat) (t1 : TypeId) (y2 : List Int) (n2 : Nat) (t2 : TypeId) (ty : TypeId) (h1 : y1.length = n1) (h2 : y2.length = n2) (hT : 4 + 4 + n1 + 4 + n2 ≤ 1048576) : Holds (c y1 n1 t1 y2 n2 t2 ty ) := ⟨by rw [wi64 _ (by omega) (by omega)] <;> omega, by rw [wi64 _ (by omega) (by omega)] <;> omega, decide_eq_false (by omega), by rw [wi64 _ (by omega) (by omega)] <;> omega, by rw [wi64 _ (by omega) (by omega)] <;> omega, by rw [wi64 _ (by omega) (by omega)] <;> omega, decide_eq_false (by omega), by rw [wi64 _ (by omega) (by omega)] <;> omega, by decide, by omega, room8 _ (by omega), by omega, by omega, by simp only [putI_length, List.length_replicate]; omega, by omega, by omega, by simp only [putI_length, List.length_replicate]; omega, by omega, by omega, by simp only [putI_length, List.length_replicate]; omega, by omega, by omega, by simp only [putI_length, List.length_replicate]; omega, by omega, by omega, by simp only [putI_length, List.length_replicate]; omega, trivial⟩
theorem run {G : Glob} (y1 : List Int) (n1 : Nat) (t1 : TypeId) (y2 : List Int) (n2 : Nat) (t2 : TypeId) (ty : TypeId) (h1 : y1.length = n1) (h2 : y2.length = n2) (hT : encT [y1, y2] ≤ 1048576) :
    RunsF Tryd.prog G 3 body (startT fn [.o (.a (.slc 0 0 2 2))]) [⟨false, ty, .lit [.slg 1 n1, .slg 2 n2]⟩, ⟨false, t1, .pre .u8 y1⟩, ⟨false, t2, .pre .u8 y2⟩] (EndsM tys fn (endsQ (encRes [y1, y2]) (.new 5 (.run .u8 (encB [y1, y2]))))) := by
  have hE : encT [y1, y2] = 4 + 4 + n1 + 4 + n2 := by simp only [encT, encL]; omega
  have hr := row (G := G) y1 n1 t1 y2 n2 t2 ty 
  rw [dt y1 n1 h1, dt y2 n2 h2] at hr
  refine Runs.of_exec tys_ok mixed (ex y1 n1 t1 y2 n2 t2 ty ) (holds y1 n1 t1 y2 n2 t2 ty h1 h2 (by omega)) (EndsM.ret (res y1 n1 t1 y2 n2 t2 ty ) ⟨3, ?_, ?_⟩)
  · unfold encRes
    rw [hE]
    rfl
  · have h := put_all [y1, y2]
    rw [hE] at h
    rw [hr, ← h, ← h1, ← h2]
    rfl
theorem good (ls : List (List Int)) : match (LEff.new 5 (.run .u8 (encB ls))) with | .none => (encRes ls).ids = [] | .new _ row => row.ids = [] | .upd _ _ => False := rfl
def D : Dec Tryd.prog LstA := Dec.list Tryd.prog .u8 [true, true] encRes (fun ls => .new 5 (.run .u8 (encB ls))) (fun ls => [encT ls ≤ 1048576]) good
noncomputable def con {G : Glob} : Con Tryd.prog G := Con.hand tys_ok 16 fn Tryd.func16 (by kernel_rfl) (c := body) (by kernel_rfl) D
  (fun x hc hi => by
    obtain ⟨its, m, ty⟩ := x
    obtain ⟨hs, hn, hy⟩ := hi
    have hp := (holds_append hc).2.1
    simp only at hs hn hy hp
    obtain ⟨a1, t1, rfl, q1⟩ := shp_cons hs
    obtain ⟨a2, t2, rfl, q2⟩ := shp_cons q1
    obtain rfl := shp_nil q2
    have hn : m = 2 := hn
    subst hn
    exact run a1.ys a1.n a1.ty a2.ys a2.n a2.ty ty (hy a1 (by simp [winsI])) (hy a2 (by simp [winsI])) hp)
end k2
namespace k4
noncomputable def e (G : Glob) (y1 : List Int) (n1 : Nat) (t1 : TypeId) (y2 : List Int) (n2 : Nat) (t2 : TypeId) (y3 : List Int) (n3 : Nat) (t3 : TypeId) (y4 : List Int) (n4 : Nat) (t4 : TypeId) (ty : TypeId) : St := outS (Γ (G := G)) tys 200 body ⟨startT fn [.o (.a (.slc 0 0 4 4))], [⟨false, ty, .lit [.slg 1 n1, .slg 2 n2, .slg 3 n3, .slg 4 n4]⟩, ⟨false, t1, .pre .u8 y1⟩, ⟨false, t2, .pre .u8 y2⟩, ⟨false, t3, .pre .u8 y3⟩, ⟨false, t4, .pre .u8 y4⟩], [(20, [.n ((4 + 4 : Nat) : Int), .n ((4 + 4 + n1 + 4 : Nat) : Int), .n ((4 + 4 + n1 + 4 + n2 + 4 : Nat) : Int), .n ((4 + 4 + n1 + 4 + n2 + 4 + n3 + 4 : Nat) : Int)]), (24, [.n (1048576 - ((4 + 4 : Nat) : Int)), .n (1048576 - ((4 + 4 + n1 + 4 : Nat) : Int)), .n (1048576 - ((4 + 4 + n1 + 4 + n2 + 4 : Nat) : Int)), .n (1048576 - ((4 + 4 + n1 + 4 + n2 + 4 + n3 + 4 : Nat) : Int))]), (25, [.b false, .b false, .b false, .b false]), (29, [.n ((4 + 4 + n1 : Nat) : Int), .n ((4 + 4 + n1 + 4 + n2 : Nat) : Int), .n ((4 + 4 + n1 + 4 + n2 + 4 + n3 : Nat) : Int), .n ((4 + 4 + n1 + 4 + n2 + 4 + n3 + 4 + n4 : Nat) : Int)])]⟩
def c (y1 : List Int) (n1 : Nat) (t1 : TypeId) (y2 : List Int) (n2 : Nat) (t2 : TypeId) (y3 : List Int) (n3 : Nat) (t3 : TypeId) (y4 : List Int) (n4 : Nat) (t4 : TypeId) (ty : TypeId) : Cst := [IntKind.i64.wrap (((4 : Nat) : Int) + 4) = ((4 + 4 : Nat) : Int), IntKind.i64.wrap (1048576 - ((4 + 4 : Nat) : Int)) = 1048576 - ((4 + 4 : Nat) : Int), decide (((n1 : Nat) : Int) > 1048576 - ((4 + 4 : Nat) : Int)) = false, IntKind.i64.wrap (((4 + 4 : Nat) : Int) + ((n1 : Nat) : Int)) = ((4 + 4 + n1 : Nat) : Int), IntKind.i64.wrap (((4 + 4 + n1 : Nat) : Int) + 4) = ((4 + 4 + n1 + 4 : Nat) : Int), IntKind.i64.wrap (1048576 - ((4 + 4 + n1 + 4 : Nat) : Int)) = 1048576 - ((4 + 4 + n1 + 4 : Nat) : Int), decide (((n2 : Nat) : Int) > 1048576 - ((4 + 4 + n1 + 4 : Nat) : Int)) = false, IntKind.i64.wrap (((4 + 4 + n1 + 4 : Nat) : Int) + ((n2 : Nat) : Int)) = ((4 + 4 + n1 + 4 + n2 : Nat) : Int), IntKind.i64.wrap (((4 + 4 + n1 + 4 + n2 : Nat) : Int) + 4) = ((4 + 4 + n1 + 4 + n2 + 4 : Nat) : Int), IntKind.i64.wrap (1048576 - ((4 + 4 + n1 + 4 + n2 + 4 : Nat) : Int)) = 1048576 - ((4 + 4 + n1 + 4 + n2 + 4 : Nat) : Int), decide (((n3 : Nat) : Int) > 1048576 - ((4 + 4 + n1 + 4 + n2 + 4 : Nat) : Int)) = false, IntKind.i64.wrap (((4 + 4 + n1 + 4 + n2 + 4 : Nat) : Int) + ((n3 : Nat) : Int)) = ((4 + 4 + n1 + 4 + n2 + 4 + n3 : Nat) : Int), IntKind.i64.wrap (((4 + 4 + n1 + 4 + n2 + 4 + n3 : Nat) : Int) + 4) = ((4 + 4 + n1 + 4 + n2 + 4 + n3 + 4 : Nat) : Int), IntKind.i64.wrap (1048576 - ((4 + 4 + n1 + 4 + n2 + 4 + n3 + 4 : Nat) : Int)) = 1048576 - ((4 + 4 + n1 + 4 + n2 + 4 + n3 + 4 : Nat) : Int), decide (((n4 : Nat) : Int) > 1048576 - ((4 + 4 + n1 + 4 + n2 + 4 + n3 + 4 : Nat) : Int)) = false, IntKind.i64.wrap (((4 + 4 + n1 + 4 + n2 + 4 + n3 + 4 : Nat) : Int) + ((n4 : Nat) : Int)) = ((4 + 4 + n1 + 4 + n2 + 4 + n3 + 4 + n4 : Nat) : Int), (0 : Int) ≤ 0, (0 : Int) ≤ ((4 + 4 + n1 + 4 + n2 + 4 + n3 + 4 + n4 : Nat) : Int), Room Tryd.prog 5 (4 + 4 + n1 + 4 + n2 + 4 + n3 + 4 + n4), 0 ≤ 4 + 4 + n1 + 4 + n2 + 4 + n3 + 4 + n4, 0 + 4 ≤ 4 + 4 + n1 + 4 + n2 + 4 + n3 + 4 + n4, 0 + 0 + 4 ≤ (List.replicate (4 + 4 + n1 + 4 + n2 + 4 + n3 + 4 + n4) (0 : Int)).length, 4 ≤ 4 + 4 + n1 + 4 + n2 + 4 + n3 + 4 + n4, 4 + 4 ≤ 4 + 4 + n1 + 4 + n2 + 4 + n3 + 4 + n4, 0 + (4) + 4 ≤ (putI (0 + 0) (b4 ((4 : Nat) : Int)) 0 (List.replicate (4 + 4 + n1 + 4 + n2 + 4 + n3 + 4 + n4) (0 : Int))).length, 0 + n1 ≤ y1.length, 4 + 4 + n1 ≤ 4 + 4 + n1 + 4 + n2 + 4 + n3 + 4 + n4, 0 + (4 + 4) + n1 ≤ (putI (0 + (4)) (b4 ((n1 : Nat) : Int)) 0 (putI (0 + 0) (b4 ((4 : Nat) : Int)) 0 (List.replicate (4 + 4 + n1 + 4 + n2 + 4 + n3 + 4 + n4) (0 : Int)))).length, 4 + 4 + n1 ≤ 4 + 4 + n1 + 4 + n2 + 4 + n3 + 4 + n4, 4 + 4 + n1 + 4 ≤ 4 + 4 + n1 + 4 + n2 + 4 + n3 + 4 + n4, 0 + (4 + 4 + n1) + 4 ≤ (putI (0 + (4 + 4)) ((y1.drop 0).take n1) 0 (putI (0 + (4)) (b4 ((n1 : Nat) : Int)) 0 (putI (0 + 0) (b4 ((4 : Nat) : Int)) 0 (List.replicate (4 + 4 + n1 + 4 + n2 + 4 + n3 + 4 + n4) (0 : Int))))).length, 0 + n2 ≤ y2.length, 4 + 4 + n1 + 4 + n2 ≤ 4 + 4 + n1 + 4 + n2 + 4 + n3 + 4 + n4, 0 + (4 + 4 + n1 + 4) + n2 ≤ (putI (0 + (4 + 4 + n1)) (b4 ((n2 : Nat) : Int)) 0 (putI (0 + (4 + 4)) ((y1.drop 0).take n1) 0 (putI (0 + (4)) (b4 ((n1 : Nat) : Int)) 0 (putI (0 + 0) (b4 ((4 : Nat) : Int)) 0 (List.replicate (4 + 4 + n1 + 4 + n2 + 4 + n3 + 4 + n4) (0 : Int)))))).length, 4 + 4 + n1 + 4 + n2 ≤ 4 + 4 + n1 + 4 + n2 + 4 + n3 + 4 + n4, 4 + 4 + n1 + 4 + n2 + 4 ≤ 4 + 4 + n1 + 4 + n2 + 4 + n3 + 4 + n4, 0 + (4 + 4 + n1 + 4 + n2) + 4 ≤ (putI (0 + (4 + 4 + n1 + 4)) ((y2.drop 0).take n2) 0 (putI (0 + (4 + 4 + n1)) (b4 ((n2 : Nat) : Int)) 0 (putI (0 + (4 + 4)) ((y1.drop 0).take n1) 0 (putI (0 + (4)) (b4 ((n1 : Nat) : Int)) 0 (putI (0 + 0) (b4 ((4 : Nat) : Int)) 0 (List.replicate (4 + 4 + n1 + 4 + n2 + 4 + n3 + 4 + n4) (0 : Int))))))).length, 0 + n3 ≤ y3.length, 4 + 4 + n1 + 4 + n2 + 4 + n3 ≤ 4 + 4 + n1 + 4 + n2 + 4 + n3 + 4 + n4, 0 + (4 + 4 + n1 + 4 + n2 + 4) + n3 ≤ (putI (0 + (4 + 4 + n1 + 4 + n2)) (b4 ((n3 : Nat) : Int)) 0 (putI (0 + (4 + 4 + n1 + 4)) ((y2.drop 0).take n2) 0 (putI (0 + (4 + 4 + n1)) (b4 ((n2 : Nat) : Int)) 0 (putI (0 + (4 + 4)) ((y1.drop 0).take n1) 0 (putI (0 + (4)) (b4 ((n1 : Nat) : Int)) 0 (putI (0 + 0) (b4 ((4 : Nat) : Int)) 0 (List.replicate (4 + 4 + n1 + 4 + n2 + 4 + n3 + 4 + n4) (0 : Int)))))))).length, 4 + 4 + n1 + 4 + n2 + 4 + n3 ≤ 4 + 4 + n1 + 4 + n2 + 4 + n3 + 4 + n4, 4 + 4 + n1 + 4 + n2 + 4 + n3 + 4 ≤ 4 + 4 + n1 + 4 + n2 + 4 + n3 + 4 + n4, 0 + (4 + 4 + n1 + 4 + n2 + 4 + n3) + 4 ≤ (putI (0 + (4 + 4 + n1 + 4 + n2 + 4)) ((y3.drop 0).take n3) 0 (putI (0 + (4 + 4 + n1 + 4 + n2)) (b4 ((n3 : Nat) : Int)) 0 (putI (0 + (4 + 4 + n1 + 4)) ((y2.drop 0).take n2) 0 (putI (0 + (4 + 4 + n1)) (b4 ((n2 : Nat) : Int)) 0 (putI (0 + (4 + 4)) ((y1.drop 0).take n1) 0 (putI (0 + (4)) (b4 ((n1 : Nat) : Int)) 0 (putI (0 + 0) (b4 ((4 : Nat) : Int)) 0 (List.replicate (4 + 4 + n1 + 4 + n2 + 4 + n3 + 4 + n4) (0 : Int))))))))).length, 0 + n4 ≤ y4.length, 4 + 4 + n1 + 4 + n2 + 4 + n3 + 4 + n4 ≤ 4 + 4 + n1 + 4 + n2 + 4 + n3 + 4 + n4, 0 + (4 + 4 + n1 + 4 + n2 + 4 + n3 + 4) + n4 ≤ (putI (0 + (4 + 4 + n1 + 4 + n2 + 4 + n3)) (b4 ((n4 : Nat) : Int)) 0 (putI (0 + (4 + 4 + n1 + 4 + n2 + 4)) ((y3.drop 0).take n3) 0 (putI (0 + (4 + 4 + n1 + 4 + n2)) (b4 ((n3 : Nat) : Int)) 0 (putI (0 + (4 + 4 + n1 + 4)) ((y2.drop 0).take n2) 0 (putI (0 + (4 + 4 + n1)) (b4 ((n2 : Nat) : Int)) 0 (putI (0 + (4 + 4)) ((y1.drop 0).take n1) 0 (putI (0 + (4)) (b4 ((n1 : Nat) : Int)) 0 (putI (0 + 0) (b4 ((4 : Nat) : Int)) 0 (List.replicate (4 + 4 + n1 + 4 + n2 + 4 + n3 + 4 + n4) (0 : Int)))))))))).length]
theorem ex {G : Glob} (y1 : List Int) (n1 : Nat) (t1 : TypeId) (y2 : List Int) (n2 : Nat) (t2 : TypeId) (y3 : List Int) (n3 : Nat) (t3 : TypeId) (y4 : List Int) (n4 : Nat) (t4 : TypeId) (ty : TypeId) : exec (Γ (G := G)) tys 200 body ⟨startT fn [.o (.a (.slc 0 0 4 4))], [⟨false, ty, .lit [.slg 1 n1, .slg 2 n2, .slg 3 n3, .slg 4 n4]⟩, ⟨false, t1, .pre .u8 y1⟩, ⟨false, t2, .pre .u8 y2⟩, ⟨false, t3, .pre .u8 y3⟩, ⟨false, t4, .pre .u8 y4⟩], [(20, [.n ((4 + 4 : Nat) : Int), .n ((4 + 4 + n1 + 4 : Nat) : Int), .n ((4 + 4 + n1 + 4 + n2 + 4 : Nat) : Int), .n ((4 + 4 + n1 + 4 + n2 + 4 + n3 + 4 : Nat) : Int)]), (24, [.n (1048576 - ((4 + 4 : Nat) : Int)), .n (1048576 - ((4 + 4 + n1 + 4 : Nat) : Int)), .n (1048576 - ((4 + 4 + n1 + 4 + n2 + 4 : Nat) : Int)), .n (1048576 - ((4 + 4 + n1 + 4 + n2 + 4 + n3 + 4 : Nat) : Int))]), (25, [.b false, .b false, .b false, .b false]), (29, [.n ((4 + 4 + n1 : Nat) : Int), .n ((4 + 4 + n1 + 4 + n2 : Nat) : Int), .n ((4 + 4 + n1 + 4 + n2 + 4 + n3 : Nat) : Int), .n ((4 + 4 + n1 + 4 + n2 + 4 + n3 + 4 + n4 : Nat) : Int)])]⟩ = some (.ret, ⟨(e G y1 n1 t1 y2 n2 t2 y3 n3 t3 y4 n4 t4 ty ).tm, (e G y1 n1 t1 y2 n2 t2 y3 n3 t3 y4 n4 t4 ty ).mem, (e G y1 n1 t1 y2 n2 t2 y3 n3 t3 y4 n4 t4 ty ).orc⟩, c y1 n1 t1 y2 n2 t2 y3 n3 t3 y4 n4 t4 ty ) := by kernel_rfl
theorem res {G : Glob} (y1 : List Int) (n1 : Nat) (t1 : TypeId) (y2 : List Int) (n2 : Nat) (t2 : TypeId) (y3 : List Int) (n3 : Nat) (t3 : TypeId) (y4 : List Int) (n4 : Nat) (t4 : TypeId) (ty : TypeId) : eRes tys (e G y1 n1 t1 y2 n2 t2 y3 n3 t3 y4 n4 t4 ty ).tm (fun k => (e G y1 n1 t1 y2 n2 t2 y3 n3 t3 y4 n4 t4 ty ).mem[k]?) fn.results.toList = some [.a (.sld 5 0 0 (4 + 4 + n1 + 4 + n2 + 4 + n3 + 4 + n4) (4 + 4 + n1 + 4 + n2 + 4 + n3 + 4 + n4)), .a (.v (.int .i64 0))] := by kernel_rfl
theorem row {G : Glob} (y1 : List Int) (n1 : Nat) (t1 : TypeId) (y2 : List Int) (n2 : Nat) (t2 : TypeId) (y3 : List Int) (n3 : Nat) (t3 : TypeId) (y4 : List Int) (n4 : Nat) (t4 : TypeId) (ty : TypeId) : (e G y1 n1 t1 y2 n2 t2 y3 n3 t3 y4 n4 t4 ty ).mem[5]? = some ⟨true, 5, .run .u8 (putA [(n1, (y1.drop 0).take n1), (n2, (y2.drop 0).take n2), (n3, (y3.drop 0).take n3), (n4, (y4.drop 0).take n4)] 4 (putI (0 + 0) (b4 ((4 : Nat) : Int)) 0 (List.replicate (4 + 4 + n1 + 4 + n2 + 4 + n3 + 4 + n4) 0)))⟩ := by kernel_rfl
theorem holds (y1 : List Int) (n1 : Nat) (t1 : TypeId) (y2 : List Int) (n2 : Nat) (t2 : TypeId) (y3 : List Int) (n3 : Nat) (t3 : TypeId) (y4 : List Int) (n4 : Nat) (t4 : TypeId) (ty : TypeId) (h1 : y1.length = n1) (h2 : y2.length = n2) (h3 : y3.length = n3) (h4 : y4.length = n4) (hT : 4 + 4 + n1 + 4 + n2 + 4 + n3 + 4 + n4 ≤ 1048576) : Holds (c y1 n1 t1 y2 n2 t2 y3 n3 t3 y4 n4 t4 ty ) := ⟨by rw [wi64 _ (by omega) (by omega)] <;> omega, by rw [wi64 _ (by omega) (by omega)] <;> omega, decide_eq_false (by omega), by rw [wi64 _ (by omega) (by omega)] <;> omega, by rw [wi64 _ (by omega) (by omega)] <;> omega, by rw [wi64 _ (by omega) (by omega)] <;> omega, decide_eq_false (by omega), by rw [wi64 _ (by omega) (by omega)] <;> omega, by rw [wi64 _ (by omega) (by omega)] <;> omega, by rw [wi64 _ (by omega) (by omega)] <;> omega, decide_eq_false (by omega), by rw [wi64 _ (by omega) (by omega)] <;> omega, by rw [wi64 _ (by omega) (by omega)] <;> omega, by rw [wi64 _ (by omega) (by omega)] <;> omega, decide_eq_false (by omega), by rw [wi64 _ (by omega) (by omega)] <;> omega, by decide, by omega, room8 _ (by omega), by omega, by omega, by simp only [putI_length, List.length_replicate]; omega, by omega, by omega, by simp only [putI_length, List.length_replicate]; omega, by omega, by omega, by simp only [putI_length, List.length_replicate]; omega, by omega, by omega, by simp only [putI_length, List.length_replicate]; omega, by omega, by omega, by simp only [putI_length, List.length_replicate]; omega, by omega, by omega, by simp only [putI_length, List.length_replicate]; omega, by omega, by omega, by simp only [putI_length, List.length_replicate]; omega, by omega, by omega, by simp only [putI_length, List.length_replicate]; omega, by omega, by omega, by simp only [putI_length, List.length_replicate]; omega, trivial⟩
theorem run {G : Glob} (y1 : List Int) (n1 : Nat) (t1 : TypeId) (y2 : List Int) (n2 : Nat) (t2 : TypeId) (y3 : List Int) (n3 : Nat) (t3 : TypeId) (y4 : List Int) (n4 : Nat) (t4 : TypeId) (ty : TypeId) (h1 : y1.length = n1) (h2 : y2.length = n2) (h3 : y3.length = n3) (h4 : y4.length = n4) (hT : encT [y1, y2, y3, y4] ≤ 1048576) :
    RunsF Tryd.prog G 5 body (startT fn [.o (.a (.slc 0 0 4 4))]) [⟨false, ty, .lit [.slg 1 n1, .slg 2 n2, .slg 3 n3, .slg 4 n4]⟩, ⟨false, t1, .pre .u8 y1⟩, ⟨false, t2, .pre .u8 y2⟩, ⟨false, t3, .pre .u8 y3⟩, ⟨false, t4, .pre .u8 y4⟩] (EndsM tys fn (endsQ (encRes [y1, y2, y3, y4]) (.new 5 (.run .u8 (encB [y1, y2, y3, y4]))))) := by
  have hE : encT [y1, y2, y3, y4] = 4 + 4 + n1 + 4 + n2 + 4 + n3 + 4 + n4 := by simp only [encT, encL]; omega
  have hr := row (G := G) y1 n1 t1 y2 n2 t2 y3 n3 t3 y4 n4 t4 ty 
  rw [dt y1 n1 h1, dt y2 n2 h2, dt y3 n3 h3, dt y4 n4 h4] at hr
  refine Runs.of_exec tys_ok mixed (ex y1 n1 t1 y2 n2 t2 y3 n3 t3 y4 n4 t4 ty ) (holds y1 n1 t1 y2 n2 t2 y3 n3 t3 y4 n4 t4 ty h1 h2 h3 h4 (by omega)) (EndsM.ret (res y1 n1 t1 y2 n2 t2 y3 n3 t3 y4 n4 t4 ty ) ⟨5, ?_, ?_⟩)
  · unfold encRes
    rw [hE]
    rfl
  · have h := put_all [y1, y2, y3, y4]
    rw [hE] at h
    rw [hr, ← h, ← h1, ← h2, ← h3, ← h4]
    rfl
theorem good (ls : List (List Int)) : match (LEff.new 5 (.run .u8 (encB ls))) with | .none => (encRes ls).ids = [] | .new _ row => row.ids = [] | .upd _ _ => False := rfl
def D : Dec Tryd.prog LstA := Dec.list Tryd.prog .u8 [true, true, true, true] encRes (fun ls => .new 5 (.run .u8 (encB ls))) (fun ls => [encT ls ≤ 1048576]) good
noncomputable def con {G : Glob} : Con Tryd.prog G := Con.hand tys_ok 16 fn Tryd.func16 (by kernel_rfl) (c := body) (by kernel_rfl) D
  (fun x hc hi => by
    obtain ⟨its, m, ty⟩ := x
    obtain ⟨hs, hn, hy⟩ := hi
    have hp := (holds_append hc).2.1
    simp only at hs hn hy hp
    obtain ⟨a1, t1, rfl, q1⟩ := shp_cons hs
    obtain ⟨a2, t2, rfl, q2⟩ := shp_cons q1
    obtain ⟨a3, t3, rfl, q3⟩ := shp_cons q2
    obtain ⟨a4, t4, rfl, q4⟩ := shp_cons q3
    obtain rfl := shp_nil q4
    have hn : m = 4 := hn
    subst hn
    exact run a1.ys a1.n a1.ty a2.ys a2.n a2.ty a3.ys a3.n a3.ty a4.ys a4.n a4.ty ty (hy a1 (by simp [winsI])) (hy a2 (by simp [winsI])) (hy a3 (by simp [winsI])) (hy a4 (by simp [winsI])) hp)
end k4
end enc
end Go.Proofs.YthlmepolmemejaaDoor

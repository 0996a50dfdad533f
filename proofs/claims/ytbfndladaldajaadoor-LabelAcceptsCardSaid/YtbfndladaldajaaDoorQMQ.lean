/- Package beaconref01: rotr64, k512; Sum512, piece by piece. -/
import Derived.Test.YtbfndladaldajaaDoorQMD
import Derived.Test.YtbfndladaldajaaDoorQMK
namespace Go.Proofs.YtbfndladaldajaaDoor
open Go Go.Eng Go.RowKit
set_option linter.unusedVariables false
set_option maxRecDepth 100000
theorem rk512_fn : FnOk Tryd.prog G2 91 [] (.o (.g (k512L.map (int1 .u64)))) :=
  FnOk.of_out (Γ := ([] : Cons Tryd.prog G2)) tys_ok mixed Tryd.func91 (n := 100) (orc := []) (cs := []) (by kernel_rfl) trivial (idsAll_ints _ _) rfl
noncomputable def rk512_con : Con Tryd.prog G2 := con0 91 Tryd.f91 Tryd.func91 (by kernel_rfl) (by kernel_rfl) (.o (.g (k512L.map (int1 .u64)))) [] (idsAll_ints _ _) (fun _ => rk512_fn)
theorem or_comm64 (a b : Int) : bits .or .u64 a b = bits .or .u64 b a := by
  unfold bits
  simp only
  rw [BitVec.or_comm]
def rrots6 : List Int := [19, 61, 1, 8, 14, 18, 41, 28, 34, 39]
theorem rrot64_fn (a k : Int) (h : k ∈ rrots6) : FnOk Tryd.prog G2 92 [(cInt .u64).enc a, (cInt .u64).enc k] ((cInt .u64).enc (rotG a (-k))) := by
  unfold rrots6 at h
  unfold rotG
  rw [or_comm64]
  simp only [List.mem_cons, List.not_mem_nil, or_false] at h
  rcases h with rfl | rfl | rfl | rfl | rfl | rfl | rfl | rfl | rfl | rfl
  · exact FnOk.of_out (Γ := ([] : Cons Tryd.prog G2)) tys_ok mixed Tryd.func92 (n := 100) (orc := []) (cs := []) (by kernel_rfl) trivial rfl rfl
  · exact FnOk.of_out (Γ := ([] : Cons Tryd.prog G2)) tys_ok mixed Tryd.func92 (n := 100) (orc := []) (cs := []) (by kernel_rfl) trivial rfl rfl
  · exact FnOk.of_out (Γ := ([] : Cons Tryd.prog G2)) tys_ok mixed Tryd.func92 (n := 100) (orc := []) (cs := []) (by kernel_rfl) trivial rfl rfl
  · exact FnOk.of_out (Γ := ([] : Cons Tryd.prog G2)) tys_ok mixed Tryd.func92 (n := 100) (orc := []) (cs := []) (by kernel_rfl) trivial rfl rfl
  · exact FnOk.of_out (Γ := ([] : Cons Tryd.prog G2)) tys_ok mixed Tryd.func92 (n := 100) (orc := []) (cs := []) (by kernel_rfl) trivial rfl rfl
  · exact FnOk.of_out (Γ := ([] : Cons Tryd.prog G2)) tys_ok mixed Tryd.func92 (n := 100) (orc := []) (cs := []) (by kernel_rfl) trivial rfl rfl
  · exact FnOk.of_out (Γ := ([] : Cons Tryd.prog G2)) tys_ok mixed Tryd.func92 (n := 100) (orc := []) (cs := []) (by kernel_rfl) trivial rfl rfl
  · exact FnOk.of_out (Γ := ([] : Cons Tryd.prog G2)) tys_ok mixed Tryd.func92 (n := 100) (orc := []) (cs := []) (by kernel_rfl) trivial rfl rfl
  · exact FnOk.of_out (Γ := ([] : Cons Tryd.prog G2)) tys_ok mixed Tryd.func92 (n := 100) (orc := []) (cs := []) (by kernel_rfl) trivial rfl rfl
  · exact FnOk.of_out (Γ := ([] : Cons Tryd.prog G2)) tys_ok mixed Tryd.func92 (n := 100) (orc := []) (cs := []) (by kernel_rfl) trivial rfl rfl
noncomputable def rrot64_con : Con Tryd.prog G2 := Con.of 92 Tryd.f92 Tryd.func92 (by kernel_rfl) (by kernel_rfl) (fun
  | [x, y] => match (cInt .u64).dec x, (cInt .u64).dec y with
    | some a, some k => if rrots6.elem k then some ((cInt .u64).enc (rotG a (-k)), []) else none
    | _, _ => none
  | _ => none) fun args r c h => by
    split at h <;> try cases h
    split at h <;> try cases h
    rename_i ha hb
    split at h <;> cases h
    rename_i hk
    rw [← (cInt .u64).ok _ _ ha, ← (cInt .u64).ok _ _ hb]
    exact ⟨u64_ids _, fun _ => rrot64_fn _ _ (by simpa using hk)⟩
namespace r512
noncomputable abbrev fn := Tryd.f57
noncomputable def body : Code := bodyOf fn
noncomputable def A0 : Code := cs1 body
noncomputable def A1 : Code := cs1 (cs2 body)
noncomputable def A2 : Code := cs1 (cs2 (cs2 body))
noncomputable def A3 : Code := cs1 (cs2 (cs2 (cs2 body)))
noncomputable def T4 : Code := cs2 (cs2 (cs2 (cs2 body)))
noncomputable def A4 : Code := cs1 (cs1 T4)
noncomputable def LL : Code := cL (cB (cs2 (cs1 T4)))
noncomputable def DD : Code := cs2 T4
noncomputable def TT : Code := cs1 LL
noncomputable def BB : Code := cB (cs1 (cs2 LL))
noncomputable def A6 : Code := cs2 (cs2 LL)
noncomputable def A7 : Code := cs1 BB
noncomputable def B8 : Code := cs2 BB
noncomputable def A8 : Code := cs1 (cs1 B8)
noncomputable def L2 : Code := cL (cB (cs2 (cs1 B8)))
noncomputable def I2 : Code := cB (cs1 (csuf 2 L2))
noncomputable def LI : Code := cL (cB (csuf 2 I2))
noncomputable def R16 : Code := cs2 (csuf 2 L2)
noncomputable def B13 : Code := cs2 B8
noncomputable def A13 : Code := cs1 (cs1 B13)
noncomputable def L3 : Code := cL (cB (cs2 (cs1 B13)))
noncomputable def B19 : Code := cs2 B13
noncomputable def A19 : Code := cs1 B19
noncomputable def B20 : Code := cs2 B19
noncomputable def A20 : Code := cs1 (cs1 B20)
noncomputable def L4 : Code := cL (cB (cs2 (cs1 B20)))
noncomputable def B28 : Code := cs2 B20
noncomputable def A28 : Code := cs1 B28
noncomputable def L5 : Code := cL (cB (cs2 B28))
theorem body_eq : body = .seq A0 (.seq A1 (.seq A2 (.seq A3 (.seq (.seq A4 (.block 0 (.loop LL))) DD)))) := by kernel_rfl
theorem LL_eq : LL = .seq TT (.seq (.block 1 (.seq A7 (.seq (.seq A8 (.block 2 (.loop L2))) (.seq (.seq A13 (.block 6 (.loop L3))) (.seq A19 (.seq (.seq A20 (.block 8 (.loop L4))) (.seq A28 (.block 10 (.loop L5))))))))) A6) := by kernel_rfl
theorem L2_suf : csuf 2 L2 = .seq (.block 3 I2) R16 := by kernel_rfl
theorem I2_suf : csuf 2 I2 = .block 4 (.loop LI) := by kernel_rfl
noncomputable def Γ : Cons Tryd.prog G2 := [rk512_con, padd_con.lift gs_g2, rrot64_con]
namespace win
def MH (len at_ : Nat)  : List (Option SV) := maskL 224 0 [(2, .o (.a (.ptr 1 0))), (3, .o (.a (.ptr 2 0))), (4, .o (.a (.ptr 3 0))), (5, .o (.a (.slg 4 len))), (6, (cInt .i64).enc ((at_ : Nat) : Int))]
def M7 (len at_ : Nat)  : List (Option SV) := maskL 224 0 [(2, .o (.a (.ptr 1 0))), (3, .o (.a (.ptr 2 0))), (4, .o (.a (.ptr 3 0))), (5, .o (.a (.slg 4 len))), (6, (cInt .i64).enc ((at_ : Nat) : Int)), (7, .o (.a (.ptr 5 0)))]
def M2 (len at_ : Nat) (t : Nat) : List (Option SV) := maskL 224 0 [(2, .o (.a (.ptr 1 0))), (3, .o (.a (.ptr 2 0))), (4, .o (.a (.ptr 3 0))), (5, .o (.a (.slg 4 len))), (6, (cInt .i64).enc ((at_ : Nat) : Int)), (7, .o (.a (.ptr 5 0))), (32, (cInt .i64).enc ((t : Nat) : Int))]
def MI (len at_ : Nat) (t i : Nat) : List (Option SV) := maskL 224 0 [(2, .o (.a (.ptr 1 0))), (3, .o (.a (.ptr 2 0))), (4, .o (.a (.ptr 3 0))), (5, .o (.a (.slg 4 len))), (6, (cInt .i64).enc ((at_ : Nat) : Int)), (7, .o (.a (.ptr 5 0))), (8, (cInt .i64).enc ((t : Nat) : Int)), (32, (cInt .i64).enc ((t : Nat) : Int)), (35, (cInt .i64).enc ((i : Nat) : Int))]
def M3 (len at_ : Nat) (t : Nat) : List (Option SV) := maskL 224 0 [(2, .o (.a (.ptr 1 0))), (3, .o (.a (.ptr 2 0))), (4, .o (.a (.ptr 3 0))), (5, .o (.a (.slg 4 len))), (6, (cInt .i64).enc ((at_ : Nat) : Int)), (7, .o (.a (.ptr 5 0))), (10, (cInt .i64).enc ((t : Nat) : Int))]
def M19 (len at_ : Nat)  : List (Option SV) := maskL 224 0 [(2, .o (.a (.ptr 1 0))), (3, .o (.a (.ptr 2 0))), (4, .o (.a (.ptr 3 0))), (5, .o (.a (.slg 4 len))), (6, (cInt .i64).enc ((at_ : Nat) : Int)), (7, .o (.a (.ptr 5 0))), (13, .o (.a (.ptr 6 0)))]
def M4 (len at_ : Nat) (t : Nat) : List (Option SV) := maskL 224 0 [(2, .o (.a (.ptr 1 0))), (3, .o (.a (.ptr 2 0))), (4, .o (.a (.ptr 3 0))), (5, .o (.a (.slg 4 len))), (6, (cInt .i64).enc ((at_ : Nat) : Int)), (7, .o (.a (.ptr 5 0))), (13, .o (.a (.ptr 6 0))), (111, (cInt .i64).enc ((t : Nat) : Int))]
def M5 (len at_ : Nat) (t : Nat) : List (Option SV) := maskL 224 0 [(2, .o (.a (.ptr 1 0))), (3, .o (.a (.ptr 2 0))), (4, .o (.a (.ptr 3 0))), (5, .o (.a (.slg 4 len))), (6, (cInt .i64).enc ((at_ : Nat) : Int)), (13, .o (.a (.ptr 6 0))), (193, (cInt .i64).enc ((t : Nat) : Int))]
def memH (ys : List Int) (ty : TypeId) (xs : List Int) (lo : Nat) (h : Nat → Int) : List Blk := [⟨false, ty, .pre .u8 ys⟩, ⟨true, 46, .lit (zeroC.to.map (int1 .u8))⟩, ⟨true, 108, .lit (rowD h)⟩, ⟨true, 119, .lit (k512L.map (int1 .u64))⟩, ⟨true, 5, .gro .u8 xs lo none⟩]
def memW (ys : List Int) (ty : TypeId) (xs : List Int) (lo : Nat) (h x : Nat → Int) : List Blk := memH ys ty xs lo h ++ [⟨true, 119, .lit (row80 x)⟩]
def memS (ys : List Int) (ty : TypeId) (xs : List Int) (lo : Nat) (h x s : Nat → Int) : List Blk := memH ys ty xs lo h ++ [⟨true, 119, .lit (row80 x)⟩, ⟨true, 108, .lit (rowD s)⟩]
theorem idsH (ys : List Int) (ty : TypeId) (len at_ lo : Nat) (xs : List Int) (h : Nat → Int) : idsIn (memH ys ty xs lo h).length (MH len at_) (memH ys ty xs lo h) = true := by kernel_rfl
theorem ids7 (ys : List Int) (ty : TypeId) (len at_ lo : Nat) (xs : List Int) (h : Nat → Int) (x : Nat → Int) : idsIn (memW ys ty xs lo h x).length (M7 len at_) (memW ys ty xs lo h x) = true := by kernel_rfl
theorem ids2 (ys : List Int) (ty : TypeId) (len at_ lo : Nat) (xs : List Int) (h : Nat → Int) (x : Nat → Int) (t : Nat) : idsIn (memW ys ty xs lo h x).length (M2 len at_ t) (memW ys ty xs lo h x) = true := by kernel_rfl
theorem idsI (ys : List Int) (ty : TypeId) (len at_ lo : Nat) (xs : List Int) (h : Nat → Int) (x : Nat → Int) (t i : Nat) : idsIn (memW ys ty xs lo h x).length (MI len at_ t i) (memW ys ty xs lo h x) = true := by kernel_rfl
theorem ids3 (ys : List Int) (ty : TypeId) (len at_ lo : Nat) (xs : List Int) (h : Nat → Int) (x : Nat → Int) (t : Nat) : idsIn (memW ys ty xs lo h x).length (M3 len at_ t) (memW ys ty xs lo h x) = true := by kernel_rfl
theorem ids19 (ys : List Int) (ty : TypeId) (len at_ lo : Nat) (xs : List Int) (h : Nat → Int) (x : Nat → Int) (s : Nat → Int) : idsIn (memS ys ty xs lo h x s).length (M19 len at_) (memS ys ty xs lo h x s) = true := by kernel_rfl
theorem ids4 (ys : List Int) (ty : TypeId) (len at_ lo : Nat) (xs : List Int) (h : Nat → Int) (x : Nat → Int) (s : Nat → Int) (t : Nat) : idsIn (memS ys ty xs lo h x s).length (M4 len at_ t) (memS ys ty xs lo h x s) = true := by kernel_rfl
theorem ids5 (ys : List Int) (ty : TypeId) (len at_ lo : Nat) (xs : List Int) (h : Nat → Int) (x : Nat → Int) (s : Nat → Int) (t : Nat) : idsIn (memS ys ty xs lo h x s).length (M5 len at_ t) (memS ys ty xs lo h x s) = true := by kernel_rfl
noncomputable def t0 (n c : Nat)  : List SV := startT fn [.o (.a (.sld 0 0 0 n c))]
def N0 (n c : Nat) : List (Option SV) := maskL 224 0 [(0, .o (.a (.sld 0 0 0 n c))), (2, .o (.a (.ptr 1 0)))]
def N1 (n c : Nat) : List (Option SV) := maskL 224 0 [(0, .o (.a (.sld 0 0 0 n c))), (2, .o (.a (.ptr 1 0))), (3, .o (.a (.ptr 2 0)))]
def N2 (n c : Nat) : List (Option SV) := maskL 224 0 [(0, .o (.a (.sld 0 0 0 n c))), (2, .o (.a (.ptr 1 0))), (3, .o (.a (.ptr 2 0))), (4, .o (.a (.ptr 3 0)))]
def N3 (len : Nat) : List (Option SV) := maskL 224 0 [(2, .o (.a (.ptr 1 0))), (3, .o (.a (.ptr 2 0))), (4, .o (.a (.ptr 3 0))), (5, .o (.a (.slg 4 len)))]
def mm (ys : List Int) (ty : TypeId): List Blk := [⟨false, ty, .pre .u8 ys⟩]
def m0 (ys : List Int) (ty : TypeId): List Blk := mm ys ty ++ [⟨true, 46, .lit (zeroC.to.map (int1 .u8))⟩]
def m1 (ys : List Int) (ty : TypeId): List Blk := m0 ys ty ++ [⟨true, 108, .lit (rowD initD.at)⟩]
def m2 (ys : List Int) (ty : TypeId): List Blk := m1 ys ty ++ [⟨true, 119, .lit (k512L.map (int1 .u64))⟩]
theorem idsN0 (ys : List Int) (ty : TypeId) (n c : Nat) : idsIn (m0 ys ty).length (N0 n c) (m0 ys ty) = true := by kernel_rfl
theorem idsN1 (ys : List Int) (ty : TypeId) (n c : Nat) : idsIn (m1 ys ty).length (N1 n c) (m1 ys ty) = true := by kernel_rfl
theorem idsN2 (ys : List Int) (ty : TypeId) (n c : Nat) : idsIn (m2 ys ty).length (N2 n c) (m2 ys ty) = true := by kernel_rfl
theorem idsN3 (ys : List Int) (ty : TypeId) (n c : Nat) (len lo : Nat) (xs : List Int) : idsIn (memH ys ty xs lo initD.at).length (N3 len) (memH ys ty xs lo initD.at) = true := by kernel_rfl
theorem a0 (ys : List Int) (ty : TypeId) (n c : Nat) : outX (m0 ys ty).length (N0 n c) (exec Γ tys 100 A0 ⟨t0 n c, mm ys ty, []⟩) = some (.normal, live (N0 n c), (N0 n c).length, m0 ys ty, []) := by kernel_rfl
theorem a1 (ys : List Int) (ty : TypeId) (n c : Nat) (g : Nat → SV) : outX (m1 ys ty).length (N1 n c) (exec Γ tys 100 A1 ⟨fill g 0 (N0 n c), m0 ys ty, []⟩) = some (.normal, live (N1 n c), (N1 n c).length, m1 ys ty, []) := by kernel_rfl
theorem a2 (ys : List Int) (ty : TypeId) (n c : Nat) (g : Nat → SV) : outX (m2 ys ty).length (N2 n c) (exec Γ tys 100 A2 ⟨fill g 0 (N1 n c), m1 ys ty, []⟩) = some (.normal, live (N2 n c), (N2 n c).length, m2 ys ty, []) := by kernel_rfl
theorem a3 (ys : List Int) (ty : TypeId) (n c : Nat) (g : Nat → SV) : outX (memH ys ty (padR ((ys.drop 0).take n) 128 16) (padR ((ys.drop 0).take n) 128 16).length initD.at).length (N3 (padR ((ys.drop 0).take n) 128 16).length) (exec Γ tys 100 A3 ⟨fill g 0 (N2 n c), m2 ys ty, []⟩) = some (.normal, live (N3 (padR ((ys.drop 0).take n) 128 16).length), (N3 (padR ((ys.drop 0).take n) 128 16).length).length, memH ys ty (padR ((ys.drop 0).take n) 128 16) (padR ((ys.drop 0).take n) 128 16).length initD.at, [0 + n ≤ ys.length, n ≤ c, n ≤ 140737488354000]) := by kernel_rfl
theorem a4 (ys : List Int) (ty : TypeId) (len lo : Nat) (xs : List Int) (g : Nat → SV) : outX (memH ys ty xs lo initD.at).length (MH len 0) (exec Γ tys 100 A4 ⟨fill g 0 (N3 len), memH ys ty xs lo initD.at, []⟩) = some (.normal, live (MH len 0), (MH len 0).length, memH ys ty xs lo initD.at, []) := by kernel_rfl
theorem go (ys : List Int) (ty : TypeId) (len at_ lo : Nat) (xs : List Int) (h : Nat → Int) (g : Nat → SV) : outX (memH ys ty xs lo h).length (MH len at_) (exec Γ tys 100 TT ⟨fill g 0 (MH len at_), memH ys ty xs lo h, [(29, [.b true])]⟩) = some (.normal, live (MH len at_), (MH len at_).length, memH ys ty xs lo h, [decide ((at_ : Int) < (len : Int)) = true]) := by kernel_rfl
theorem stop (ys : List Int) (ty : TypeId) (len at_ lo : Nat) (xs : List Int) (h : Nat → Int) (g : Nat → SV) : outX (memH ys ty xs lo h).length (MH len at_) (exec Γ tys 100 TT ⟨fill g 0 (MH len at_), memH ys ty xs lo h, [(29, [.b false])]⟩) = some (.exit 0, live (MH len at_), (MH len at_).length, memH ys ty xs lo h, [decide ((at_ : Int) < (len : Int)) = false]) := by kernel_rfl
theorem p7 (ys : List Int) (ty : TypeId) (len at_ lo : Nat) (xs : List Int) (h : Nat → Int) (g : Nat → SV) : outX (memW ys ty xs lo h dblk.zero80).length (M7 len at_) (exec Γ tys 100 A7 ⟨fill g 0 (MH len at_), memH ys ty xs lo h, []⟩) = some (.normal, live (M7 len at_), (M7 len at_).length, memW ys ty xs lo h dblk.zero80, []) := by kernel_rfl
theorem p8 (ys : List Int) (ty : TypeId) (len at_ lo : Nat) (xs : List Int) (h : Nat → Int) (x : Nat → Int) (g : Nat → SV) : outX (memW ys ty xs lo h x).length (M2 len at_ 0) (exec Γ tys 100 A8 ⟨fill g 0 (M7 len at_), memW ys ty xs lo h x, []⟩) = some (.normal, live (M2 len at_ 0), (M2 len at_ 0).length, memW ys ty xs lo h x, []) := by kernel_rfl
theorem go2 (ys : List Int) (ty : TypeId) (len at_ lo : Nat) (xs : List Int) (h : Nat → Int) (x : Nat → Int) (t : Nat) (g : Nat → SV) : outX (memW ys ty xs lo h x).length (M2 len at_ t) (exec Γ tys 100 (cpre 2 L2) ⟨fill g 0 (M2 len at_ t), memW ys ty xs lo h x, [(33, [.b true])]⟩) = some (.normal, live (M2 len at_ t), (M2 len at_ t).length, memW ys ty xs lo h x, [decide ((t : Int) < 16) = true]) := by kernel_rfl
theorem end2 (ys : List Int) (ty : TypeId) (len at_ lo : Nat) (xs : List Int) (h : Nat → Int) (x : Nat → Int) (t : Nat) (g : Nat → SV) : outX (memW ys ty xs lo h x).length (M7 len at_) (exec Γ tys 100 L2 ⟨fill g 0 (M2 len at_ t), memW ys ty xs lo h x, [(33, [.b false])]⟩) = some (.exit 2, live (M7 len at_), (M7 len at_).length, memW ys ty xs lo h x, [decide ((t : Int) < 16) = false]) := by kernel_rfl
theorem i2 (ys : List Int) (ty : TypeId) (len at_ lo : Nat) (xs : List Int) (h : Nat → Int) (x : Nat → Int) (t : Nat) (g : Nat → SV) : outX (memW ys ty xs lo h x).length (MI len at_ t 0) (exec Γ tys 100 (cpre 2 I2) ⟨fill g 0 (M2 len at_ t), memW ys ty xs lo h x, []⟩) = some (.normal, live (MI len at_ t 0), (MI len at_ t 0).length, memW ys ty xs lo h x, []) := by kernel_rfl
theorem stepI (ys : List Int) (ty : TypeId) (len at_ lo : Nat) (xs : List Int) (h : Nat → Int) (x : Nat → Int) (t i : Nat) (a b v : Int) (g : Nat → SV) : outX (memW ys ty xs lo h (putF (0 + t) [v] x)).length (MI len at_ t (i + 1)) (exec Γ tys 100 LI ⟨fill g 0 (MI len at_ t i), memW ys ty xs lo h x, [(36, [.b true]), (40, [.dyn]), (41, [.n a]), (46, [.n ((8 * t : Nat) : Int)]), (47, [.n ((at_ + 8 * t : Nat) : Int)]), (49, [.n ((at_ + 8 * t + i : Nat) : Int)]), (51, [.n b]), (53, [.n v]), (54, [.dyn]), (55, [.n ((i + 1 : Nat) : Int)])]⟩) = some (.normal, live (MI len at_ t (i + 1)), (MI len at_ t (i + 1)).length, memW ys ty xs lo h (putF (0 + t) [v] x), [decide ((i : Int) < 8) = true, 0 ≤ (t : Int), (t : Int) < ((80 : Nat) : Int), 0 + t < (restL x 0 80).length, (restL x 0 80).getD (0 + t) 0 = a, IntKind.i64.wrap (8 * (t : Int)) = ((8 * t : Nat) : Int), IntKind.i64.wrap ((at_ : Int) + ((8 * t : Nat) : Int)) = ((at_ + 8 * t : Nat) : Int), IntKind.i64.wrap (((at_ + 8 * t : Nat) : Int) + (i : Int)) = ((at_ + 8 * t + i : Nat) : Int), 0 ≤ ((at_ + 8 * t + i : Nat) : Int), ((at_ + 8 * t + i : Nat) : Int) < (len : Int), 0 + (at_ + 8 * t + i) < xs.length, xs.getD (0 + (at_ + 8 * t + i)) 0 = b, wordS a b = v, 0 ≤ (t : Int), (t : Int) < ((80 : Nat) : Int), 0 + t + 1 ≤ (restL x 0 80).length, IntKind.i64.wrap ((i : Int) + 1) = ((i + 1 : Nat) : Int)]) := by kernel_rfl
theorem endI (ys : List Int) (ty : TypeId) (len at_ lo : Nat) (xs : List Int) (h : Nat → Int) (x : Nat → Int) (t i : Nat) (g : Nat → SV) : outX (memW ys ty xs lo h x).length (M2 len at_ t) (exec Γ tys 100 LI ⟨fill g 0 (MI len at_ t i), memW ys ty xs lo h x, [(36, [.b false])]⟩) = some (.exit 4, live (M2 len at_ t), (M2 len at_ t).length, memW ys ty xs lo h x, [decide ((i : Int) < 8) = false]) := by kernel_rfl
theorem p16 (ys : List Int) (ty : TypeId) (len at_ lo : Nat) (xs : List Int) (h : Nat → Int) (x : Nat → Int) (t : Nat) (g : Nat → SV) : outX (memW ys ty xs lo h x).length (M2 len at_ (t + 1)) (exec Γ tys 100 R16 ⟨fill g 0 (M2 len at_ t), memW ys ty xs lo h x, [(56, [.n ((t + 1 : Nat) : Int)])]⟩) = some (.normal, live (M2 len at_ (t + 1)), (M2 len at_ (t + 1)).length, memW ys ty xs lo h x, [IntKind.i64.wrap ((t : Int) + 1) = ((t + 1 : Nat) : Int)]) := by kernel_rfl
theorem p13 (ys : List Int) (ty : TypeId) (len at_ lo : Nat) (xs : List Int) (h : Nat → Int) (x : Nat → Int) (g : Nat → SV) : outX (memW ys ty xs lo h x).length (M3 len at_ 16) (exec Γ tys 100 A13 ⟨fill g 0 (M7 len at_), memW ys ty xs lo h x, []⟩) = some (.normal, live (M3 len at_ 16), (M3 len at_ 16).length, memW ys ty xs lo h x, []) := by kernel_rfl
theorem step3 (ys : List Int) (ty : TypeId) (len at_ lo : Nat) (xs : List Int) (h : Nat → Int) (x : Nat → Int) (t : Nat) (a b c d v : Int) (g : Nat → SV) : outX (memW ys ty xs lo h (putF (0 + (t + 16)) [v] x)).length (M3 len at_ (t + 17)) (exec Γ tys 100 L3 ⟨fill g 0 (M3 len at_ (t + 16)), memW ys ty xs lo h x, [(58, [.b true]), (62, [.n ((t + 14 : Nat) : Int)]), (63, [.dyn]), (64, [.n a]), (67, [.n ((t + 14 : Nat) : Int)]), (68, [.dyn]), (69, [.n a]), (73, [.n ((t + 14 : Nat) : Int)]), (74, [.dyn]), (75, [.n a]), (79, [.n ((t + 1 : Nat) : Int)]), (80, [.dyn]), (81, [.n b]), (84, [.n ((t + 1 : Nat) : Int)]), (85, [.dyn]), (86, [.n b]), (90, [.n ((t + 1 : Nat) : Int)]), (91, [.dyn]), (92, [.n b]), (98, [.n ((t + 9 : Nat) : Int)]), (99, [.dyn]), (100, [.n c]), (105, [.n ((t : Nat) : Int)]), (106, [.dyn]), (107, [.n d]), (108, [.n v]), (109, [.dyn]), (60, [.n ((t + 17 : Nat) : Int)])]⟩) = some (.normal, live (M3 len at_ (t + 17)), (M3 len at_ (t + 17)).length, memW ys ty xs lo h (putF (0 + (t + 16)) [v] x), [decide (((t + 16 : Nat) : Int) < 80) = true, IntKind.i64.wrap (((t + 16 : Nat) : Int) - 2) = ((t + 14 : Nat) : Int), 0 ≤ ((t + 14 : Nat) : Int), ((t + 14 : Nat) : Int) < ((80 : Nat) : Int), 0 + (t + 14) < (restL x 0 80).length, (restL x 0 80).getD (0 + (t + 14)) 0 = a, IntKind.i64.wrap (((t + 16 : Nat) : Int) - 2) = ((t + 14 : Nat) : Int), 0 ≤ ((t + 14 : Nat) : Int), ((t + 14 : Nat) : Int) < ((80 : Nat) : Int), 0 + (t + 14) < (restL x 0 80).length, (restL x 0 80).getD (0 + (t + 14)) 0 = a, IntKind.i64.wrap (((t + 16 : Nat) : Int) - 2) = ((t + 14 : Nat) : Int), 0 ≤ ((t + 14 : Nat) : Int), ((t + 14 : Nat) : Int) < ((80 : Nat) : Int), 0 + (t + 14) < (restL x 0 80).length, (restL x 0 80).getD (0 + (t + 14)) 0 = a, IntKind.i64.wrap (((t + 16 : Nat) : Int) - 15) = ((t + 1 : Nat) : Int), 0 ≤ ((t + 1 : Nat) : Int), ((t + 1 : Nat) : Int) < ((80 : Nat) : Int), 0 + (t + 1) < (restL x 0 80).length, (restL x 0 80).getD (0 + (t + 1)) 0 = b, IntKind.i64.wrap (((t + 16 : Nat) : Int) - 15) = ((t + 1 : Nat) : Int), 0 ≤ ((t + 1 : Nat) : Int), ((t + 1 : Nat) : Int) < ((80 : Nat) : Int), 0 + (t + 1) < (restL x 0 80).length, (restL x 0 80).getD (0 + (t + 1)) 0 = b, IntKind.i64.wrap (((t + 16 : Nat) : Int) - 15) = ((t + 1 : Nat) : Int), 0 ≤ ((t + 1 : Nat) : Int), ((t + 1 : Nat) : Int) < ((80 : Nat) : Int), 0 + (t + 1) < (restL x 0 80).length, (restL x 0 80).getD (0 + (t + 1)) 0 = b, IntKind.i64.wrap (((t + 16 : Nat) : Int) - 7) = ((t + 9 : Nat) : Int), 0 ≤ ((t + 9 : Nat) : Int), ((t + 9 : Nat) : Int) < ((80 : Nat) : Int), 0 + (t + 9) < (restL x 0 80).length, (restL x 0 80).getD (0 + (t + 9)) 0 = c, IntKind.i64.wrap (((t + 16 : Nat) : Int) - 16) = ((t : Nat) : Int), 0 ≤ ((t : Nat) : Int), ((t : Nat) : Int) < ((80 : Nat) : Int), 0 + (t) < (restL x 0 80).length, (restL x 0 80).getD (0 + (t)) 0 = d, sched6 a b c d = v, 0 ≤ ((t + 16 : Nat) : Int), ((t + 16 : Nat) : Int) < ((80 : Nat) : Int), 0 + (t + 16) + 1 ≤ (restL x 0 80).length, IntKind.i64.wrap (((t + 16 : Nat) : Int) + 1) = ((t + 17 : Nat) : Int)]) := by kernel_rfl
theorem end3 (ys : List Int) (ty : TypeId) (len at_ lo : Nat) (xs : List Int) (h : Nat → Int) (x : Nat → Int) (t : Nat) (g : Nat → SV) : outX (memW ys ty xs lo h x).length (M7 len at_) (exec Γ tys 100 L3 ⟨fill g 0 (M3 len at_ t), memW ys ty xs lo h x, [(58, [.b false])]⟩) = some (.exit 6, live (M7 len at_), (M7 len at_).length, memW ys ty xs lo h x, [decide ((t : Int) < 80) = false]) := by kernel_rfl
theorem p19 (ys : List Int) (ty : TypeId) (len at_ lo : Nat) (xs : List Int) (h : Nat → Int) (x : Nat → Int) (g : Nat → SV) : outX (memS ys ty xs lo h x h).length (M19 len at_) (exec Γ tys 100 A19 ⟨fill g 0 (M7 len at_), memW ys ty xs lo h x, []⟩) = some (.normal, live (M19 len at_), (M19 len at_).length, memS ys ty xs lo h x h, []) := by kernel_rfl
theorem p20 (ys : List Int) (ty : TypeId) (len at_ lo : Nat) (xs : List Int) (h : Nat → Int) (x : Nat → Int) (s : Nat → Int) (g : Nat → SV) : outX (memS ys ty xs lo h x s).length (M4 len at_ 0) (exec Γ tys 100 A20 ⟨fill g 0 (M19 len at_), memS ys ty xs lo h x s, []⟩) = some (.normal, live (M4 len at_ 0), (M4 len at_ 0).length, memS ys ty xs lo h x s, []) := by kernel_rfl
theorem step4 (ys : List Int) (ty : TypeId) (len at_ lo : Nat) (xs : List Int) (h : Nat → Int) (x : Nat → Int) (s : Nat → Int) (t : Nat) (k w : Int) (g : Nat → SV) : outX (memS ys ty xs lo h x (round6 s k w)).length (M4 len at_ (t + 1)) (exec Γ tys 100 L4 ⟨fill g 0 (M4 len at_ t), memS ys ty xs lo h x s, [(112, [.b true]), (141, [.dyn]), (142, [.n k]), (145, [.dyn]), (146, [.n w]), (192, [.n ((t + 1 : Nat) : Int)])]⟩) = some (.normal, live (M4 len at_ (t + 1)), (M4 len at_ (t + 1)).length, memS ys ty xs lo h x (round6 s k w), [decide ((t : Int) < 80) = true, 0 ≤ (t : Int), (t : Int) < ((80 : Nat) : Int), 0 + t < k512L.length, k512L.getD (0 + t) 0 = k, 0 ≤ ((t : Nat) : Int), ((t : Nat) : Int) < ((80 : Nat) : Int), 0 + (t) < (restL x 0 80).length, (restL x 0 80).getD (0 + (t)) 0 = w, IntKind.i64.wrap ((t : Int) + 1) = ((t + 1 : Nat) : Int)]) := by kernel_rfl
theorem end4 (ys : List Int) (ty : TypeId) (len at_ lo : Nat) (xs : List Int) (h : Nat → Int) (x : Nat → Int) (s : Nat → Int) (t : Nat) (g : Nat → SV) : outX (memS ys ty xs lo h x s).length (M19 len at_) (exec Γ tys 100 L4 ⟨fill g 0 (M4 len at_ t), memS ys ty xs lo h x s, [(112, [.b false])]⟩) = some (.exit 8, live (M19 len at_), (M19 len at_).length, memS ys ty xs lo h x s, [decide ((t : Int) < 80) = false]) := by kernel_rfl
theorem p28 (ys : List Int) (ty : TypeId) (len at_ lo : Nat) (xs : List Int) (h : Nat → Int) (x : Nat → Int) (s : Nat → Int) (g : Nat → SV) : outX (memS ys ty xs lo (dblk.sumD h s 0) x s).length (M5 len at_ 0) (exec Γ tys 100 A28 ⟨fill g 0 (M19 len at_), memS ys ty xs lo h x s, []⟩) = some (.normal, live (M5 len at_ 0), (M5 len at_ 0).length, memS ys ty xs lo (dblk.sumD h s 0) x s, []) := by kernel_rfl
theorem tab5 (ys : List Int) (ty : TypeId) (len at_ lo : Nat) (xs : List Int) (h : Nat → Int) (x : Nat → Int) (s : Nat → Int) (g : Nat → SV) : tabLH (fun t => outX (memS ys ty xs lo (dblk.sumD h s (t + 1)) x s).length (M5 len at_ (t + 1)) (exec Γ tys 100 L5 ⟨fill g 0 (M5 len at_ t), memS ys ty xs lo (dblk.sumD h s t) x s, []⟩)) 8 = tabRH (fun t => some (.normal, live (M5 len at_ (t + 1)), (M5 len at_ (t + 1)).length, memS ys ty xs lo (dblk.sumD h s (t + 1)) x s, [])) 8 := by kernel_rfl
theorem end5 (ys : List Int) (ty : TypeId) (len at_ lo : Nat) (xs : List Int) (h : Nat → Int) (x : Nat → Int) (s : Nat → Int) (g : Nat → SV) : outX (memH ys ty xs lo (fun i => addD (h i) (s i))).length (MH len at_) (exec Γ tys 100 L5 ⟨fill g 0 (M5 len at_ 8), memS ys ty xs lo (dblk.sumD h s 8) x s, []⟩) = some (.exit 10, live (MH len at_), (MH len at_).length, memH ys ty xs lo (fun i => addD (h i) (s i)), []) := by kernel_rfl
theorem p6 (ys : List Int) (ty : TypeId) (len at_ lo : Nat) (xs : List Int) (h : Nat → Int) (g : Nat → SV) : outX (memH ys ty xs lo h).length (MH len (at_ + 128)) (exec Γ tys 100 A6 ⟨fill g 0 (MH len at_), memH ys ty xs lo h, [(31, [.n ((at_ + 128 : Nat) : Int)])]⟩) = some (.normal, live (MH len (at_ + 128)), (MH len (at_ + 128)).length, memH ys ty xs lo h, [IntKind.i64.wrap ((at_ : Int) + 128) = ((at_ + 128 : Nat) : Int)]) := by kernel_rfl
noncomputable def fin (ys : List Int) (ty : TypeId) (len at_ lo : Nat) (xs : List Int) (h : E8) (g : Nat → SV)  : St := outS Γ tys 100 DD ⟨fill g 0 (MH len at_), memH ys ty xs lo h.at, []⟩
theorem d (ys : List Int) (ty : TypeId) (len at_ lo : Nat) (xs : List Int) (h : E8) (g : Nat → SV) : exec Γ tys 100 DD ⟨fill g 0 (MH len at_), memH ys ty xs lo h.at, []⟩ = some (.ret, ⟨(fin ys ty len at_ lo xs h g).tm, (fin ys ty len at_ lo xs h g).mem, []⟩, []) := by kernel_rfl
theorem res (ys : List Int) (ty : TypeId) (len at_ lo : Nat) (xs : List Int) (h : E8) (g : Nat → SV) : eRes tys (fin ys ty len at_ lo xs h g).tm (fun k => (fin ys ty len at_ lo xs h g).mem[k]?) fn.results.toList = some [.g ((outD h).to.map (int1 .u8))] := by kernel_rfl
end win
namespace none
def MH (len at_ : Nat)  : List (Option SV) := maskL 224 0 [(2, .o (.a (.ptr 0 0))), (3, .o (.a (.ptr 1 0))), (4, .o (.a (.ptr 2 0))), (5, .o (.a (.slg 3 len))), (6, (cInt .i64).enc ((at_ : Nat) : Int))]
def M7 (len at_ : Nat)  : List (Option SV) := maskL 224 0 [(2, .o (.a (.ptr 0 0))), (3, .o (.a (.ptr 1 0))), (4, .o (.a (.ptr 2 0))), (5, .o (.a (.slg 3 len))), (6, (cInt .i64).enc ((at_ : Nat) : Int)), (7, .o (.a (.ptr 4 0)))]
def M2 (len at_ : Nat) (t : Nat) : List (Option SV) := maskL 224 0 [(2, .o (.a (.ptr 0 0))), (3, .o (.a (.ptr 1 0))), (4, .o (.a (.ptr 2 0))), (5, .o (.a (.slg 3 len))), (6, (cInt .i64).enc ((at_ : Nat) : Int)), (7, .o (.a (.ptr 4 0))), (32, (cInt .i64).enc ((t : Nat) : Int))]
def MI (len at_ : Nat) (t i : Nat) : List (Option SV) := maskL 224 0 [(2, .o (.a (.ptr 0 0))), (3, .o (.a (.ptr 1 0))), (4, .o (.a (.ptr 2 0))), (5, .o (.a (.slg 3 len))), (6, (cInt .i64).enc ((at_ : Nat) : Int)), (7, .o (.a (.ptr 4 0))), (8, (cInt .i64).enc ((t : Nat) : Int)), (32, (cInt .i64).enc ((t : Nat) : Int)), (35, (cInt .i64).enc ((i : Nat) : Int))]
def M3 (len at_ : Nat) (t : Nat) : List (Option SV) := maskL 224 0 [(2, .o (.a (.ptr 0 0))), (3, .o (.a (.ptr 1 0))), (4, .o (.a (.ptr 2 0))), (5, .o (.a (.slg 3 len))), (6, (cInt .i64).enc ((at_ : Nat) : Int)), (7, .o (.a (.ptr 4 0))), (10, (cInt .i64).enc ((t : Nat) : Int))]
def M19 (len at_ : Nat)  : List (Option SV) := maskL 224 0 [(2, .o (.a (.ptr 0 0))), (3, .o (.a (.ptr 1 0))), (4, .o (.a (.ptr 2 0))), (5, .o (.a (.slg 3 len))), (6, (cInt .i64).enc ((at_ : Nat) : Int)), (7, .o (.a (.ptr 4 0))), (13, .o (.a (.ptr 5 0)))]
def M4 (len at_ : Nat) (t : Nat) : List (Option SV) := maskL 224 0 [(2, .o (.a (.ptr 0 0))), (3, .o (.a (.ptr 1 0))), (4, .o (.a (.ptr 2 0))), (5, .o (.a (.slg 3 len))), (6, (cInt .i64).enc ((at_ : Nat) : Int)), (7, .o (.a (.ptr 4 0))), (13, .o (.a (.ptr 5 0))), (111, (cInt .i64).enc ((t : Nat) : Int))]
def M5 (len at_ : Nat) (t : Nat) : List (Option SV) := maskL 224 0 [(2, .o (.a (.ptr 0 0))), (3, .o (.a (.ptr 1 0))), (4, .o (.a (.ptr 2 0))), (5, .o (.a (.slg 3 len))), (6, (cInt .i64).enc ((at_ : Nat) : Int)), (13, .o (.a (.ptr 5 0))), (193, (cInt .i64).enc ((t : Nat) : Int))]
def memH  (xs : List Int) (lo : Nat) (h : Nat → Int) : List Blk := [⟨true, 46, .lit (zeroC.to.map (int1 .u8))⟩, ⟨true, 108, .lit (rowD h)⟩, ⟨true, 119, .lit (k512L.map (int1 .u64))⟩, ⟨true, 5, .gro .u8 xs lo none⟩]
def memW  (xs : List Int) (lo : Nat) (h x : Nat → Int) : List Blk := memH  xs lo h ++ [⟨true, 119, .lit (row80 x)⟩]
def memS  (xs : List Int) (lo : Nat) (h x s : Nat → Int) : List Blk := memH  xs lo h ++ [⟨true, 119, .lit (row80 x)⟩, ⟨true, 108, .lit (rowD s)⟩]
theorem idsH  (len at_ lo : Nat) (xs : List Int) (h : Nat → Int) : idsIn (memH  xs lo h).length (MH len at_) (memH  xs lo h) = true := by kernel_rfl
theorem ids7  (len at_ lo : Nat) (xs : List Int) (h : Nat → Int) (x : Nat → Int) : idsIn (memW  xs lo h x).length (M7 len at_) (memW  xs lo h x) = true := by kernel_rfl
theorem ids2  (len at_ lo : Nat) (xs : List Int) (h : Nat → Int) (x : Nat → Int) (t : Nat) : idsIn (memW  xs lo h x).length (M2 len at_ t) (memW  xs lo h x) = true := by kernel_rfl
theorem idsI  (len at_ lo : Nat) (xs : List Int) (h : Nat → Int) (x : Nat → Int) (t i : Nat) : idsIn (memW  xs lo h x).length (MI len at_ t i) (memW  xs lo h x) = true := by kernel_rfl
theorem ids3  (len at_ lo : Nat) (xs : List Int) (h : Nat → Int) (x : Nat → Int) (t : Nat) : idsIn (memW  xs lo h x).length (M3 len at_ t) (memW  xs lo h x) = true := by kernel_rfl
theorem ids19  (len at_ lo : Nat) (xs : List Int) (h : Nat → Int) (x : Nat → Int) (s : Nat → Int) : idsIn (memS  xs lo h x s).length (M19 len at_) (memS  xs lo h x s) = true := by kernel_rfl
theorem ids4  (len at_ lo : Nat) (xs : List Int) (h : Nat → Int) (x : Nat → Int) (s : Nat → Int) (t : Nat) : idsIn (memS  xs lo h x s).length (M4 len at_ t) (memS  xs lo h x s) = true := by kernel_rfl
theorem ids5  (len at_ lo : Nat) (xs : List Int) (h : Nat → Int) (x : Nat → Int) (s : Nat → Int) (t : Nat) : idsIn (memS  xs lo h x s).length (M5 len at_ t) (memS  xs lo h x s) = true := by kernel_rfl
noncomputable def t0 (a : Option Addr)  : List SV := startT fn [.o (.a (.v (.slice a 0 0)))]
def N0 (a : Option Addr) : List (Option SV) := maskL 224 0 [(0, .o (.a (.v (.slice a 0 0)))), (2, .o (.a (.ptr 0 0)))]
def N1 (a : Option Addr) : List (Option SV) := maskL 224 0 [(0, .o (.a (.v (.slice a 0 0)))), (2, .o (.a (.ptr 0 0))), (3, .o (.a (.ptr 1 0)))]
def N2 (a : Option Addr) : List (Option SV) := maskL 224 0 [(0, .o (.a (.v (.slice a 0 0)))), (2, .o (.a (.ptr 0 0))), (3, .o (.a (.ptr 1 0))), (4, .o (.a (.ptr 2 0)))]
def N3 (len : Nat) : List (Option SV) := maskL 224 0 [(2, .o (.a (.ptr 0 0))), (3, .o (.a (.ptr 1 0))), (4, .o (.a (.ptr 2 0))), (5, .o (.a (.slg 3 len)))]
def mm : List Blk := []
def m0 : List Blk := mm  ++ [⟨true, 46, .lit (zeroC.to.map (int1 .u8))⟩]
def m1 : List Blk := m0  ++ [⟨true, 108, .lit (rowD initD.at)⟩]
def m2 : List Blk := m1  ++ [⟨true, 119, .lit (k512L.map (int1 .u64))⟩]
theorem idsN0  (a : Option Addr) : idsIn (m0 ).length (N0 a) (m0 ) = true := by kernel_rfl
theorem idsN1  (a : Option Addr) : idsIn (m1 ).length (N1 a) (m1 ) = true := by kernel_rfl
theorem idsN2  (a : Option Addr) : idsIn (m2 ).length (N2 a) (m2 ) = true := by kernel_rfl
theorem idsN3  (a : Option Addr) (len lo : Nat) (xs : List Int) : idsIn (memH  xs lo initD.at).length (N3 len) (memH  xs lo initD.at) = true := by kernel_rfl
theorem a0  (a : Option Addr) : outX (m0 ).length (N0 a) (exec Γ tys 100 A0 ⟨t0 a, mm , []⟩) = some (.normal, live (N0 a), (N0 a).length, m0 , []) := by kernel_rfl
theorem a1  (a : Option Addr) (g : Nat → SV) : outX (m1 ).length (N1 a) (exec Γ tys 100 A1 ⟨fill g 0 (N0 a), m0 , []⟩) = some (.normal, live (N1 a), (N1 a).length, m1 , []) := by kernel_rfl
theorem a2  (a : Option Addr) (g : Nat → SV) : outX (m2 ).length (N2 a) (exec Γ tys 100 A2 ⟨fill g 0 (N1 a), m1 , []⟩) = some (.normal, live (N2 a), (N2 a).length, m2 , []) := by kernel_rfl
theorem a3  (a : Option Addr) (g : Nat → SV) : outX (memH  (padR [] 128 16) (padR [] 128 16).length initD.at).length (N3 (padR [] 128 16).length) (exec Γ tys 100 A3 ⟨fill g 0 (N2 a), m2 , []⟩) = some (.normal, live (N3 (padR [] 128 16).length), (N3 (padR [] 128 16).length).length, memH  (padR [] 128 16) (padR [] 128 16).length initD.at, []) := by kernel_rfl
theorem a4  (len lo : Nat) (xs : List Int) (g : Nat → SV) : outX (memH  xs lo initD.at).length (MH len 0) (exec Γ tys 100 A4 ⟨fill g 0 (N3 len), memH  xs lo initD.at, []⟩) = some (.normal, live (MH len 0), (MH len 0).length, memH  xs lo initD.at, []) := by kernel_rfl
theorem go  (len at_ lo : Nat) (xs : List Int) (h : Nat → Int) (g : Nat → SV) : outX (memH  xs lo h).length (MH len at_) (exec Γ tys 100 TT ⟨fill g 0 (MH len at_), memH  xs lo h, [(29, [.b true])]⟩) = some (.normal, live (MH len at_), (MH len at_).length, memH  xs lo h, [decide ((at_ : Int) < (len : Int)) = true]) := by kernel_rfl
theorem stop  (len at_ lo : Nat) (xs : List Int) (h : Nat → Int) (g : Nat → SV) : outX (memH  xs lo h).length (MH len at_) (exec Γ tys 100 TT ⟨fill g 0 (MH len at_), memH  xs lo h, [(29, [.b false])]⟩) = some (.exit 0, live (MH len at_), (MH len at_).length, memH  xs lo h, [decide ((at_ : Int) < (len : Int)) = false]) := by kernel_rfl
theorem p7  (len at_ lo : Nat) (xs : List Int) (h : Nat → Int) (g : Nat → SV) : outX (memW  xs lo h dblk.zero80).length (M7 len at_) (exec Γ tys 100 A7 ⟨fill g 0 (MH len at_), memH  xs lo h, []⟩) = some (.normal, live (M7 len at_), (M7 len at_).length, memW  xs lo h dblk.zero80, []) := by kernel_rfl
theorem p8  (len at_ lo : Nat) (xs : List Int) (h : Nat → Int) (x : Nat → Int) (g : Nat → SV) : outX (memW  xs lo h x).length (M2 len at_ 0) (exec Γ tys 100 A8 ⟨fill g 0 (M7 len at_), memW  xs lo h x, []⟩) = some (.normal, live (M2 len at_ 0), (M2 len at_ 0).length, memW  xs lo h x, []) := by kernel_rfl
theorem go2  (len at_ lo : Nat) (xs : List Int) (h : Nat → Int) (x : Nat → Int) (t : Nat) (g : Nat → SV) : outX (memW  xs lo h x).length (M2 len at_ t) (exec Γ tys 100 (cpre 2 L2) ⟨fill g 0 (M2 len at_ t), memW  xs lo h x, [(33, [.b true])]⟩) = some (.normal, live (M2 len at_ t), (M2 len at_ t).length, memW  xs lo h x, [decide ((t : Int) < 16) = true]) := by kernel_rfl
theorem end2  (len at_ lo : Nat) (xs : List Int) (h : Nat → Int) (x : Nat → Int) (t : Nat) (g : Nat → SV) : outX (memW  xs lo h x).length (M7 len at_) (exec Γ tys 100 L2 ⟨fill g 0 (M2 len at_ t), memW  xs lo h x, [(33, [.b false])]⟩) = some (.exit 2, live (M7 len at_), (M7 len at_).length, memW  xs lo h x, [decide ((t : Int) < 16) = false]) := by kernel_rfl
theorem i2  (len at_ lo : Nat) (xs : List Int) (h : Nat → Int) (x : Nat → Int) (t : Nat) (g : Nat → SV) : outX (memW  xs lo h x).length (MI len at_ t 0) (exec Γ tys 100 (cpre 2 I2) ⟨fill g 0 (M2 len at_ t), memW  xs lo h x, []⟩) = some (.normal, live (MI len at_ t 0), (MI len at_ t 0).length, memW  xs lo h x, []) := by kernel_rfl
theorem stepI  (len at_ lo : Nat) (xs : List Int) (h : Nat → Int) (x : Nat → Int) (t i : Nat) (a b v : Int) (g : Nat → SV) : outX (memW  xs lo h (putF (0 + t) [v] x)).length (MI len at_ t (i + 1)) (exec Γ tys 100 LI ⟨fill g 0 (MI len at_ t i), memW  xs lo h x, [(36, [.b true]), (40, [.dyn]), (41, [.n a]), (46, [.n ((8 * t : Nat) : Int)]), (47, [.n ((at_ + 8 * t : Nat) : Int)]), (49, [.n ((at_ + 8 * t + i : Nat) : Int)]), (51, [.n b]), (53, [.n v]), (54, [.dyn]), (55, [.n ((i + 1 : Nat) : Int)])]⟩) = some (.normal, live (MI len at_ t (i + 1)), (MI len at_ t (i + 1)).length, memW  xs lo h (putF (0 + t) [v] x), [decide ((i : Int) < 8) = true, 0 ≤ (t : Int), (t : Int) < ((80 : Nat) : Int), 0 + t < (restL x 0 80).length, (restL x 0 80).getD (0 + t) 0 = a, IntKind.i64.wrap (8 * (t : Int)) = ((8 * t : Nat) : Int), IntKind.i64.wrap ((at_ : Int) + ((8 * t : Nat) : Int)) = ((at_ + 8 * t : Nat) : Int), IntKind.i64.wrap (((at_ + 8 * t : Nat) : Int) + (i : Int)) = ((at_ + 8 * t + i : Nat) : Int), 0 ≤ ((at_ + 8 * t + i : Nat) : Int), ((at_ + 8 * t + i : Nat) : Int) < (len : Int), 0 + (at_ + 8 * t + i) < xs.length, xs.getD (0 + (at_ + 8 * t + i)) 0 = b, wordS a b = v, 0 ≤ (t : Int), (t : Int) < ((80 : Nat) : Int), 0 + t + 1 ≤ (restL x 0 80).length, IntKind.i64.wrap ((i : Int) + 1) = ((i + 1 : Nat) : Int)]) := by kernel_rfl
theorem endI  (len at_ lo : Nat) (xs : List Int) (h : Nat → Int) (x : Nat → Int) (t i : Nat) (g : Nat → SV) : outX (memW  xs lo h x).length (M2 len at_ t) (exec Γ tys 100 LI ⟨fill g 0 (MI len at_ t i), memW  xs lo h x, [(36, [.b false])]⟩) = some (.exit 4, live (M2 len at_ t), (M2 len at_ t).length, memW  xs lo h x, [decide ((i : Int) < 8) = false]) := by kernel_rfl
theorem p16  (len at_ lo : Nat) (xs : List Int) (h : Nat → Int) (x : Nat → Int) (t : Nat) (g : Nat → SV) : outX (memW  xs lo h x).length (M2 len at_ (t + 1)) (exec Γ tys 100 R16 ⟨fill g 0 (M2 len at_ t), memW  xs lo h x, [(56, [.n ((t + 1 : Nat) : Int)])]⟩) = some (.normal, live (M2 len at_ (t + 1)), (M2 len at_ (t + 1)).length, memW  xs lo h x, [IntKind.i64.wrap ((t : Int) + 1) = ((t + 1 : Nat) : Int)]) := by kernel_rfl
theorem p13  (len at_ lo : Nat) (xs : List Int) (h : Nat → Int) (x : Nat → Int) (g : Nat → SV) : outX (memW  xs lo h x).length (M3 len at_ 16) (exec Γ tys 100 A13 ⟨fill g 0 (M7 len at_), memW  xs lo h x, []⟩) = some (.normal, live (M3 len at_ 16), (M3 len at_ 16).length, memW  xs lo h x, []) := by kernel_rfl
theorem step3  (len at_ lo : Nat) (xs : List Int) (h : Nat → Int) (x : Nat → Int) (t : Nat) (a b c d v : Int) (g : Nat → SV) : outX (memW  xs lo h (putF (0 + (t + 16)) [v] x)).length (M3 len at_ (t + 17)) (exec Γ tys 100 L3 ⟨fill g 0 (M3 len at_ (t + 16)), memW  xs lo h x, [(58, [.b true]), (62, [.n ((t + 14 : Nat) : Int)]), (63, [.dyn]), (64, [.n a]), (67, [.n ((t + 14 : Nat) : Int)]), (68, [.dyn]), (69, [.n a]), (73, [.n ((t + 14 : Nat) : Int)]), (74, [.dyn]), (75, [.n a]), (79, [.n ((t + 1 : Nat) : Int)]), (80, [.dyn]), (81, [.n b]), (84, [.n ((t + 1 : Nat) : Int)]), (85, [.dyn]), (86, [.n b]), (90, [.n ((t + 1 : Nat) : Int)]), (91, [.dyn]), (92, [.n b]), (98, [.n ((t + 9 : Nat) : Int)]), (99, [.dyn]), (100, [.n c]), (105, [.n ((t : Nat) : Int)]), (106, [.dyn]), (107, [.n d]), (108, [.n v]), (109, [.dyn]), (60, [.n ((t + 17 : Nat) : Int)])]⟩) = some (.normal, live (M3 len at_ (t + 17)), (M3 len at_ (t + 17)).length, memW  xs lo h (putF (0 + (t + 16)) [v] x), [decide (((t + 16 : Nat) : Int) < 80) = true, IntKind.i64.wrap (((t + 16 : Nat) : Int) - 2) = ((t + 14 : Nat) : Int), 0 ≤ ((t + 14 : Nat) : Int), ((t + 14 : Nat) : Int) < ((80 : Nat) : Int), 0 + (t + 14) < (restL x 0 80).length, (restL x 0 80).getD (0 + (t + 14)) 0 = a, IntKind.i64.wrap (((t + 16 : Nat) : Int) - 2) = ((t + 14 : Nat) : Int), 0 ≤ ((t + 14 : Nat) : Int), ((t + 14 : Nat) : Int) < ((80 : Nat) : Int), 0 + (t + 14) < (restL x 0 80).length, (restL x 0 80).getD (0 + (t + 14)) 0 = a, IntKind.i64.wrap (((t + 16 : Nat) : Int) - 2) = ((t + 14 : Nat) : Int), 0 ≤ ((t + 14 : Nat) : Int), ((t + 14 : Nat) : Int) < ((80 : Nat) : Int), 0 + (t + 14) < (restL x 0 80).length, (restL x 0 80).getD (0 + (t + 14)) 0 = a, IntKind.i64.wrap (((t + 16 : Nat) : Int) - 15) = ((t + 1 : Nat) : Int), 0 ≤ ((t + 1 : Nat) : Int), ((t + 1 : Nat) : Int) < ((80 : Nat) : Int), 0 + (t + 1) < (restL x 0 80).length, (restL x 0 80).getD (0 + (t + 1)) 0 = b, IntKind.i64.wrap (((t + 16 : Nat) : Int) - 15) = ((t + 1 : Nat) : Int), 0 ≤ ((t + 1 : Nat) : Int), ((t + 1 : Nat) : Int) < ((80 : Nat) : Int), 0 + (t + 1) < (restL x 0 80).length, (restL x 0 80).getD (0 + (t + 1)) 0 = b, IntKind.i64.wrap (((t + 16 : Nat) : Int) - 15) = ((t + 1 : Nat) : Int), 0 ≤ ((t + 1 : Nat) : Int), ((t + 1 : Nat) : Int) < ((80 : Nat) : Int), 0 + (t + 1) < (restL x 0 80).length, (restL x 0 80).getD (0 + (t + 1)) 0 = b, IntKind.i64.wrap (((t + 16 : Nat) : Int) - 7) = ((t + 9 : Nat) : Int), 0 ≤ ((t + 9 : Nat) : Int), ((t + 9 : Nat) : Int) < ((80 : Nat) : Int), 0 + (t + 9) < (restL x 0 80).length, (restL x 0 80).getD (0 + (t + 9)) 0 = c, IntKind.i64.wrap (((t + 16 : Nat) : Int) - 16) = ((t : Nat) : Int), 0 ≤ ((t : Nat) : Int), ((t : Nat) : Int) < ((80 : Nat) : Int), 0 + (t) < (restL x 0 80).length, (restL x 0 80).getD (0 + (t)) 0 = d, sched6 a b c d = v, 0 ≤ ((t + 16 : Nat) : Int), ((t + 16 : Nat) : Int) < ((80 : Nat) : Int), 0 + (t + 16) + 1 ≤ (restL x 0 80).length, IntKind.i64.wrap (((t + 16 : Nat) : Int) + 1) = ((t + 17 : Nat) : Int)]) := by kernel_rfl
theorem end3  (len at_ lo : Nat) (xs : List Int) (h : Nat → Int) (x : Nat → Int) (t : Nat) (g : Nat → SV) : outX (memW  xs lo h x).length (M7 len at_) (exec Γ tys 100 L3 ⟨fill g 0 (M3 len at_ t), memW  xs lo h x, [(58, [.b false])]⟩) = some (.exit 6, live (M7 len at_), (M7 len at_).length, memW  xs lo h x, [decide ((t : Int) < 80) = false]) := by kernel_rfl
theorem p19  (len at_ lo : Nat) (xs : List Int) (h : Nat → Int) (x : Nat → Int) (g : Nat → SV) : outX (memS  xs lo h x h).length (M19 len at_) (exec Γ tys 100 A19 ⟨fill g 0 (M7 len at_), memW  xs lo h x, []⟩) = some (.normal, live (M19 len at_), (M19 len at_).length, memS  xs lo h x h, []) := by kernel_rfl
theorem p20  (len at_ lo : Nat) (xs : List Int) (h : Nat → Int) (x : Nat → Int) (s : Nat → Int) (g : Nat → SV) : outX (memS  xs lo h x s).length (M4 len at_ 0) (exec Γ tys 100 A20 ⟨fill g 0 (M19 len at_), memS  xs lo h x s, []⟩) = some (.normal, live (M4 len at_ 0), (M4 len at_ 0).length, memS  xs lo h x s, []) := by kernel_rfl
theorem step4  (len at_ lo : Nat) (xs : List Int) (h : Nat → Int) (x : Nat → Int) (s : Nat → Int) (t : Nat) (k w : Int) (g : Nat → SV) : outX (memS  xs lo h x (round6 s k w)).length (M4 len at_ (t + 1)) (exec Γ tys 100 L4 ⟨fill g 0 (M4 len at_ t), memS  xs lo h x s, [(112, [.b true]), (141, [.dyn]), (142, [.n k]), (145, [.dyn]), (146, [.n w]), (192, [.n ((t + 1 : Nat) : Int)])]⟩) = some (.normal, live (M4 len at_ (t + 1)), (M4 len at_ (t + 1)).length, memS  xs lo h x (round6 s k w), [decide ((t : Int) < 80) = true, 0 ≤ (t : Int), (t : Int) < ((80 : Nat) : Int), 0 + t < k512L.length, k512L.getD (0 + t) 0 = k, 0 ≤ ((t : Nat) : Int), ((t : Nat) : Int) < ((80 : Nat) : Int), 0 + (t) < (restL x 0 80).length, (restL x 0 80).getD (0 + (t)) 0 = w, IntKind.i64.wrap ((t : Int) + 1) = ((t + 1 : Nat) : Int)]) := by kernel_rfl
theorem end4  (len at_ lo : Nat) (xs : List Int) (h : Nat → Int) (x : Nat → Int) (s : Nat → Int) (t : Nat) (g : Nat → SV) : outX (memS  xs lo h x s).length (M19 len at_) (exec Γ tys 100 L4 ⟨fill g 0 (M4 len at_ t), memS  xs lo h x s, [(112, [.b false])]⟩) = some (.exit 8, live (M19 len at_), (M19 len at_).length, memS  xs lo h x s, [decide ((t : Int) < 80) = false]) := by kernel_rfl
theorem p28  (len at_ lo : Nat) (xs : List Int) (h : Nat → Int) (x : Nat → Int) (s : Nat → Int) (g : Nat → SV) : outX (memS  xs lo (dblk.sumD h s 0) x s).length (M5 len at_ 0) (exec Γ tys 100 A28 ⟨fill g 0 (M19 len at_), memS  xs lo h x s, []⟩) = some (.normal, live (M5 len at_ 0), (M5 len at_ 0).length, memS  xs lo (dblk.sumD h s 0) x s, []) := by kernel_rfl
theorem tab5  (len at_ lo : Nat) (xs : List Int) (h : Nat → Int) (x : Nat → Int) (s : Nat → Int) (g : Nat → SV) : tabLH (fun t => outX (memS  xs lo (dblk.sumD h s (t + 1)) x s).length (M5 len at_ (t + 1)) (exec Γ tys 100 L5 ⟨fill g 0 (M5 len at_ t), memS  xs lo (dblk.sumD h s t) x s, []⟩)) 8 = tabRH (fun t => some (.normal, live (M5 len at_ (t + 1)), (M5 len at_ (t + 1)).length, memS  xs lo (dblk.sumD h s (t + 1)) x s, [])) 8 := by kernel_rfl
theorem end5  (len at_ lo : Nat) (xs : List Int) (h : Nat → Int) (x : Nat → Int) (s : Nat → Int) (g : Nat → SV) : outX (memH  xs lo (fun i => addD (h i) (s i))).length (MH len at_) (exec Γ tys 100 L5 ⟨fill g 0 (M5 len at_ 8), memS  xs lo (dblk.sumD h s 8) x s, []⟩) = some (.exit 10, live (MH len at_), (MH len at_).length, memH  xs lo (fun i => addD (h i) (s i)), []) := by kernel_rfl
theorem p6  (len at_ lo : Nat) (xs : List Int) (h : Nat → Int) (g : Nat → SV) : outX (memH  xs lo h).length (MH len (at_ + 128)) (exec Γ tys 100 A6 ⟨fill g 0 (MH len at_), memH  xs lo h, [(31, [.n ((at_ + 128 : Nat) : Int)])]⟩) = some (.normal, live (MH len (at_ + 128)), (MH len (at_ + 128)).length, memH  xs lo h, [IntKind.i64.wrap ((at_ : Int) + 128) = ((at_ + 128 : Nat) : Int)]) := by kernel_rfl
noncomputable def fin  (len at_ lo : Nat) (xs : List Int) (h : E8) (g : Nat → SV)  : St := outS Γ tys 100 DD ⟨fill g 0 (MH len at_), memH  xs lo h.at, []⟩
theorem d  (len at_ lo : Nat) (xs : List Int) (h : E8) (g : Nat → SV) : exec Γ tys 100 DD ⟨fill g 0 (MH len at_), memH  xs lo h.at, []⟩ = some (.ret, ⟨(fin  len at_ lo xs h g).tm, (fin  len at_ lo xs h g).mem, []⟩, []) := by kernel_rfl
theorem res  (len at_ lo : Nat) (xs : List Int) (h : E8) (g : Nat → SV) : eRes tys (fin  len at_ lo xs h g).tm (fun k => (fin  len at_ lo xs h g).mem[k]?) fn.results.toList = some [.g ((outD h).to.map (int1 .u8))] := by kernel_rfl
end none
end r512
end Go.Proofs.YtbfndladaldajaaDoor
/- Package beaconref01: Sum512: its loops; its contract. -/
namespace Go.Proofs.YtbfndladaldajaaDoor
open Go Go.Eng Go.RowKit
set_option linter.unusedVariables false
set_option maxRecDepth 100000
theorem wordG_take (zs : List Int) : ∀ i, i ≤ zs.length → wordG zs i = wordV (zs.take i)
  | 0, _ => by rw [List.take_zero]; rfl
  | i + 1, h => by
    unfold wordV
    rw [List.length_take, Nat.min_eq_left h]
    have : ∀ j, j ≤ i + 1 → wordG zs j = wordG (zs.take (i + 1)) j := by
      intro j
      induction j with
      | zero => intro _; rfl
      | succ j ih =>
        intro hj
        rw [wordG, wordG, ih (by omega)]
        congr 1
        simp only [List.getD, List.getElem?_take, if_pos (show j < i + 1 by omega)]
    exact this _ (Nat.le_refl _)
theorem comp_row (H : E8) (ys : List Int) : rowD (comp6 H.at (sch6 ys)) = rowE (blkD H ys) := by
  rw [← rowD_E]
  unfold rowD blkD
  simp only [E8.at_mk _ 0 (by omega), E8.at_mk _ 1 (by omega), E8.at_mk _ 2 (by omega), E8.at_mk _ 3 (by omega), E8.at_mk _ 4 (by omega), E8.at_mk _ 5 (by omega), E8.at_mk _ 6 (by omega), E8.at_mk _ 7 (by omega)]
section
variable {Post : Ex → List SV → List Blk → Prop}
theorem r512_win_inner (ys : List Int) (ty : TypeId) (len at_ lo : Nat) (xs : List Int) (h x : Nat → Int) (t : Nat) (ht : t < 16) (hl : xs.length = len) (ha : at_ + 128 ≤ len) (hs : len ≤ 140737488358400) (hx0 : x t = 0)
    (hp : ∀ g y, (∀ j, j ≠ t → y j = x j) → y t = wordV (((xs.drop at_).drop (8 * t)).take 8) → Post .normal (fill g 0 (r512.win.M2 len at_ t)) (r512.win.memW ys ty xs lo h y)) (g : Nat → SV) :
    RunsF Tryd.prog G2 1 (.block 4 (.loop r512.LI)) (fill g 0 (r512.win.MI len at_ t 0)) (r512.win.memW ys ty xs lo h x) Post := by
  refine Runs.block ?_
  refine Runs.loopX (fun (p : Nat × (Nat → Int)) => r512.win.MI len at_ t p.1) (fun p => r512.win.memW ys ty xs lo h p.2) (fun p => p.1 ≤ 8 ∧ (∀ j, j ≠ t → p.2 j = x j) ∧ p.2 t = wordG ((xs.drop at_).drop (8 * t)) p.1) (fun p => 8 - p.1) ?_ (0, x) ⟨Nat.zero_le _, fun _ _ => rfl, hx0⟩ g
  rintro ⟨i, y⟩ g ⟨hi, hy, hyt⟩
  simp only at hi hy hyt
  by_cases hlt : i < 8
  · refine Runs.of_outX tys_ok mixed (r512.win.stepI ys ty len at_ lo xs h y t i (y t) (xs.getD (at_ + 8 * t + i) 0) (wordS (y t) (xs.getD (at_ + 8 * t + i) 0)) g)
      ⟨decide_eq_true (by omega), by omega, by omega, by rw [restL_length]; omega, restL_get8 y t (by omega), i64n (by omega) (by omega), i64n (by omega) (by omega), i64n (by omega) (by omega), by omega, by omega, by omega, by rw [Nat.zero_add], rfl, by omega, by omega, by rw [restL_length]; omega, i64n (by omega) (by omega), trivial⟩
      (r512.win.idsI ys ty _ _ _ _ _ _ _ _) rfl fun g' => ⟨(i + 1, putF (0 + t) [wordS (y t) (xs.getD (at_ + 8 * t + i) 0)] y), g', rfl, rfl, ⟨hlt, fun j hj => ?_, ?_⟩, by simp only; omega⟩
    · simp only
      rw [putF_one, if_neg (by omega)]
      exact hy j hj
    · simp only
      rw [putF_one, if_pos (by omega), hyt, wordG]
      congr 1
      simp only [List.getD, List.getElem?_drop]
      rw [show at_ + (8 * t + i) = at_ + 8 * t + i by omega]
  · obtain rfl : i = 8 := by omega
    refine Runs.of_outX tys_ok mixed (r512.win.endI ys ty len at_ lo xs h y t 8 g) ⟨by decide, trivial⟩ (r512.win.ids2 ys ty _ _ _ _ _ _ _) rfl fun g' => hp g' y hy ?_
    rw [hyt]
    exact wordG_take _ 8 (by simp only [List.length_drop]; omega)
theorem r512_win_loop2 (ys : List Int) (ty : TypeId) (len at_ lo : Nat) (xs : List Int) (h W x : Nat → Int) (hl : xs.length = len) (ha : at_ + 128 ≤ len) (hs : len ≤ 140737488358400) (hW : ∀ t, t < 16 → wordV (((xs.drop at_).drop (8 * t)).take 8) = W t) (hz : ∀ j, x j = 0)
    (hp : ∀ g x, (∀ j, j < 16 → x j = W j) → Post .normal (fill g 0 (r512.win.M7 len at_)) (r512.win.memW ys ty xs lo h x)) (g : Nat → SV) :
    RunsF Tryd.prog G2 1 (.block 2 (.loop r512.L2)) (fill g 0 (r512.win.M2 len at_ 0)) (r512.win.memW ys ty xs lo h x) Post := by
  refine Runs.block ?_
  refine Runs.loopX (fun (p : Nat × (Nat → Int)) => r512.win.M2 len at_ p.1) (fun p => r512.win.memW ys ty xs lo h p.2) (fun p => p.1 ≤ 16 ∧ (∀ j, j < p.1 → p.2 j = W j) ∧ ∀ j, p.1 ≤ j → p.2 j = 0) (fun p => 16 - p.1) ?_ (0, x) ⟨Nat.zero_le _, fun j hj => by simp only at hj; omega, fun j _ => hz j⟩ g
  rintro ⟨t, x⟩ g ⟨ht, hx, hr⟩
  simp only at ht hx hr
  by_cases hlt : t < 16
  · refine Runs.of_outXP tys_ok mixed 2 (r512.win.go2 ys ty len at_ lo xs h x t g) ⟨decide_eq_true (by omega), trivial⟩ (r512.win.ids2 ys ty _ _ _ _ _ _ _) rfl fun g1 => ?_
    rw [r512.L2_suf]
    refine Runs.seq (Runs.block ?_)
    refine Runs.of_outXP tys_ok mixed 2 (r512.win.i2 ys ty len at_ lo xs h x t g1) trivial (r512.win.idsI ys ty _ _ _ _ _ _ _ _) rfl fun g2 => ?_
    rw [r512.I2_suf]
    refine r512_win_inner ys ty len at_ lo xs h x t hlt hl ha hs (hr t (Nat.le_refl _)) (fun g3 y hy hyt => ?_) g2
    refine Runs.of_outX tys_ok mixed (r512.win.p16 ys ty len at_ lo xs h y t g3) ⟨i64n (by omega) (by omega), trivial⟩ (r512.win.ids2 ys ty _ _ _ _ _ _ _) rfl fun g4 => ⟨(t + 1, y), g4, rfl, rfl, ⟨hlt, fun j hj => ?_, fun j hj => ?_⟩, by simp only; omega⟩
    · simp only at hj ⊢
      by_cases e : j = t
      · rw [e, hyt]; exact hW t hlt
      · rw [hy j e]; exact hx j (by omega)
    · simp only at hj ⊢
      rw [hy j (by omega)]; exact hr j (by omega)
  · obtain rfl : t = 16 := by omega
    exact Runs.of_outX tys_ok mixed (r512.win.end2 ys ty len at_ lo xs h x 16 g) ⟨by decide, trivial⟩ (r512.win.ids7 ys ty _ _ _ _ _ _) rfl fun g' => hp g' x hx
theorem r512_win_loop3 (ys : List Int) (ty : TypeId) (len at_ lo : Nat) (xs : List Int) (h W x : Nat → Int) (hS : ∀ t, t < 64 → sched6 (W (t + 14)) (W (t + 1)) (W (t + 9)) (W t) = W (t + 16)) (hx0 : ∀ j, j < 16 → x j = W j)
    (hp : ∀ g x, (∀ j, j < 80 → x j = W j) → Post .normal (fill g 0 (r512.win.M7 len at_)) (r512.win.memW ys ty xs lo h x)) (g : Nat → SV) :
    RunsF Tryd.prog G2 1 (.block 6 (.loop r512.L3)) (fill g 0 (r512.win.M3 len at_ 16)) (r512.win.memW ys ty xs lo h x) Post := by
  refine Runs.block ?_
  refine Runs.loopX (fun (p : Nat × (Nat → Int)) => r512.win.M3 len at_ (p.1 + 16)) (fun p => r512.win.memW ys ty xs lo h p.2) (fun p => p.1 ≤ 64 ∧ ∀ j, j < p.1 + 16 → p.2 j = W j) (fun p => 64 - p.1) ?_ (0, x) ⟨Nat.zero_le _, fun j hj => hx0 j (by simpa using hj)⟩ g
  rintro ⟨t, x⟩ g ⟨ht, hx⟩
  simp only at ht hx
  by_cases hlt : t < 64
  · have w14 : IntKind.i64.wrap (((t + 16 : Nat) : Int) - 2) = ((t + 14 : Nat) : Int) := i64n (by omega) (by omega)
    have w1 : IntKind.i64.wrap (((t + 16 : Nat) : Int) - 15) = ((t + 1 : Nat) : Int) := i64n (by omega) (by omega)
    have w9 : IntKind.i64.wrap (((t + 16 : Nat) : Int) - 7) = ((t + 9 : Nat) : Int) := i64n (by omega) (by omega)
    have w0 : IntKind.i64.wrap (((t + 16 : Nat) : Int) - 16) = ((t : Nat) : Int) := i64n (by omega) (by omega)
    have ld : ∀ e : Nat, e < 80 → 0 ≤ (e : Int) ∧ (e : Int) < ((80 : Nat) : Int) ∧ 0 + e < (restL x 0 80).length := fun e he => ⟨by omega, by omega, by rw [restL_length]; omega⟩
    have r : ∀ e : Nat, e < t + 16 → (restL x 0 80).getD (0 + e) 0 = W e := fun e he => by rw [restL_get8 x e (by omega)]; exact hx e he
    have a1 := ld (t + 14) (by omega)
    have a2 := r (t + 14) (by omega)
    have b1 := ld (t + 1) (by omega)
    have b2 := r (t + 1) (by omega)
    have c1 := ld (t + 9) (by omega)
    have c2 := r (t + 9) (by omega)
    have d1 := ld t (by omega)
    have d2 := r t (by omega)
    refine Runs.of_outX tys_ok mixed (r512.win.step3 ys ty len at_ lo xs h x t (W (t + 14)) (W (t + 1)) (W (t + 9)) (W t) (W (t + 16)) g)
      ⟨decide_eq_true (by omega), w14, a1.1, a1.2.1, a1.2.2, a2, w14, a1.1, a1.2.1, a1.2.2, a2, w14, a1.1, a1.2.1, a1.2.2, a2, w1, b1.1, b1.2.1, b1.2.2, b2, w1, b1.1, b1.2.1, b1.2.2, b2, w1, b1.1, b1.2.1, b1.2.2, b2,
       w9, c1.1, c1.2.1, c1.2.2, c2, w0, d1.1, d1.2.1, d1.2.2, d2, hS t hlt, by omega, by omega, by rw [restL_length]; omega, i64n (by omega) (by omega), trivial⟩ (r512.win.ids3 ys ty _ _ _ _ _ _ _) rfl fun g' => ⟨(t + 1, putF (0 + (t + 16)) [W (t + 16)] x), g', rfl, rfl, ⟨hlt, fun j hj => ?_⟩, by simp only; omega⟩
    simp only at hj ⊢
    rw [putF_one]
    by_cases e : j = 0 + (t + 16)
    · rw [if_pos e, e, Nat.zero_add]
    · rw [if_neg e]; exact hx j (by omega)
  · obtain rfl : t = 64 := by omega
    exact Runs.of_outX tys_ok mixed (r512.win.end3 ys ty len at_ lo xs h x 80 g) ⟨by decide, trivial⟩ (r512.win.ids7 ys ty _ _ _ _ _ _) rfl fun g' => hp g' x hx
theorem r512_win_loop4 (ys : List Int) (ty : TypeId) (len at_ lo : Nat) (xs : List Int) (h W x : Nat → Int) (hx : ∀ j, j < 80 → x j = W j) (hp : ∀ g, Post .normal (fill g 0 (r512.win.M19 len at_)) (r512.win.memS ys ty xs lo h x (rounds6 h W 80))) (g : Nat → SV) :
    RunsF Tryd.prog G2 1 (.block 8 (.loop r512.L4)) (fill g 0 (r512.win.M4 len at_ 0)) (r512.win.memS ys ty xs lo h x h) Post := by
  refine Runs.block ?_
  refine Runs.loopX (fun (t : Nat) => r512.win.M4 len at_ t) (fun t => r512.win.memS ys ty xs lo h x (rounds6 h W t)) (fun t => t ≤ 80) (fun t => 80 - t) ?_ 0 (Nat.zero_le _) g
  intro t g ht
  by_cases hlt : t < 80
  · exact Runs.of_outX tys_ok mixed (r512.win.step4 ys ty len at_ lo xs h x (rounds6 h W t) t (k512L.getD t 0) (W t) g)
      ⟨decide_eq_true (by omega), by omega, by omega, by show 0 + t < 80; omega, by rw [Nat.zero_add], by omega, by omega, by rw [restL_length]; omega, by rw [restL_get8 x t hlt]; exact hx t hlt, i64n (by omega) (by omega), trivial⟩ (r512.win.ids4 ys ty _ _ _ _ _ _ _ _) rfl fun g' => ⟨t + 1, g', rfl, rfl, hlt, by omega⟩
  · obtain rfl : t = 80 := by omega
    exact Runs.of_outX tys_ok mixed (r512.win.end4 ys ty len at_ lo xs h x _ 80 g) ⟨by decide, trivial⟩ (r512.win.ids19 ys ty _ _ _ _ _ _ _) rfl hp
theorem r512_win_loop5 (ys : List Int) (ty : TypeId) (len at_ lo : Nat) (xs : List Int) (h x s : Nat → Int) (hp : ∀ g, Post .normal (fill g 0 (r512.win.MH len at_)) (r512.win.memH ys ty xs lo (fun i => addD (h i) (s i)))) (g : Nat → SV) :
    RunsF Tryd.prog G2 1 (.block 10 (.loop r512.L5)) (fill g 0 (r512.win.M5 len at_ 0)) (r512.win.memS ys ty xs lo (dblk.sumD h s 0) x s) Post := by
  refine Runs.block ?_
  refine Runs.loopX (fun (t : Nat) => r512.win.M5 len at_ t) (fun t => r512.win.memS ys ty xs lo (dblk.sumD h s t) x s) (fun t => t ≤ 8) (fun t => 8 - t) ?_ 0 (Nat.zero_le _) g
  intro t g ht
  by_cases hlt : t < 8
  · exact Runs.of_outX tys_ok mixed (tab_getH (r512.win.tab5 ys ty len at_ lo xs h x s g) t hlt) trivial (r512.win.ids5 ys ty _ _ _ _ _ _ _ _) rfl fun g' => ⟨t + 1, g', rfl, rfl, hlt, by omega⟩
  · obtain rfl : t = 8 := by omega
    exact Runs.of_outX tys_ok mixed (r512.win.end5 ys ty len at_ lo xs h x s g) trivial (r512.win.idsH ys ty _ _ _ _ _) rfl hp
theorem r512_win_block (ys : List Int) (ty : TypeId) (len at_ lo : Nat) (xs : List Int) (H : E8) (hl : xs.length = len) (ha : at_ + 128 ≤ len) (hs : len ≤ 140737488358400)
    (hp : ∀ g, Post .normal (fill g 0 (r512.win.MH len at_)) (r512.win.memH ys ty xs lo (blkD H (xs.drop at_)).at)) (g : Nat → SV) :
    RunsF Tryd.prog G2 1 (.block 1 (.seq r512.A7 (.seq (.seq r512.A8 (.block 2 (.loop r512.L2))) (.seq (.seq r512.A13 (.block 6 (.loop r512.L3))) (.seq r512.A19 (.seq (.seq r512.A20 (.block 8 (.loop r512.L4))) (.seq r512.A28 (.block 10 (.loop r512.L5))))))))) (fill g 0 (r512.win.MH len at_)) (r512.win.memH ys ty xs lo H.at) Post := by
  have hS := sch6_sched (xs.drop at_)
  refine Runs.block ?_
  refine Runs.seq (Runs.of_outX tys_ok mixed (r512.win.p7 ys ty len at_ lo xs H.at g) trivial (r512.win.ids7 ys ty _ _ _ _ _ _) rfl fun g => ?_)
  refine Runs.seq (Runs.seq (Runs.of_outX tys_ok mixed (r512.win.p8 ys ty len at_ lo xs H.at _ g) trivial (r512.win.ids2 ys ty _ _ _ _ _ _ _) rfl fun g => ?_))
  refine r512_win_loop2 ys ty len at_ lo xs H.at (sch6 (xs.drop at_)) _ hl ha hs hS.1 (fun _ => rfl) (fun g x hx => ?_) g
  refine Runs.seq (Runs.seq (Runs.of_outX tys_ok mixed (r512.win.p13 ys ty len at_ lo xs H.at _ g) trivial (r512.win.ids3 ys ty _ _ _ _ _ _ _) rfl fun g => ?_))
  refine r512_win_loop3 ys ty len at_ lo xs H.at _ x hS.2 hx (fun g x hx => ?_) g
  refine Runs.seq (Runs.of_outX tys_ok mixed (r512.win.p19 ys ty len at_ lo xs H.at _ g) trivial (r512.win.ids19 ys ty _ _ _ _ _ _ _) rfl fun g => ?_)
  refine Runs.seq (Runs.seq (Runs.of_outX tys_ok mixed (r512.win.p20 ys ty len at_ lo xs H.at _ _ g) trivial (r512.win.ids4 ys ty _ _ _ _ _ _ _ _) rfl fun g => ?_))
  refine r512_win_loop4 ys ty len at_ lo xs H.at _ x hx (fun g => ?_) g
  refine Runs.seq (Runs.of_outX tys_ok mixed (r512.win.p28 ys ty len at_ lo xs H.at _ _ g) trivial (r512.win.ids5 ys ty _ _ _ _ _ _ _ _) rfl fun g => ?_)
  refine r512_win_loop5 ys ty len at_ lo xs H.at x _ (fun g => ?_) g
  have e : r512.win.memH ys ty xs lo (blkD H (xs.drop at_)).at = r512.win.memH ys ty xs lo (fun i => addD (H.at i) (rounds6 H.at (sch6 (xs.drop at_)) 80 i)) := by
    have := (comp_row H (xs.drop at_)).trans (rowD_E _).symm
    unfold r512.win.memH
    rw [← this]
    rfl
  rw [← e]
  exact hp g
theorem r512_win_great (ys : List Int) (ty : TypeId) (nb lo : Nat) (xs : List Int) (hl : xs.length = 128 * nb) (hs : nb ≤ 1099511627800)
    (hp : ∀ g, Post .normal (fill g 0 (r512.win.MH (128 * nb) (128 * nb))) (r512.win.memH ys ty xs lo (blocksD initD xs nb).at)) (g : Nat → SV) :
    RunsF Tryd.prog G2 1 (.block 0 (.loop r512.LL)) (fill g 0 (r512.win.MH (128 * nb) (128 * 0))) (r512.win.memH ys ty xs lo (blocksD initD xs 0).at) Post := by
  refine Runs.block ?_
  refine Runs.loopX (fun (i : Nat) => r512.win.MH (128 * nb) (128 * i)) (fun i => r512.win.memH ys ty xs lo (blocksD initD xs i).at) (fun i => i ≤ nb) (fun i => nb - i) ?_ 0 (Nat.zero_le _) g
  intro i g hi
  rw [r512.LL_eq]
  by_cases hlt : i < nb
  · refine Runs.seq (Runs.of_outX tys_ok mixed (r512.win.go ys ty (128 * nb) (128 * i) lo xs _ g) ⟨decide_eq_true (by omega), trivial⟩ (r512.win.idsH ys ty _ _ _ _ _) rfl fun g => ?_)
    refine Runs.seq (r512_win_block ys ty (128 * nb) (128 * i) lo xs _ hl (by omega) (by omega) (fun g => ?_) g)
    exact Runs.of_outX tys_ok mixed (r512.win.p6 ys ty (128 * nb) (128 * i) lo xs _ g) ⟨i64n (by omega) (by omega), trivial⟩ (r512.win.idsH ys ty _ _ _ _ _) rfl fun g' => ⟨i + 1, g', rfl, rfl, hlt, by omega⟩
  · obtain rfl : i = nb := by omega
    exact Runs.seq (Runs.of_outX tys_ok mixed (r512.win.stop ys ty (128 * i) (128 * i) lo xs _ g) ⟨decide_eq_false (by omega), trivial⟩ (r512.win.idsH ys ty _ _ _ _ _) rfl fun g => hp g)
theorem r512_win_run (ys : List Int) (n c : Nat) (ty : TypeId) (hy : ys.length = n) (hc : n ≤ c) (hn : n ≤ 140737488354000) : RunsF Tryd.prog G2 1 r512.body (startT r512.fn [.o (.a (.sld 0 0 0 n c))]) [⟨false, ty, .pre .u8 ys⟩] (EndsM tys r512.fn (endsQ (cB64.enc (s512V ys)) .none)) := by
  have hL := padR_length ys 128 16
  have hy0 : (ys : List Int).length ≤ 140737488354000 := by first | (rw [hy]; exact hn) | exact Nat.zero_le _
  have hz : padZ (ys : List Int).length 128 16 < 128 := Nat.mod_lt _ (by decide)
  have hm : ((ys : List Int).length + 1 + padZ (ys : List Int).length 128 16 + 16) % 128 = 0 := by unfold padZ; omega
  have e : (ys.drop 0).take n = ys := by rw [List.drop_zero, List.take_of_length_le (by omega)]
  rw [r512.body_eq]
  refine Runs.seq (Runs.of_outX tys_ok mixed (r512.win.a0 ys ty n c) trivial (r512.win.idsN0 ys ty n c) rfl fun g => ?_)
  refine Runs.seq (Runs.of_outX tys_ok mixed (r512.win.a1 ys ty n c g) trivial (r512.win.idsN1 ys ty n c) rfl fun g => ?_)
  refine Runs.seq (Runs.of_outX tys_ok mixed (r512.win.a2 ys ty n c g) trivial (r512.win.idsN2 ys ty n c) rfl fun g => ?_)
  refine Runs.seq (Runs.of_outX tys_ok mixed (r512.win.a3 ys ty n c g) ⟨by omega, hc, hn, trivial⟩ (r512.win.idsN3 ys ty n c _ _ _) rfl fun g => ?_)
  show RunsF _ _ _ _ (fill g 0 (r512.win.N3 (padR ((ys.drop 0).take n) 128 16).length)) (r512.win.memH ys ty (padR ((ys.drop 0).take n) 128 16) (padR ((ys.drop 0).take n) 128 16).length initD.at) _
  rw [e]
  refine Runs.seq (Runs.seq (Runs.of_outX tys_ok mixed (r512.win.a4 ys ty _ _ _ g) trivial (r512.win.idsH ys ty _ _ _ _ _) rfl fun g => ?_))
  have hnb : (padR ys 128 16).length = 128 * ((padR ys 128 16).length / 128) := by omega
  have hg := r512_win_great (Post := fun e t m => match e with | .normal => RunsF Tryd.prog G2 1 r512.DD t m (EndsM tys r512.fn (endsQ (cB64.enc (s512V ys)) .none)) | .exit i => EndsM tys r512.fn (endsQ (cB64.enc (s512V ys)) .none) (.exit i) t m | .ret => EndsM tys r512.fn (endsQ (cB64.enc (s512V ys)) .none) .ret t m) ys ty ((padR ys 128 16).length / 128) (padR ys 128 16).length (padR ys 128 16) hnb (by omega) (fun g => Runs.of_exec tys_ok mixed (r512.win.d ys ty _ _ _ _ _ g) trivial (EndsM.ret (r512.win.res ys ty _ _ _ _ _ g) rfl)) g
  rw [← hnb] at hg
  exact hg
theorem r512_none_inner (len at_ lo : Nat) (xs : List Int) (h x : Nat → Int) (t : Nat) (ht : t < 16) (hl : xs.length = len) (ha : at_ + 128 ≤ len) (hs : len ≤ 140737488358400) (hx0 : x t = 0)
    (hp : ∀ g y, (∀ j, j ≠ t → y j = x j) → y t = wordV (((xs.drop at_).drop (8 * t)).take 8) → Post .normal (fill g 0 (r512.none.M2 len at_ t)) (r512.none.memW xs lo h y)) (g : Nat → SV) :
    RunsF Tryd.prog G2 0 (.block 4 (.loop r512.LI)) (fill g 0 (r512.none.MI len at_ t 0)) (r512.none.memW xs lo h x) Post := by
  refine Runs.block ?_
  refine Runs.loopX (fun (p : Nat × (Nat → Int)) => r512.none.MI len at_ t p.1) (fun p => r512.none.memW xs lo h p.2) (fun p => p.1 ≤ 8 ∧ (∀ j, j ≠ t → p.2 j = x j) ∧ p.2 t = wordG ((xs.drop at_).drop (8 * t)) p.1) (fun p => 8 - p.1) ?_ (0, x) ⟨Nat.zero_le _, fun _ _ => rfl, hx0⟩ g
  rintro ⟨i, y⟩ g ⟨hi, hy, hyt⟩
  simp only at hi hy hyt
  by_cases hlt : i < 8
  · refine Runs.of_outX tys_ok mixed (r512.none.stepI len at_ lo xs h y t i (y t) (xs.getD (at_ + 8 * t + i) 0) (wordS (y t) (xs.getD (at_ + 8 * t + i) 0)) g)
      ⟨decide_eq_true (by omega), by omega, by omega, by rw [restL_length]; omega, restL_get8 y t (by omega), i64n (by omega) (by omega), i64n (by omega) (by omega), i64n (by omega) (by omega), by omega, by omega, by omega, by rw [Nat.zero_add], rfl, by omega, by omega, by rw [restL_length]; omega, i64n (by omega) (by omega), trivial⟩
      (r512.none.idsI _ _ _ _ _ _ _ _) rfl fun g' => ⟨(i + 1, putF (0 + t) [wordS (y t) (xs.getD (at_ + 8 * t + i) 0)] y), g', rfl, rfl, ⟨hlt, fun j hj => ?_, ?_⟩, by simp only; omega⟩
    · simp only
      rw [putF_one, if_neg (by omega)]
      exact hy j hj
    · simp only
      rw [putF_one, if_pos (by omega), hyt, wordG]
      congr 1
      simp only [List.getD, List.getElem?_drop]
      rw [show at_ + (8 * t + i) = at_ + 8 * t + i by omega]
  · obtain rfl : i = 8 := by omega
    refine Runs.of_outX tys_ok mixed (r512.none.endI len at_ lo xs h y t 8 g) ⟨by decide, trivial⟩ (r512.none.ids2 _ _ _ _ _ _ _) rfl fun g' => hp g' y hy ?_
    rw [hyt]
    exact wordG_take _ 8 (by simp only [List.length_drop]; omega)
theorem r512_none_loop2 (len at_ lo : Nat) (xs : List Int) (h W x : Nat → Int) (hl : xs.length = len) (ha : at_ + 128 ≤ len) (hs : len ≤ 140737488358400) (hW : ∀ t, t < 16 → wordV (((xs.drop at_).drop (8 * t)).take 8) = W t) (hz : ∀ j, x j = 0)
    (hp : ∀ g x, (∀ j, j < 16 → x j = W j) → Post .normal (fill g 0 (r512.none.M7 len at_)) (r512.none.memW xs lo h x)) (g : Nat → SV) :
    RunsF Tryd.prog G2 0 (.block 2 (.loop r512.L2)) (fill g 0 (r512.none.M2 len at_ 0)) (r512.none.memW xs lo h x) Post := by
  refine Runs.block ?_
  refine Runs.loopX (fun (p : Nat × (Nat → Int)) => r512.none.M2 len at_ p.1) (fun p => r512.none.memW xs lo h p.2) (fun p => p.1 ≤ 16 ∧ (∀ j, j < p.1 → p.2 j = W j) ∧ ∀ j, p.1 ≤ j → p.2 j = 0) (fun p => 16 - p.1) ?_ (0, x) ⟨Nat.zero_le _, fun j hj => by simp only at hj; omega, fun j _ => hz j⟩ g
  rintro ⟨t, x⟩ g ⟨ht, hx, hr⟩
  simp only at ht hx hr
  by_cases hlt : t < 16
  · refine Runs.of_outXP tys_ok mixed 2 (r512.none.go2 len at_ lo xs h x t g) ⟨decide_eq_true (by omega), trivial⟩ (r512.none.ids2 _ _ _ _ _ _ _) rfl fun g1 => ?_
    rw [r512.L2_suf]
    refine Runs.seq (Runs.block ?_)
    refine Runs.of_outXP tys_ok mixed 2 (r512.none.i2 len at_ lo xs h x t g1) trivial (r512.none.idsI _ _ _ _ _ _ _ _) rfl fun g2 => ?_
    rw [r512.I2_suf]
    refine r512_none_inner len at_ lo xs h x t hlt hl ha hs (hr t (Nat.le_refl _)) (fun g3 y hy hyt => ?_) g2
    refine Runs.of_outX tys_ok mixed (r512.none.p16 len at_ lo xs h y t g3) ⟨i64n (by omega) (by omega), trivial⟩ (r512.none.ids2 _ _ _ _ _ _ _) rfl fun g4 => ⟨(t + 1, y), g4, rfl, rfl, ⟨hlt, fun j hj => ?_, fun j hj => ?_⟩, by simp only; omega⟩
    · simp only at hj ⊢
      by_cases e : j = t
      · rw [e, hyt]; exact hW t hlt
      · rw [hy j e]; exact hx j (by omega)
    · simp only at hj ⊢
      rw [hy j (by omega)]; exact hr j (by omega)
  · obtain rfl : t = 16 := by omega
    exact Runs.of_outX tys_ok mixed (r512.none.end2 len at_ lo xs h x 16 g) ⟨by decide, trivial⟩ (r512.none.ids7 _ _ _ _ _ _) rfl fun g' => hp g' x hx
theorem r512_none_loop3 (len at_ lo : Nat) (xs : List Int) (h W x : Nat → Int) (hS : ∀ t, t < 64 → sched6 (W (t + 14)) (W (t + 1)) (W (t + 9)) (W t) = W (t + 16)) (hx0 : ∀ j, j < 16 → x j = W j)
    (hp : ∀ g x, (∀ j, j < 80 → x j = W j) → Post .normal (fill g 0 (r512.none.M7 len at_)) (r512.none.memW xs lo h x)) (g : Nat → SV) :
    RunsF Tryd.prog G2 0 (.block 6 (.loop r512.L3)) (fill g 0 (r512.none.M3 len at_ 16)) (r512.none.memW xs lo h x) Post := by
  refine Runs.block ?_
  refine Runs.loopX (fun (p : Nat × (Nat → Int)) => r512.none.M3 len at_ (p.1 + 16)) (fun p => r512.none.memW xs lo h p.2) (fun p => p.1 ≤ 64 ∧ ∀ j, j < p.1 + 16 → p.2 j = W j) (fun p => 64 - p.1) ?_ (0, x) ⟨Nat.zero_le _, fun j hj => hx0 j (by simpa using hj)⟩ g
  rintro ⟨t, x⟩ g ⟨ht, hx⟩
  simp only at ht hx
  by_cases hlt : t < 64
  · have w14 : IntKind.i64.wrap (((t + 16 : Nat) : Int) - 2) = ((t + 14 : Nat) : Int) := i64n (by omega) (by omega)
    have w1 : IntKind.i64.wrap (((t + 16 : Nat) : Int) - 15) = ((t + 1 : Nat) : Int) := i64n (by omega) (by omega)
    have w9 : IntKind.i64.wrap (((t + 16 : Nat) : Int) - 7) = ((t + 9 : Nat) : Int) := i64n (by omega) (by omega)
    have w0 : IntKind.i64.wrap (((t + 16 : Nat) : Int) - 16) = ((t : Nat) : Int) := i64n (by omega) (by omega)
    have ld : ∀ e : Nat, e < 80 → 0 ≤ (e : Int) ∧ (e : Int) < ((80 : Nat) : Int) ∧ 0 + e < (restL x 0 80).length := fun e he => ⟨by omega, by omega, by rw [restL_length]; omega⟩
    have r : ∀ e : Nat, e < t + 16 → (restL x 0 80).getD (0 + e) 0 = W e := fun e he => by rw [restL_get8 x e (by omega)]; exact hx e he
    have a1 := ld (t + 14) (by omega)
    have a2 := r (t + 14) (by omega)
    have b1 := ld (t + 1) (by omega)
    have b2 := r (t + 1) (by omega)
    have c1 := ld (t + 9) (by omega)
    have c2 := r (t + 9) (by omega)
    have d1 := ld t (by omega)
    have d2 := r t (by omega)
    refine Runs.of_outX tys_ok mixed (r512.none.step3 len at_ lo xs h x t (W (t + 14)) (W (t + 1)) (W (t + 9)) (W t) (W (t + 16)) g)
      ⟨decide_eq_true (by omega), w14, a1.1, a1.2.1, a1.2.2, a2, w14, a1.1, a1.2.1, a1.2.2, a2, w14, a1.1, a1.2.1, a1.2.2, a2, w1, b1.1, b1.2.1, b1.2.2, b2, w1, b1.1, b1.2.1, b1.2.2, b2, w1, b1.1, b1.2.1, b1.2.2, b2,
       w9, c1.1, c1.2.1, c1.2.2, c2, w0, d1.1, d1.2.1, d1.2.2, d2, hS t hlt, by omega, by omega, by rw [restL_length]; omega, i64n (by omega) (by omega), trivial⟩ (r512.none.ids3 _ _ _ _ _ _ _) rfl fun g' => ⟨(t + 1, putF (0 + (t + 16)) [W (t + 16)] x), g', rfl, rfl, ⟨hlt, fun j hj => ?_⟩, by simp only; omega⟩
    simp only at hj ⊢
    rw [putF_one]
    by_cases e : j = 0 + (t + 16)
    · rw [if_pos e, e, Nat.zero_add]
    · rw [if_neg e]; exact hx j (by omega)
  · obtain rfl : t = 64 := by omega
    exact Runs.of_outX tys_ok mixed (r512.none.end3 len at_ lo xs h x 80 g) ⟨by decide, trivial⟩ (r512.none.ids7 _ _ _ _ _ _) rfl fun g' => hp g' x hx
theorem r512_none_loop4 (len at_ lo : Nat) (xs : List Int) (h W x : Nat → Int) (hx : ∀ j, j < 80 → x j = W j) (hp : ∀ g, Post .normal (fill g 0 (r512.none.M19 len at_)) (r512.none.memS xs lo h x (rounds6 h W 80))) (g : Nat → SV) :
    RunsF Tryd.prog G2 0 (.block 8 (.loop r512.L4)) (fill g 0 (r512.none.M4 len at_ 0)) (r512.none.memS xs lo h x h) Post := by
  refine Runs.block ?_
  refine Runs.loopX (fun (t : Nat) => r512.none.M4 len at_ t) (fun t => r512.none.memS xs lo h x (rounds6 h W t)) (fun t => t ≤ 80) (fun t => 80 - t) ?_ 0 (Nat.zero_le _) g
  intro t g ht
  by_cases hlt : t < 80
  · exact Runs.of_outX tys_ok mixed (r512.none.step4 len at_ lo xs h x (rounds6 h W t) t (k512L.getD t 0) (W t) g)
      ⟨decide_eq_true (by omega), by omega, by omega, by show 0 + t < 80; omega, by rw [Nat.zero_add], by omega, by omega, by rw [restL_length]; omega, by rw [restL_get8 x t hlt]; exact hx t hlt, i64n (by omega) (by omega), trivial⟩ (r512.none.ids4 _ _ _ _ _ _ _ _) rfl fun g' => ⟨t + 1, g', rfl, rfl, hlt, by omega⟩
  · obtain rfl : t = 80 := by omega
    exact Runs.of_outX tys_ok mixed (r512.none.end4 len at_ lo xs h x _ 80 g) ⟨by decide, trivial⟩ (r512.none.ids19 _ _ _ _ _ _ _) rfl hp
theorem r512_none_loop5 (len at_ lo : Nat) (xs : List Int) (h x s : Nat → Int) (hp : ∀ g, Post .normal (fill g 0 (r512.none.MH len at_)) (r512.none.memH xs lo (fun i => addD (h i) (s i)))) (g : Nat → SV) :
    RunsF Tryd.prog G2 0 (.block 10 (.loop r512.L5)) (fill g 0 (r512.none.M5 len at_ 0)) (r512.none.memS xs lo (dblk.sumD h s 0) x s) Post := by
  refine Runs.block ?_
  refine Runs.loopX (fun (t : Nat) => r512.none.M5 len at_ t) (fun t => r512.none.memS xs lo (dblk.sumD h s t) x s) (fun t => t ≤ 8) (fun t => 8 - t) ?_ 0 (Nat.zero_le _) g
  intro t g ht
  by_cases hlt : t < 8
  · exact Runs.of_outX tys_ok mixed (tab_getH (r512.none.tab5 len at_ lo xs h x s g) t hlt) trivial (r512.none.ids5 _ _ _ _ _ _ _ _) rfl fun g' => ⟨t + 1, g', rfl, rfl, hlt, by omega⟩
  · obtain rfl : t = 8 := by omega
    exact Runs.of_outX tys_ok mixed (r512.none.end5 len at_ lo xs h x s g) trivial (r512.none.idsH _ _ _ _ _) rfl hp
theorem r512_none_block (len at_ lo : Nat) (xs : List Int) (H : E8) (hl : xs.length = len) (ha : at_ + 128 ≤ len) (hs : len ≤ 140737488358400)
    (hp : ∀ g, Post .normal (fill g 0 (r512.none.MH len at_)) (r512.none.memH xs lo (blkD H (xs.drop at_)).at)) (g : Nat → SV) :
    RunsF Tryd.prog G2 0 (.block 1 (.seq r512.A7 (.seq (.seq r512.A8 (.block 2 (.loop r512.L2))) (.seq (.seq r512.A13 (.block 6 (.loop r512.L3))) (.seq r512.A19 (.seq (.seq r512.A20 (.block 8 (.loop r512.L4))) (.seq r512.A28 (.block 10 (.loop r512.L5))))))))) (fill g 0 (r512.none.MH len at_)) (r512.none.memH xs lo H.at) Post := by
  have hS := sch6_sched (xs.drop at_)
  refine Runs.block ?_
  refine Runs.seq (Runs.of_outX tys_ok mixed (r512.none.p7 len at_ lo xs H.at g) trivial (r512.none.ids7 _ _ _ _ _ _) rfl fun g => ?_)
  refine Runs.seq (Runs.seq (Runs.of_outX tys_ok mixed (r512.none.p8 len at_ lo xs H.at _ g) trivial (r512.none.ids2 _ _ _ _ _ _ _) rfl fun g => ?_))
  refine r512_none_loop2 len at_ lo xs H.at (sch6 (xs.drop at_)) _ hl ha hs hS.1 (fun _ => rfl) (fun g x hx => ?_) g
  refine Runs.seq (Runs.seq (Runs.of_outX tys_ok mixed (r512.none.p13 len at_ lo xs H.at _ g) trivial (r512.none.ids3 _ _ _ _ _ _ _) rfl fun g => ?_))
  refine r512_none_loop3 len at_ lo xs H.at _ x hS.2 hx (fun g x hx => ?_) g
  refine Runs.seq (Runs.of_outX tys_ok mixed (r512.none.p19 len at_ lo xs H.at _ g) trivial (r512.none.ids19 _ _ _ _ _ _ _) rfl fun g => ?_)
  refine Runs.seq (Runs.seq (Runs.of_outX tys_ok mixed (r512.none.p20 len at_ lo xs H.at _ _ g) trivial (r512.none.ids4 _ _ _ _ _ _ _ _) rfl fun g => ?_))
  refine r512_none_loop4 len at_ lo xs H.at _ x hx (fun g => ?_) g
  refine Runs.seq (Runs.of_outX tys_ok mixed (r512.none.p28 len at_ lo xs H.at _ _ g) trivial (r512.none.ids5 _ _ _ _ _ _ _ _) rfl fun g => ?_)
  refine r512_none_loop5 len at_ lo xs H.at x _ (fun g => ?_) g
  have e : r512.none.memH xs lo (blkD H (xs.drop at_)).at = r512.none.memH xs lo (fun i => addD (H.at i) (rounds6 H.at (sch6 (xs.drop at_)) 80 i)) := by
    have := (comp_row H (xs.drop at_)).trans (rowD_E _).symm
    unfold r512.none.memH
    rw [← this]
    rfl
  rw [← e]
  exact hp g
theorem r512_none_great (nb lo : Nat) (xs : List Int) (hl : xs.length = 128 * nb) (hs : nb ≤ 1099511627800)
    (hp : ∀ g, Post .normal (fill g 0 (r512.none.MH (128 * nb) (128 * nb))) (r512.none.memH xs lo (blocksD initD xs nb).at)) (g : Nat → SV) :
    RunsF Tryd.prog G2 0 (.block 0 (.loop r512.LL)) (fill g 0 (r512.none.MH (128 * nb) (128 * 0))) (r512.none.memH xs lo (blocksD initD xs 0).at) Post := by
  refine Runs.block ?_
  refine Runs.loopX (fun (i : Nat) => r512.none.MH (128 * nb) (128 * i)) (fun i => r512.none.memH xs lo (blocksD initD xs i).at) (fun i => i ≤ nb) (fun i => nb - i) ?_ 0 (Nat.zero_le _) g
  intro i g hi
  rw [r512.LL_eq]
  by_cases hlt : i < nb
  · refine Runs.seq (Runs.of_outX tys_ok mixed (r512.none.go (128 * nb) (128 * i) lo xs _ g) ⟨decide_eq_true (by omega), trivial⟩ (r512.none.idsH _ _ _ _ _) rfl fun g => ?_)
    refine Runs.seq (r512_none_block (128 * nb) (128 * i) lo xs _ hl (by omega) (by omega) (fun g => ?_) g)
    exact Runs.of_outX tys_ok mixed (r512.none.p6 (128 * nb) (128 * i) lo xs _ g) ⟨i64n (by omega) (by omega), trivial⟩ (r512.none.idsH _ _ _ _ _) rfl fun g' => ⟨i + 1, g', rfl, rfl, hlt, by omega⟩
  · obtain rfl : i = nb := by omega
    exact Runs.seq (Runs.of_outX tys_ok mixed (r512.none.stop (128 * i) (128 * i) lo xs _ g) ⟨decide_eq_false (by omega), trivial⟩ (r512.none.idsH _ _ _ _ _) rfl fun g => hp g)
theorem r512_none_run (a : Option Addr) : RunsF Tryd.prog G2 0 r512.body (startT r512.fn [.o (.a (.v (.slice a 0 0)))]) [] (EndsM tys r512.fn (endsQ (cB64.enc (s512V [])) .none)) := by
  have hL := padR_length [] 128 16
  have hy0 : ([] : List Int).length ≤ 140737488354000 := by first | (rw [hy]; exact hn) | exact Nat.zero_le _
  have hz : padZ ([] : List Int).length 128 16 < 128 := Nat.mod_lt _ (by decide)
  have hm : (([] : List Int).length + 1 + padZ ([] : List Int).length 128 16 + 16) % 128 = 0 := by unfold padZ; omega
  rw [r512.body_eq]
  refine Runs.seq (Runs.of_outX tys_ok mixed (r512.none.a0 a) trivial (r512.none.idsN0 a) rfl fun g => ?_)
  refine Runs.seq (Runs.of_outX tys_ok mixed (r512.none.a1 a g) trivial (r512.none.idsN1 a) rfl fun g => ?_)
  refine Runs.seq (Runs.of_outX tys_ok mixed (r512.none.a2 a g) trivial (r512.none.idsN2 a) rfl fun g => ?_)
  refine Runs.seq (Runs.of_outX tys_ok mixed (r512.none.a3 a g) trivial (r512.none.idsN3 a _ _ _) rfl fun g => ?_)
  refine Runs.seq (Runs.seq (Runs.of_outX tys_ok mixed (r512.none.a4 _ _ _ g) trivial (r512.none.idsH _ _ _ _ _) rfl fun g => ?_))
  have hnb : (padR [] 128 16).length = 128 * ((padR [] 128 16).length / 128) := by omega
  have hg := r512_none_great (Post := fun e t m => match e with | .normal => RunsF Tryd.prog G2 0 r512.DD t m (EndsM tys r512.fn (endsQ (cB64.enc (s512V [])) .none)) | .exit i => EndsM tys r512.fn (endsQ (cB64.enc (s512V [])) .none) (.exit i) t m | .ret => EndsM tys r512.fn (endsQ (cB64.enc (s512V [])) .none) .ret t m) ((padR [] 128 16).length / 128) (padR [] 128 16).length (padR [] 128 16) hnb (by omega) (fun g => Runs.of_exec tys_ok mixed (r512.none.d _ _ _ _ _ g) trivial (EndsM.ret (r512.none.res _ _ _ _ _ g) rfl)) g
  rw [← hnb] at hg
  exact hg
end
def r512_spec : List PArg → Option (SV × LEff × Cst)
  | [.win .u8 ys n ty] => some (cB64.enc (s512V ys), .none, [n ≤ 140737488354000])
  | [.val (.o (.a (.v (.slice _ 0 0))))] => some (cB64.enc (s512V []), .none, [])
  | _ => none
noncomputable def r512_con : Con Tryd.prog G2 := Con.parts tys_ok 57 r512.fn Tryd.func57 (by kernel_rfl) (c := r512.body) (by kernel_rfl) [.win .u8] r512_spec
  (fun ps r e p h hp => by
    unfold r512_spec at h
    split at h <;> cases h
    · exact ⟨cB64.ids _, fun b hb => by simp only [locBlks, PArg.blk, List.append_nil, List.mem_singleton] at hb; rw [hb]⟩
    · exact ⟨cB64.ids _, fun b hb => by cases hb⟩)
  (fun ps r e p cap h hp hi => by
    unfold r512_spec at h
    split at h <;> cases h
    · exact r512_win_run _ _ _ _ hi.1.1 hi.1.2 hp.1
    · exact r512_none_run _)
end Go.Proofs.YtbfndladaldajaaDoor

/- The law of pieces: walked; its content. -/
import Derived.Test.YtpmdelihcdaffaaDoorShaEq
import Derived.Test.YtpmdelihcdaffaaDoorLCop
import Derived.Test.YtpmdelihcdaffaaDoorCCop
import Derived.Test.YtpmdelihcdaffaaDoorEngZ
namespace Go.Proofs.YtpmdelihcdaffaaDoor
open Go Go.Eng Go.RowKit
set_option linter.unusedVariables false
set_option linter.unusedSimpArgs false
set_option maxRecDepth 100000

namespace lpie
noncomputable abbrev fn := Tryd.f3
noncomputable def body : Code := bodyOf fn
noncomputable def T4 : Code := csuf 4 body
noncomputable def A5 : Code := cs1 (cs1 T4)
noncomputable def L : Code := cL (cB (cs2 (cs1 T4)))
noncomputable def D : Code := cs2 T4
theorem T4_eq : csuf 4 body = .seq (.seq A5 (.block 0 (.loop L))) D := by kernel_rfl
noncomputable def B1 : Code := cB (cs1 (csuf 2 L))
noncomputable def R8 : Code := cs1 (csuf 1 B1)
noncomputable def R9 : Code := cs1 (csuf 2 B1)
noncomputable def T10 : Code := csuf 3 B1
noncomputable def R12 : Code := cs2 (csuf 2 L)
noncomputable def i8 : Nat := match R8 with | .region i _ _ => i | _ => 0
noncomputable def i9 : Nat := match R9 with | .region i _ _ => i | _ => 0
theorem L_eq : csuf 2 L = .seq (.block 1 B1) R12 := by kernel_rfl
theorem B1_eq : csuf 1 B1 = .seq (.region i8 (opsOf R8) false) (.seq (.region i9 (opsOf R9) false) T10) := by kernel_rfl
theorem nil8 : ((opsOf R8).toList.drop 5).drop 1 = [] := by kernel_rfl
theorem nil9 : ((opsOf R9).toList.drop 5).drop 2 = [] := by kernel_rfl
variable (W : World) (h2 : ∀ g cs, Gs g = some cs → heapGlob W g = some cs)
noncomputable def Γ : Cons Tryd.prog (heapGlob W) := [awake_con.lift h2, new_con.lift h2, wr_con.lift h2, s256_con.lift h2, sum_con.lift h2, len_con.lift h2, r256_con.lift h2]
def mem_n (H : Hs) : List Blk := [⟨true, 51, hsRow H⟩]
def mem_g (H : Hs) (xs : List Int) (lo : Nat) (hi : Option Nat) : List Blk := [⟨true, 51, hsRow H⟩, ⟨true, 5, .gro .u8 xs lo hi⟩]
def M0 (a : SV) : List (Option SV) := maskL 52 0 [(0, a), (3, .o (.a (.ptr 0 0))), (4, .o (.a (.v (.slice none 0 0))))]
def M_n (gb ob n c : Nat) (t : Nat) : List (Option SV) := maskL 52 0 [(0, .o (.a (.v (.slice (some ⟨gb, ob, none⟩) n c)))), (3, .o (.a (.ptr 0 0))), (4, .o (.a (.v (.slice none 0 0)))), (10, (cInt .i64).enc ((n : Nat) : Int)), (11, (cInt .i64).enc ((t : Nat) : Int))]
def N_n (gb ob n c : Nat) (t : Nat) : List (Option SV) := maskL 52 0 [(0, .o (.a (.v (.slice (some ⟨gb, ob, none⟩) n c)))), (3, .o (.a (.ptr 0 0))), (4, .o (.a (.v (.slice none 0 0)))), (5, (cInt .i64).enc ((t : Nat) : Int)), (10, (cInt .i64).enc ((n : Nat) : Int)), (11, (cInt .i64).enc ((t : Nat) : Int))]
def P_n (gb ob n c : Nat) (t : Nat) (v : SV) : List (Option SV) := maskL 52 0 [(0, .o (.a (.v (.slice (some ⟨gb, ob, none⟩) n c)))), (3, .o (.a (.ptr 0 0))), (4, .o (.a (.v (.slice none 0 0)))), (5, (cInt .i64).enc ((t : Nat) : Int)), (10, (cInt .i64).enc ((n : Nat) : Int)), (11, (cInt .i64).enc ((t : Nat) : Int)), (14, .o (.a (.ptr 0 0))), (18, v)]
def Q_n (gb ob n c : Nat) (t : Nat) (v : SV) : List (Option SV) := maskL 52 0 [(0, .o (.a (.v (.slice (some ⟨gb, ob, none⟩) n c)))), (3, .o (.a (.ptr 0 0))), (4, .o (.a (.v (.slice none 0 0)))), (5, (cInt .i64).enc ((t : Nat) : Int)), (10, (cInt .i64).enc ((n : Nat) : Int)), (11, (cInt .i64).enc ((t : Nat) : Int)), (20, .o (.a (.v (.slice none 0 0)))), (24, v)]
def Z_n : List (Option SV) := maskL 52 0 [(3, .o (.a (.ptr 0 0))), (4, .o (.a (.v (.slice none 0 0))))]
def M_g (gb ob n c : Nat) (t : Nat) (len : Nat) : List (Option SV) := maskL 52 0 [(0, .o (.a (.v (.slice (some ⟨gb, ob, none⟩) n c)))), (3, .o (.a (.ptr 0 0))), (4, .o (.a (.slg 1 len))), (10, (cInt .i64).enc ((n : Nat) : Int)), (11, (cInt .i64).enc ((t : Nat) : Int))]
def N_g (gb ob n c : Nat) (t : Nat) (len : Nat) : List (Option SV) := maskL 52 0 [(0, .o (.a (.v (.slice (some ⟨gb, ob, none⟩) n c)))), (3, .o (.a (.ptr 0 0))), (4, .o (.a (.slg 1 len))), (5, (cInt .i64).enc ((t : Nat) : Int)), (10, (cInt .i64).enc ((n : Nat) : Int)), (11, (cInt .i64).enc ((t : Nat) : Int))]
def P_g (gb ob n c : Nat) (t : Nat) (len : Nat) (v : SV) : List (Option SV) := maskL 52 0 [(0, .o (.a (.v (.slice (some ⟨gb, ob, none⟩) n c)))), (3, .o (.a (.ptr 0 0))), (4, .o (.a (.slg 1 len))), (5, (cInt .i64).enc ((t : Nat) : Int)), (10, (cInt .i64).enc ((n : Nat) : Int)), (11, (cInt .i64).enc ((t : Nat) : Int)), (14, .o (.a (.ptr 0 0))), (18, v)]
def Q_g (gb ob n c : Nat) (t : Nat) (len : Nat) (v : SV) : List (Option SV) := maskL 52 0 [(0, .o (.a (.v (.slice (some ⟨gb, ob, none⟩) n c)))), (3, .o (.a (.ptr 0 0))), (4, .o (.a (.slg 1 len))), (5, (cInt .i64).enc ((t : Nat) : Int)), (10, (cInt .i64).enc ((n : Nat) : Int)), (11, (cInt .i64).enc ((t : Nat) : Int)), (20, .o (.a (.slg 1 len))), (24, v)]
def Z_g (len : Nat) : List (Option SV) := maskL 52 0 [(3, .o (.a (.ptr 0 0))), (4, .o (.a (.slg 1 len)))]
theorem ids0 (a : Option Addr) (n c : Nat) (H : Hs) : idsIn (mem_n H).length (M0 (.o (.a (.v (.slice a n c))))) (mem_n H) = true := by kernel_rfl
theorem idsM_n (gb ob n c : Nat) (t : Nat) (H : Hs) : idsIn (mem_n H).length (M_n gb ob n c t ) (mem_n H) = true := by kernel_rfl
theorem idsN_n (gb ob n c : Nat) (t : Nat) (H : Hs) : idsIn (mem_n H).length (N_n gb ob n c t ) (mem_n H) = true := by kernel_rfl
theorem idsP_n (gb ob n c : Nat) (t : Nat) (H : Hs) (p : Option Addr) (k d : Nat) : idsIn (mem_n H).length (P_n gb ob n c t (.o (.a (.v (.slice p k d))))) (mem_n H) = true := by kernel_rfl
theorem idsQ_n (gb ob n c : Nat) (t : Nat) (H : Hs) (p : Option Addr) (k d : Nat) : idsIn (mem_n H).length (Q_n gb ob n c t (.o (.a (.v (.slice p k d))))) (mem_n H) = true := by kernel_rfl
theorem idsZ_n (H : Hs) : idsIn (mem_n H).length (Z_n ) (mem_n H) = true := by kernel_rfl
theorem idsM_g (gb ob n c : Nat) (t : Nat) (len : Nat) (H : Hs) (xs : List Int) (lo : Nat) : idsIn (mem_g H xs lo none).length (M_g gb ob n c t len ) (mem_g H xs lo none) = true := by kernel_rfl
theorem idsN_g (gb ob n c : Nat) (t : Nat) (len : Nat) (H : Hs) (xs : List Int) (lo : Nat) : idsIn (mem_g H xs lo none).length (N_g gb ob n c t len ) (mem_g H xs lo none) = true := by kernel_rfl
theorem idsP_g (gb ob n c : Nat) (t : Nat) (len : Nat) (H : Hs) (xs : List Int) (lo : Nat) (p : Option Addr) (k d : Nat) : idsIn (mem_g H xs lo none).length (P_g gb ob n c t len (.o (.a (.v (.slice p k d))))) (mem_g H xs lo none) = true := by kernel_rfl
theorem idsQ_g (gb ob n c : Nat) (t : Nat) (len : Nat) (H : Hs) (xs : List Int) (lo : Nat) (p : Option Addr) (k d : Nat) : idsIn (mem_g H xs lo none).length (Q_g gb ob n c t len (.o (.a (.v (.slice p k d))))) (mem_g H xs lo none) = true := by kernel_rfl
theorem idsZ_g (len : Nat) (H : Hs) (xs : List Int) (lo : Nat) : idsIn (mem_g H xs lo none).length (Z_g len ) (mem_g H xs lo none) = true := by kernel_rfl
abbrev sl (a : Option Addr) (n c : Nat) : SV := .o (.a (.v (.slice a n c)))
theorem s0 (W : World) (h2 : ∀ g cs, Gs g = some cs → heapGlob W g = some cs) (a : Option Addr) (n c : Nat) : outX (mem_n S0).length (M0 (sl a n c)) (exec (Γ W h2) tys 100 (cpre 4 body) ⟨startT fn [sl a n c], [], []⟩) = some (.normal, live (M0 (sl a n c)), (M0 (sl a n c)).length, mem_n S0, []) := by kernel_rfl
theorem a5 (W : World) (h2 : ∀ g cs, Gs g = some cs → heapGlob W g = some cs) (gb ob n c : Nat) (g : Nat → SV) : outX (mem_n S0).length (M_n gb ob n c 0) (exec (Γ W h2) tys 100 A5 ⟨fill g 0 (M0 (.o (.a (.v (.slice (some ⟨gb, ob, none⟩) n c))))), mem_n S0, []⟩) = some (.normal, live (M_n gb ob n c 0), (M_n gb ob n c 0).length, mem_n S0, []) := by kernel_rfl
theorem h_n (W : World) (h2 : ∀ g cs, Gs g = some cs → heapGlob W g = some cs) (gb ob n c : Nat) (t : Nat) (H : Hs) (g : Nat → SV) : outX (mem_n H).length (M_n gb ob n c t ) (exec (Γ W h2) tys 100 (cpre 2 L) ⟨fill g 0 (M_n gb ob n c t ), mem_n H, [(12, [.b true])]⟩) = some (.normal, live (M_n gb ob n c t ), (M_n gb ob n c t ).length, mem_n H, [decide ((t : Int) < (n : Int)) = true]) := by kernel_rfl
theorem z_n (W : World) (h2 : ∀ g cs, Gs g = some cs → heapGlob W g = some cs) (gb ob n c : Nat) (t : Nat) (H : Hs) (g : Nat → SV) : outX (mem_n H).length (Z_n ) (exec (Γ W h2) tys 100 L ⟨fill g 0 (M_n gb ob n c t ), mem_n H, [(12, [.b false])]⟩) = some (.exit 0, live (Z_n ), (Z_n ).length, mem_n H, [decide ((t : Int) < (n : Int)) = false]) := by kernel_rfl
theorem x_n (W : World) (h2 : ∀ g cs, Gs g = some cs → heapGlob W g = some cs) (gb ob n c : Nat) (t : Nat) (H : Hs) (g : Nat → SV) : outX (mem_n H).length (N_n gb ob n c t ) (exec (Γ W h2) tys 100 (cpre 1 B1) ⟨fill g 0 (M_n gb ob n c t ), mem_n H, []⟩) = some (.normal, live (N_n gb ob n c t ), (N_n gb ob n c t ).length, mem_n H, []) := by kernel_rfl
theorem e_n (W : World) (h2 : ∀ g cs, Gs g = some cs → heapGlob W g = some cs) (gb ob n c : Nat) (t : Nat) (H : Hs) (g : Nat → SV) : outX (mem_n H).length (M_n gb ob n c (t + 1) ) (exec (Γ W h2) tys 100 R12 ⟨fill g 0 (N_n gb ob n c t ), mem_n H, [(46, [.n ((t + 1 : Nat) : Int)])]⟩) = some (.normal, live (M_n gb ob n c (t + 1) ), (M_n gb ob n c (t + 1) ).length, mem_n H, [IntKind.i64.wrap ((t : Int) + 1) = ((t + 1 : Nat) : Int)]) := by kernel_rfl
theorem p8_n (W : World) (h2 : ∀ g cs, Gs g = some cs → heapGlob W g = some cs) (gb ob n c : Nat) (t : Nat) (H : Hs) (p : Option Addr) (k d : Nat) (g : Nat → SV) : outXL (mem_n H).length (P_n gb ob n c t (sl p k d)) (runOps (Γ W h2) tys (opsOf R8).toList ((opsOf R8).toList.take 5) ⟨fill g 0 (N_n gb ob n c t ), mem_n H, [(18, [.ds (sl p k d)])]⟩) = some (live (P_n gb ob n c t (sl p k d)), (P_n gb ob n c t (sl p k d)).length, mem_n H, [0 ≤ (t : Int), (t : Int) < (n : Int), ∃ cs, heapGlob W gb = some cs ∧ ob + t + 1 ≤ cs.length, SV.o (.a (.v (glbV (heapGlob W) gb (ob + t)))) = sl p k d]) := by kernel_rfl
theorem p9_n (W : World) (h2 : ∀ g cs, Gs g = some cs → heapGlob W g = some cs) (gb ob n c : Nat) (t : Nat) (H : Hs) (p : Option Addr) (k d : Nat) (g : Nat → SV) : outXL (mem_n H).length (Q_n gb ob n c t (sl p k d)) (runOps (Γ W h2) tys (opsOf R9).toList ((opsOf R9).toList.take 5) ⟨fill g 0 (N_n gb ob n c t ), mem_n H, [(24, [.ds (sl p k d)])]⟩) = some (live (Q_n gb ob n c t (sl p k d)), (Q_n gb ob n c t (sl p k d)).length, mem_n H, [0 ≤ (t : Int), (t : Int) < (n : Int), ∃ cs, heapGlob W gb = some cs ∧ ob + t + 1 ≤ cs.length, SV.o (.a (.v (glbV (heapGlob W) gb (ob + t)))) = sl p k d]) := by kernel_rfl
theorem q8n_n (W : World) (h2 : ∀ g cs, Gs g = some cs → heapGlob W g = some cs) (gb ob n c : Nat) (t : Nat) (H : Hs) (p : Option Addr) (g : Nat → SV) : outXL (mem_n (absorb H [])).length (N_n gb ob n c t ) (runOps (Γ W h2) tys (opsOf R8).toList (((opsOf R8).toList.drop 5).take 1) ⟨fill g 0 (P_n gb ob n c t (sl p 0 0)), mem_n H, []⟩) = some (live (N_n gb ob n c t ), (N_n gb ob n c t ).length, mem_n (absorb H []), [0 ≤ H.n]) := by kernel_rfl
theorem q8w_n (W : World) (h2 : ∀ g cs, Gs g = some cs → heapGlob W g = some cs) (gb ob n c : Nat) (t : Nat) (H : Hs) (ys : List Int) (ty : TypeId) (k d : Nat) (g : Nat → SV) : outXL (mem_n (absorb H ((ys.drop 0).take k))).length (N_n gb ob n c t ) (runOps (Γ W h2) tys (opsOf R8).toList (((opsOf R8).toList.drop 5).take 1) ⟨fill g 0 (P_n gb ob n c t (.o (.a (.sld 1 0 0 k d)))), (mem_n H ++ [⟨false, ty, .pre .u8 ys⟩]), []⟩) = some (live (N_n gb ob n c t ), (N_n gb ob n c t ).length, mem_n (absorb H ((ys.drop 0).take k)), [0 + k ≤ ys.length, k ≤ d, 0 ≤ H.n]) := by kernel_rfl
theorem h_g (W : World) (h2 : ∀ g cs, Gs g = some cs → heapGlob W g = some cs) (gb ob n c : Nat) (t : Nat) (len : Nat) (H : Hs) (xs : List Int) (lo : Nat) (g : Nat → SV) : outX (mem_g H xs lo none).length (M_g gb ob n c t len ) (exec (Γ W h2) tys 100 (cpre 2 L) ⟨fill g 0 (M_g gb ob n c t len ), mem_g H xs lo none, [(12, [.b true])]⟩) = some (.normal, live (M_g gb ob n c t len ), (M_g gb ob n c t len ).length, mem_g H xs lo none, [decide ((t : Int) < (n : Int)) = true]) := by kernel_rfl
theorem z_g (W : World) (h2 : ∀ g cs, Gs g = some cs → heapGlob W g = some cs) (gb ob n c : Nat) (t : Nat) (len : Nat) (H : Hs) (xs : List Int) (lo : Nat) (g : Nat → SV) : outX (mem_g H xs lo none).length (Z_g len ) (exec (Γ W h2) tys 100 L ⟨fill g 0 (M_g gb ob n c t len ), mem_g H xs lo none, [(12, [.b false])]⟩) = some (.exit 0, live (Z_g len ), (Z_g len ).length, mem_g H xs lo none, [decide ((t : Int) < (n : Int)) = false]) := by kernel_rfl
theorem x_g (W : World) (h2 : ∀ g cs, Gs g = some cs → heapGlob W g = some cs) (gb ob n c : Nat) (t : Nat) (len : Nat) (H : Hs) (xs : List Int) (lo : Nat) (g : Nat → SV) : outX (mem_g H xs lo none).length (N_g gb ob n c t len ) (exec (Γ W h2) tys 100 (cpre 1 B1) ⟨fill g 0 (M_g gb ob n c t len ), mem_g H xs lo none, []⟩) = some (.normal, live (N_g gb ob n c t len ), (N_g gb ob n c t len ).length, mem_g H xs lo none, []) := by kernel_rfl
theorem e_g (W : World) (h2 : ∀ g cs, Gs g = some cs → heapGlob W g = some cs) (gb ob n c : Nat) (t : Nat) (len : Nat) (H : Hs) (xs : List Int) (lo : Nat) (g : Nat → SV) : outX (mem_g H xs lo none).length (M_g gb ob n c (t + 1) len ) (exec (Γ W h2) tys 100 R12 ⟨fill g 0 (N_g gb ob n c t len ), mem_g H xs lo none, [(46, [.n ((t + 1 : Nat) : Int)])]⟩) = some (.normal, live (M_g gb ob n c (t + 1) len ), (M_g gb ob n c (t + 1) len ).length, mem_g H xs lo none, [IntKind.i64.wrap ((t : Int) + 1) = ((t + 1 : Nat) : Int)]) := by kernel_rfl
theorem p8_g (W : World) (h2 : ∀ g cs, Gs g = some cs → heapGlob W g = some cs) (gb ob n c : Nat) (t : Nat) (len : Nat) (H : Hs) (xs : List Int) (lo : Nat) (p : Option Addr) (k d : Nat) (g : Nat → SV) : outXL (mem_g H xs lo none).length (P_g gb ob n c t len (sl p k d)) (runOps (Γ W h2) tys (opsOf R8).toList ((opsOf R8).toList.take 5) ⟨fill g 0 (N_g gb ob n c t len ), mem_g H xs lo none, [(18, [.ds (sl p k d)])]⟩) = some (live (P_g gb ob n c t len (sl p k d)), (P_g gb ob n c t len (sl p k d)).length, mem_g H xs lo none, [0 ≤ (t : Int), (t : Int) < (n : Int), ∃ cs, heapGlob W gb = some cs ∧ ob + t + 1 ≤ cs.length, SV.o (.a (.v (glbV (heapGlob W) gb (ob + t)))) = sl p k d]) := by kernel_rfl
theorem p9_g (W : World) (h2 : ∀ g cs, Gs g = some cs → heapGlob W g = some cs) (gb ob n c : Nat) (t : Nat) (len : Nat) (H : Hs) (xs : List Int) (lo : Nat) (p : Option Addr) (k d : Nat) (g : Nat → SV) : outXL (mem_g H xs lo none).length (Q_g gb ob n c t len (sl p k d)) (runOps (Γ W h2) tys (opsOf R9).toList ((opsOf R9).toList.take 5) ⟨fill g 0 (N_g gb ob n c t len ), mem_g H xs lo none, [(24, [.ds (sl p k d)])]⟩) = some (live (Q_g gb ob n c t len (sl p k d)), (Q_g gb ob n c t len (sl p k d)).length, mem_g H xs lo none, [0 ≤ (t : Int), (t : Int) < (n : Int), ∃ cs, heapGlob W gb = some cs ∧ ob + t + 1 ≤ cs.length, SV.o (.a (.v (glbV (heapGlob W) gb (ob + t)))) = sl p k d]) := by kernel_rfl
theorem q8n_g (W : World) (h2 : ∀ g cs, Gs g = some cs → heapGlob W g = some cs) (gb ob n c : Nat) (t : Nat) (len : Nat) (H : Hs) (xs : List Int) (lo : Nat) (p : Option Addr) (g : Nat → SV) : outXL (mem_g (absorb H []) xs lo none).length (N_g gb ob n c t len ) (runOps (Γ W h2) tys (opsOf R8).toList (((opsOf R8).toList.drop 5).take 1) ⟨fill g 0 (P_g gb ob n c t len (sl p 0 0)), mem_g H xs lo none, []⟩) = some (live (N_g gb ob n c t len ), (N_g gb ob n c t len ).length, mem_g (absorb H []) xs lo none, [0 ≤ H.n]) := by kernel_rfl
theorem q8w_g (W : World) (h2 : ∀ g cs, Gs g = some cs → heapGlob W g = some cs) (gb ob n c : Nat) (t : Nat) (len : Nat) (H : Hs) (xs : List Int) (lo : Nat) (ys : List Int) (ty : TypeId) (k d : Nat) (g : Nat → SV) : outXL (mem_g (absorb H ((ys.drop 0).take k)) xs lo none).length (N_g gb ob n c t len ) (runOps (Γ W h2) tys (opsOf R8).toList (((opsOf R8).toList.drop 5).take 1) ⟨fill g 0 (P_g gb ob n c t len (.o (.a (.sld 2 0 0 k d)))), (mem_g H xs lo none ++ [⟨false, ty, .pre .u8 ys⟩]), []⟩) = some (live (N_g gb ob n c t len ), (N_g gb ob n c t len ).length, mem_g (absorb H ((ys.drop 0).take k)) xs lo none, [0 + k ≤ ys.length, k ≤ d, 0 ≤ H.n]) := by kernel_rfl
theorem q9nn (W : World) (h2 : ∀ g cs, Gs g = some cs → heapGlob W g = some cs) (gb ob n c : Nat) (t : Nat) (H : Hs) (p : Option Addr) (g : Nat → SV) : outXL (mem_n H).length (N_n gb ob n c t) (runOps (Γ W h2) tys (opsOf R9).toList (((opsOf R9).toList.drop 5).take 2) ⟨fill g 0 (Q_n gb ob n c t (sl p 0 0)), mem_n H, [(25, [.dyn])]⟩) = some (live (N_n gb ob n c t), (N_n gb ob n c t).length, mem_n H, [0 = 0]) := by kernel_rfl
theorem q9nw0 (W : World) (h2 : ∀ g cs, Gs g = some cs → heapGlob W g = some cs) (gb ob n c : Nat) (t : Nat) (H : Hs) (ys : List Int) (ty : TypeId) (k d : Nat) (g : Nat → SV) : outXL (mem_n H).length (N_n gb ob n c t) (runOps (Γ W h2) tys (opsOf R9).toList (((opsOf R9).toList.drop 5).take 2) ⟨fill g 0 (Q_n gb ob n c t (.o (.a (.sld 1 0 0 k d)))), (mem_n H ++ [⟨false, ty, .pre .u8 ys⟩]), [(25, [.dyn])]⟩) = some (live (N_n gb ob n c t), (N_n gb ob n c t).length, mem_n H, [0 + k ≤ ys.length, k = 0]) := by kernel_rfl
theorem q9nw (W : World) (h2 : ∀ g cs, Gs g = some cs → heapGlob W g = some cs) (gb ob n c : Nat) (t : Nat) (H : Hs) (ys : List Int) (ty : TypeId) (k d : Nat) (g : Nat → SV) : outNL [0, 2] (N_g gb ob n c t k) (runOps (Γ W h2) tys (opsOf R9).toList (((opsOf R9).toList.drop 5).take 2) ⟨fill g 0 (Q_n gb ob n c t (.o (.a (.sld 1 0 0 k d)))), (mem_n H ++ [⟨false, ty, .pre .u8 ys⟩]), []⟩) = some ((live (N_g gb ob n c t k)).map (SV.ren (piF [0, 2])), (N_g gb ob n c t k).length, (mem_g H ((ys.drop 0).take k) k none).map (fun b => some (b.ren (piF [0, 2]))), [0 + k ≤ ys.length, 0 < k, Room Tryd.prog 5 k]) := by kernel_rfl
theorem q9gn (W : World) (h2 : ∀ g cs, Gs g = some cs → heapGlob W g = some cs) (gb ob n c : Nat) (t len : Nat) (H : Hs) (xs : List Int) (lo : Nat) (p : Option Addr) (g : Nat → SV) : outXL (mem_g H (xs ++ []) lo none).length (N_g gb ob n c t (len + 0)) (runOps (Γ W h2) tys (opsOf R9).toList (((opsOf R9).toList.drop 5).take 2) ⟨fill g 0 (Q_g gb ob n c t len (sl p 0 0)), mem_g H xs lo none, []⟩) = some (live (N_g gb ob n c t (len + 0)), (N_g gb ob n c t (len + 0)).length, mem_g H (xs ++ []) lo none, [len = xs.length, len + 0 ≤ lo]) := by kernel_rfl
theorem q9gi (W : World) (h2 : ∀ g cs, Gs g = some cs → heapGlob W g = some cs) (gb ob n c : Nat) (t len : Nat) (H : Hs) (xs : List Int) (lo : Nat) (ys : List Int) (ty : TypeId) (k d : Nat) (g : Nat → SV) : outXL (mem_g H (xs ++ ((ys.drop 0).take k)) (len + k) none).length (N_g gb ob n c t (len + k)) (runOps (Γ W h2) tys (opsOf R9).toList (((opsOf R9).toList.drop 5).take 2) ⟨fill g 0 (Q_g gb ob n c t len (.o (.a (.sld 2 0 0 k d)))), (mem_g H xs (len + k) none ++ [⟨false, ty, .pre .u8 ys⟩]), []⟩) = some (live (N_g gb ob n c t (len + k)), (N_g gb ob n c t (len + k)).length, mem_g H (xs ++ ((ys.drop 0).take k)) (len + k) none, [0 + k ≤ ys.length, len = xs.length, len + k ≤ len + k]) := by kernel_rfl
theorem q9gg (W : World) (h2 : ∀ g cs, Gs g = some cs → heapGlob W g = some cs) (gb ob n c : Nat) (t len : Nat) (H : Hs) (xs : List Int) (lo : Nat) (ys : List Int) (ty : TypeId) (k d : Nat) (g : Nat → SV) : outNL [0, 3] (N_g gb ob n c t (len + k)) (runOps (Γ W h2) tys (opsOf R9).toList (((opsOf R9).toList.drop 5).take 2) ⟨fill g 0 (Q_g gb ob n c t len (.o (.a (.sld 2 0 0 k d)))), (mem_g H xs lo (some (len + k)) ++ [⟨false, ty, .pre .u8 ys⟩]), []⟩) = some ((live (N_g gb ob n c t (len + k))).map (SV.ren (piF [0, 3])), (N_g gb ob n c t (len + k)).length, (mem_g H (xs ++ ((ys.drop 0).take k)) (len + k) none).map (fun b => some (b.ren (piF [0, 3]))), [0 + k ≤ ys.length, len = xs.length, len + k ≤ len + k, Room Tryd.prog 5 (len + k)]) := by kernel_rfl
theorem t_n (W : World) (h2 : ∀ g cs, Gs g = some cs → heapGlob W g = some cs) (gb ob n c : Nat) (t : Nat) (H : Hs) (A : B32) (g : Nat → SV) : outX (mem_n H).length (N_n gb ob n c t ) (exec (Γ W h2) tys 100 T10 ⟨fill g 0 (N_n gb ob n c t ), mem_n H, [(27, [.s (cB32.enc A)]), (29, [.s (cB32.enc A)]), (30, [.b false]), (37, [.b false]), (41, [.s (cB32.enc A)]), (43, [.s (cB32.enc A)]), (44, [.b false])]⟩) = some (.normal, live (N_n gb ob n c t ), (N_n gb ob n c t ).length, mem_n H, [0 ≤ H.n, cB32.enc (finB H) = cB32.enc A, cB32.enc (refB []) = cB32.enc A, (!lcop.selfEq A.to) = false, (!(H.n == IntKind.u64.wrap ((0 : Nat) : Int))) = false, 0 ≤ H.n, cB32.enc (finB H) = cB32.enc A, cB32.enc (finB (absorb S0 [])) = cB32.enc A, (!lcop.selfEq A.to) = false]) := by kernel_rfl
noncomputable def fin_n (W : World) (h2 : ∀ g cs, Gs g = some cs → heapGlob W g = some cs) (H : Hs) (A : B32) (g : Nat → SV) : St := outS (Γ W h2) tys 100 D ⟨fill g 0 (Z_n ), mem_n H, [(48, [.s (cB32.enc A)]), (50, [.s (cB32.enc A)]), (51, [.b true])]⟩
theorem d_n (W : World) (h2 : ∀ g cs, Gs g = some cs → heapGlob W g = some cs) (H : Hs) (A : B32) (g : Nat → SV) : exec (Γ W h2) tys 100 D ⟨fill g 0 (Z_n ), mem_n H, [(48, [.s (cB32.enc A)]), (50, [.s (cB32.enc A)]), (51, [.b true])]⟩ = some (.ret, ⟨(fin_n W h2 H A g).tm, (fin_n W h2 H A g).mem, (fin_n W h2 H A g).orc⟩, [0 ≤ H.n, cB32.enc (finB H) = cB32.enc A, cB32.enc (refB []) = cB32.enc A, lcop.selfEq A.to = true]) := by kernel_rfl
theorem res_n (W : World) (h2 : ∀ g cs, Gs g = some cs → heapGlob W g = some cs) (H : Hs) (A : B32) (g : Nat → SV) : eRes tys (fin_n W h2 H A g).tm (fun k => (fin_n W h2 H A g).mem[k]?) fn.results.toList = some [.a (bool1 true)] := by kernel_rfl
theorem t_g (W : World) (h2 : ∀ g cs, Gs g = some cs → heapGlob W g = some cs) (gb ob n c : Nat) (t : Nat) (len : Nat) (H : Hs) (xs : List Int) (lo : Nat) (A : B32) (g : Nat → SV) : outX (mem_g H xs lo none).length (N_g gb ob n c t len ) (exec (Γ W h2) tys 100 T10 ⟨fill g 0 (N_g gb ob n c t len ), mem_g H xs lo none, [(27, [.s (cB32.enc A)]), (29, [.s (cB32.enc A)]), (30, [.b false]), (37, [.b false]), (41, [.s (cB32.enc A)]), (43, [.s (cB32.enc A)]), (44, [.b false])]⟩) = some (.normal, live (N_g gb ob n c t len ), (N_g gb ob n c t len ).length, mem_g H xs lo none, [0 ≤ H.n, cB32.enc (finB H) = cB32.enc A, 0 + len ≤ xs.length, len ≤ lo, len ≤ 140737488354000, ∀ y ∈ ((xs.drop 0).take len), Byt y, cB32.enc (refB ((xs.drop 0).take len)) = cB32.enc A, (!lcop.selfEq A.to) = false, (!(H.n == IntKind.u64.wrap ((len : Nat) : Int))) = false, 0 ≤ H.n, cB32.enc (finB H) = cB32.enc A, 0 + len ≤ xs.length, len ≤ lo, cB32.enc (finB (absorb S0 ((xs.drop 0).take len))) = cB32.enc A, (!lcop.selfEq A.to) = false]) := by kernel_rfl
noncomputable def fin_g (W : World) (h2 : ∀ g cs, Gs g = some cs → heapGlob W g = some cs) (len : Nat) (H : Hs) (xs : List Int) (lo : Nat) (A : B32) (g : Nat → SV) : St := outS (Γ W h2) tys 100 D ⟨fill g 0 (Z_g len ), mem_g H xs lo none, [(48, [.s (cB32.enc A)]), (50, [.s (cB32.enc A)]), (51, [.b true])]⟩
theorem d_g (W : World) (h2 : ∀ g cs, Gs g = some cs → heapGlob W g = some cs) (len : Nat) (H : Hs) (xs : List Int) (lo : Nat) (A : B32) (g : Nat → SV) : exec (Γ W h2) tys 100 D ⟨fill g 0 (Z_g len ), mem_g H xs lo none, [(48, [.s (cB32.enc A)]), (50, [.s (cB32.enc A)]), (51, [.b true])]⟩ = some (.ret, ⟨(fin_g W h2 len H xs lo A g).tm, (fin_g W h2 len H xs lo A g).mem, (fin_g W h2 len H xs lo A g).orc⟩, [0 ≤ H.n, cB32.enc (finB H) = cB32.enc A, 0 + len ≤ xs.length, len ≤ lo, len ≤ 140737488354000, ∀ y ∈ ((xs.drop 0).take len), Byt y, cB32.enc (refB ((xs.drop 0).take len)) = cB32.enc A, lcop.selfEq A.to = true]) := by kernel_rfl
theorem res_g (W : World) (h2 : ∀ g cs, Gs g = some cs → heapGlob W g = some cs) (len : Nat) (H : Hs) (xs : List Int) (lo : Nat) (A : B32) (g : Nat → SV) : eRes tys (fin_g W h2 len H xs lo A g).tm (fun k => (fin_g W h2 len H xs lo A g).mem[k]?) fn.results.toList = some [.a (bool1 true)] := by kernel_rfl
theorem a5n (W : World) (h2 : ∀ g cs, Gs g = some cs → heapGlob W g = some cs) (p : Option Addr) (g : Nat → SV) : outX (mem_n S0).length (Z_n) (exec (Γ W h2) tys 100 (.seq A5 (.block 0 (.loop L))) ⟨fill g 0 (M0 (sl p 0 0)), mem_n S0, []⟩) = some (.normal, live Z_n, Z_n.length, mem_n S0, []) := by kernel_rfl
end lpie
/-- The pieces, one behind the other. -/
def cat (X : Nat → SArg) : Nat → List Int
  | 0 => []
  | i + 1 => cat X i ++ (X i).ints
theorem cat_byt {X : Nat → SArg} {W : World} : ∀ (i : Nat), (∀ j, j < i → (X j).ok .u8 W) → ∀ y ∈ cat X i, Byt y
  | 0, _, y, hy => by cases hy
  | i + 1, h, y, hy => by
    rcases List.mem_append.1 hy with hy | hy
    · exact cat_byt i (fun j hj => h j (by omega)) y hy
    · exact sarg_byt (h i (by omega)) y hy
theorem sarg_open {W : World} {ys : List Int} {k d : Nat} {ty : TypeId} {l : Eng.Loc} (h : (SArg.win ys k d ty l).ok .u8 W) : ys.length = k ∧ k ≤ d ∧ ∃ cs rest, heapGlob W l.a = some cs ∧ l.s ≤ cs.length ∧ (cs.map (Atom.den fun _ => ⟨0, 0, 0⟩)).drop l.s = intV .u8 ys ++ rest := by
  obtain ⟨h1, h2, _, _, _, fr, pre, tail, h3, h4⟩ := h
  refine ⟨h1, h2, _, tail, heapGlob_cells h3, ?_, ?_⟩
  · simp; omega
  · rw [den_v, ← h4]
    simp
namespace lpie
variable {W : World} (h2 : ∀ g cs, Gs g = some cs → heapGlob W g = some cs)
include h2 in
theorem r8_n (gb ob n c : Nat) (t : Nat) (H : Hs) (x : SArg) (hc : W.cell? ⟨gb, ob + t, none⟩ = some x.val) (hok : x.ok .u8 W) (ht : t < n) (hH : 0 ≤ H.n) {Post : Ex → List SV → List Blk → Prop} (hp : ∀ g, Post .normal (fill g 0 (N_n gb ob n c t )) (mem_n (absorb H x.ints))) (g : Nat → SV) :
    RunsL Tryd.prog (heapGlob W) 0 (opsOf R8) (opsOf R8).toList (fill g 0 (N_n gb ob n c t )) (mem_n H) Post := by
  obtain ⟨hv, cs0, hcs0, hl0⟩ := glbV_heap hc
  cases x with
  | none p =>
    refine RunsL.of_outX tys_ok 5 (p8_n W h2 gb ob n c t H p 0 0 g) ⟨by omega, by omega, ⟨cs0, hcs0, hl0⟩, by rw [hv]; rfl, trivial⟩ (idsP_n _ _ _ _ _ _ _ _ _) rfl fun g => ?_
    refine RunsL.of_outX tys_ok 1 (q8n_n W h2 gb ob n c t H p g) ⟨hH, trivial⟩ (idsN_n _ _ _ _ _ _ ) rfl fun g => ?_
    rw [nil8]
    exact RunsL.nil (hp g)
  | win ys k d ty l =>
    obtain ⟨hk, hd, cs, rest, hg, hs, hC⟩ := sarg_open hok
    refine RunsL.of_outX tys_ok 5 (p8_n W h2 gb ob n c t H (some (l.at 0)) k d g) ⟨by omega, by omega, ⟨cs0, hcs0, hl0⟩, by rw [hv]; rfl, trivial⟩ (idsP_n _ _ _ _ _ _ _ _ _) rfl fun g => ?_
    refine RunsL.openG 18 (g := l.a) (s := l.s) (n := k) (c := d) rfl hg hs hC fun ty' => ?_
    show RunsL _ _ _ _ _ (fill g 0 (P_n gb ob n c t (.o (.a (.sld 1 0 0 k d))))) (mem_n H ++ [⟨false, ty', .pre .u8 ys⟩]) _
    have hq := q8w_n W h2 gb ob n c t H ys ty' k d g
    have e : (ys.drop 0).take k = ys := by rw [List.drop_zero, List.take_of_length_le (by omega)]
    rw [e] at hq
    refine RunsL.of_outX tys_ok 1 hq ⟨by omega, hd, hH, trivial⟩ (idsN_n _ _ _ _ _ _ ) rfl fun g => ?_
    rw [nil8]
    exact RunsL.nil (hp g)
include h2 in
theorem r8_g (gb ob n c : Nat) (t : Nat) (len : Nat) (H : Hs) (xs : List Int) (lo : Nat) (x : SArg) (hc : W.cell? ⟨gb, ob + t, none⟩ = some x.val) (hok : x.ok .u8 W) (ht : t < n) (hH : 0 ≤ H.n) {Post : Ex → List SV → List Blk → Prop} (hp : ∀ g, Post .normal (fill g 0 (N_g gb ob n c t len )) (mem_g (absorb H x.ints) xs lo none)) (g : Nat → SV) :
    RunsL Tryd.prog (heapGlob W) 0 (opsOf R8) (opsOf R8).toList (fill g 0 (N_g gb ob n c t len )) (mem_g H xs lo none) Post := by
  obtain ⟨hv, cs0, hcs0, hl0⟩ := glbV_heap hc
  cases x with
  | none p =>
    refine RunsL.of_outX tys_ok 5 (p8_g W h2 gb ob n c t len H xs lo p 0 0 g) ⟨by omega, by omega, ⟨cs0, hcs0, hl0⟩, by rw [hv]; rfl, trivial⟩ (idsP_g _ _ _ _ _ _ _ _ _ _ _ _) rfl fun g => ?_
    refine RunsL.of_outX tys_ok 1 (q8n_g W h2 gb ob n c t len H xs lo p g) ⟨hH, trivial⟩ (idsN_g _ _ _ _ _ _ _ _ _ ) rfl fun g => ?_
    rw [nil8]
    exact RunsL.nil (hp g)
  | win ys k d ty l =>
    obtain ⟨hk, hd, cs, rest, hg, hs, hC⟩ := sarg_open hok
    refine RunsL.of_outX tys_ok 5 (p8_g W h2 gb ob n c t len H xs lo (some (l.at 0)) k d g) ⟨by omega, by omega, ⟨cs0, hcs0, hl0⟩, by rw [hv]; rfl, trivial⟩ (idsP_g _ _ _ _ _ _ _ _ _ _ _ _) rfl fun g => ?_
    refine RunsL.openG 18 (g := l.a) (s := l.s) (n := k) (c := d) rfl hg hs hC fun ty' => ?_
    show RunsL _ _ _ _ _ (fill g 0 (P_g gb ob n c t len (.o (.a (.sld 2 0 0 k d))))) (mem_g H xs lo none ++ [⟨false, ty', .pre .u8 ys⟩]) _
    have hq := q8w_g W h2 gb ob n c t len H xs lo ys ty' k d g
    have e : (ys.drop 0).take k = ys := by rw [List.drop_zero, List.take_of_length_le (by omega)]
    rw [e] at hq
    refine RunsL.of_outX tys_ok 1 hq ⟨by omega, hd, hH, trivial⟩ (idsN_g _ _ _ _ _ _ _ _ _ ) rfl fun g => ?_
    rw [nil8]
    exact RunsL.nil (hp g)
include h2 in
theorem r9_n (gb ob n c : Nat) (t : Nat) (H : Hs) (x : SArg) (hc : W.cell? ⟨gb, ob + t, none⟩ = some x.val) (hok : x.ok .u8 W) (ht : t < n) (hl : x.ints.length ≤ 1048576) {Post : Ex → List SV → List Blk → Prop} (hp : x.ints = [] → ∀ g, Post .normal (fill g 0 (N_n gb ob n c t)) (mem_n H))
    (hq : x.ints ≠ [] → ∀ g, Post .normal (fill g 0 (N_g gb ob n c t x.ints.length)) (mem_g H x.ints x.ints.length none)) (g : Nat → SV) :
    RunsL Tryd.prog (heapGlob W) 0 (opsOf R9) (opsOf R9).toList (fill g 0 (N_n gb ob n c t)) (mem_n H) Post := by
  obtain ⟨hv, cs0, hcs0, hl0⟩ := glbV_heap hc
  cases x with
  | none p =>
    refine RunsL.of_outX tys_ok 5 (p9_n W h2 gb ob n c t H p 0 0 g) ⟨by omega, by omega, ⟨cs0, hcs0, hl0⟩, by rw [hv]; rfl, trivial⟩ (idsQ_n _ _ _ _ _ _ _ _ _) rfl fun g => ?_
    refine RunsL.of_outX tys_ok 2 (q9nn W h2 gb ob n c t H p g) ⟨rfl, trivial⟩ (idsN_n _ _ _ _ _ _) rfl fun g => ?_
    rw [nil9]
    exact RunsL.nil (hp rfl g)
  | win ys k d ty l =>
    obtain ⟨hk, hd, cs, rest, hg, hs, hC⟩ := sarg_open hok
    have hl : ys.length ≤ 1048576 := hl
    refine RunsL.of_outX tys_ok 5 (p9_n W h2 gb ob n c t H (some (l.at 0)) k d g) ⟨by omega, by omega, ⟨cs0, hcs0, hl0⟩, by rw [hv]; rfl, trivial⟩ (idsQ_n _ _ _ _ _ _ _ _ _) rfl fun g => ?_
    refine RunsL.openG 24 (g := l.a) (s := l.s) (n := k) (c := d) rfl hg hs hC fun ty' => ?_
    show RunsL _ _ _ _ _ (fill g 0 (Q_n gb ob n c t (.o (.a (.sld 1 0 0 k d))))) (mem_n H ++ [⟨false, ty', .pre .u8 ys⟩]) _
    by_cases h0 : k = 0
    · refine RunsL.of_outX tys_ok 2 (q9nw0 W h2 gb ob n c t H ys ty' k d g) ⟨by omega, h0, trivial⟩ (idsN_n _ _ _ _ _ _) rfl fun g => ?_
      rw [nil9]
      exact RunsL.nil (hp (show ys = [] from List.eq_nil_of_length_eq_zero (by omega)) g)
    · have hw := q9nw W h2 gb ob n c t H ys ty' k d g
      have e : (ys.drop 0).take k = ys := by rw [List.drop_zero, List.take_of_length_le (by omega)]
      rw [e] at hw
      refine RunsL.of_outN tys_ok 2 _ hw ⟨by omega, by omega, room_u8 _ (by omega), trivial⟩ (idsN_g _ _ _ _ _ _ _ _ _) rfl fun g => ?_
      rw [nil9]
      refine RunsL.nil ?_
      have hne : ys ≠ [] := fun h => h0 (by rw [← hk, h]; rfl)
      have := hq hne g
      show Post .normal (fill g 0 (N_g gb ob n c t k)) (mem_g H ys k none)
      rw [← hk]
      exact this
include h2 in
theorem r9_g (gb ob n c : Nat) (t len : Nat) (H : Hs) (xs : List Int) (hxs : len = xs.length) (x : SArg) (hc : W.cell? ⟨gb, ob + t, none⟩ = some x.val) (hok : x.ok .u8 W) (ht : t < n) (hl : len + x.ints.length ≤ 1048576) {Post : Ex → List SV → List Blk → Prop}
    (hq : ∀ g, Post .normal (fill g 0 (N_g gb ob n c t (len + x.ints.length))) (mem_g H (xs ++ x.ints) (len + x.ints.length) none)) (g : Nat → SV) :
    RunsL Tryd.prog (heapGlob W) 0 (opsOf R9) (opsOf R9).toList (fill g 0 (N_g gb ob n c t len)) (mem_g H xs len none) Post := by
  obtain ⟨hv, cs0, hcs0, hl0⟩ := glbV_heap hc
  cases x with
  | none p =>
    refine RunsL.of_outX tys_ok 5 (p9_g W h2 gb ob n c t len H xs len p 0 0 g) ⟨by omega, by omega, ⟨cs0, hcs0, hl0⟩, by rw [hv]; rfl, trivial⟩ (idsQ_g _ _ _ _ _ _ _ _ _ _ _ _) rfl fun g => ?_
    refine RunsL.of_outX tys_ok 2 (q9gn W h2 gb ob n c t len H xs len p g) ⟨hxs, by omega, trivial⟩ (idsN_g _ _ _ _ _ _ _ _ _) rfl fun g => ?_
    rw [nil9]
    exact RunsL.nil (hq g)
  | win ys k d ty l =>
    obtain ⟨hk, hd, cs, rest, hg, hs, hC⟩ := sarg_open hok
    have hl : len + ys.length ≤ 1048576 := hl
    have hq' : ∀ g, Post .normal (fill g 0 (N_g gb ob n c t (len + k))) (mem_g H (xs ++ ys) (len + k) none) := fun g => by
      have := hq g
      rw [← hk]
      exact this
    have e : (ys.drop 0).take k = ys := by rw [List.drop_zero, List.take_of_length_le (by omega)]
    refine RunsL.of_outX tys_ok 5 (p9_g W h2 gb ob n c t len H xs len (some (l.at 0)) k d g) ⟨by omega, by omega, ⟨cs0, hcs0, hl0⟩, by rw [hv]; rfl, trivial⟩ (idsQ_g _ _ _ _ _ _ _ _ _ _ _ _) rfl fun g => ?_
    refine RunsL.openG 24 (g := l.a) (s := l.s) (n := k) (c := d) rfl hg hs hC fun ty' => ?_
    show RunsL _ _ _ _ _ (fill g 0 (Q_g gb ob n c t len (.o (.a (.sld 2 0 0 k d))))) (mem_g H xs len none ++ [⟨false, ty', .pre .u8 ys⟩]) _
    refine RunsL.room 1 (len + k) (own := true) (ty := 5) (kd := .u8) (xs := xs) (lo := len) rfl ?_ ?_
    · have hw := q9gi W h2 gb ob n c t len H xs len ys ty' k d g
      rw [e] at hw
      refine RunsL.of_outX tys_ok 2 hw ⟨by omega, hxs, by omega, trivial⟩ (idsN_g _ _ _ _ _ _ _ _ _) rfl fun g => ?_
      rw [nil9]
      exact RunsL.nil (hq' g)
    · have hw := q9gg W h2 gb ob n c t len H xs len ys ty' k d g
      rw [e] at hw
      refine RunsL.of_outN tys_ok 2 _ hw ⟨by omega, hxs, by omega, room_u8 _ (by omega), trivial⟩ (idsN_g _ _ _ _ _ _ _ _ _) rfl fun g => ?_
      rw [nil9]
      exact RunsL.nil (hq' g)
def Mx (X : Nat → SArg) (gb ob n c : Nat) : Nat × Bool → List (Option SV)
  | (i, true) => M_n gb ob n c i
  | (i, false) => M_g gb ob n c i (cat X i).length
def Bx (X : Nat → SArg) : Nat × Bool → List Blk
  | (i, true) => mem_n (absorb S0 (cat X i))
  | (i, false) => mem_g (absorb S0 (cat X i)) (cat X i) (cat X i).length none
theorem same (A : B32) : (!lcop.selfEq A.to) = false := by rw [lcop.selfEq_true]; rfl
include h2 in
theorem walk (gb ob n c : Nat) (X : Nat → SArg) (hX : ∀ i, i < n → W.cell? ⟨gb, ob + i, none⟩ = some (X i).val ∧ (X i).ok .u8 W) (hT : ∀ i, i ≤ n → (cat X i).length ≤ 1048576) (hn : n ≤ 1048576) :
    RunsF Tryd.prog (heapGlob W) 0 body (startT fn [.o (.a (.v (.slice (some ⟨gb, ob, none⟩) n c)))]) [] (EndsM tys fn (endsQ (cBool.enc true) .none)) := by
  refine Runs.of_outXP tys_ok mixed 4 (s0 W h2 (some ⟨gb, ob, none⟩) n c) trivial (ids0 _ _ _ _) rfl fun g => ?_
  rw [T4_eq]
  refine Runs.seq (Runs.seq (Runs.of_outX tys_ok mixed (a5 W h2 gb ob n c g) trivial (idsM_n _ _ _ _ _ _) rfl fun g => ?_))
  refine Runs.block ?_
  refine Runs.loopX (Mx X gb ob n c ) (Bx X) (fun p => p.1 ≤ n ∧ (p.2 = true → cat X p.1 = [])) (fun p => n - p.1) ?_ (0, true) ⟨Nat.zero_le _, fun _ => rfl⟩ g
  rintro ⟨i, b⟩ g ⟨hi, hb⟩
  simp only at hi hb
  have hnn : ∀ ys, 0 ≤ (absorb S0 ys).n := fun ys => absorb_nn _ _ (by decide)
  by_cases hlt : i < n
  · obtain ⟨hc, hok⟩ := hX i hlt
    have hcat : ∀ ys, ys = cat X i → absorb (absorb S0 ys) (X i).ints = absorb S0 (cat X (i + 1)) := fun ys h => by
      subst h
      exact (absorb_append S0 (cat X i) (X i).ints).symm
    have hbt : ∀ y ∈ cat X (i + 1), Byt y := cat_byt (i + 1) fun j hj => (hX j (by omega)).2
    have h1 := hT (i + 1) (by omega)
    have hlen : (cat X (i + 1)).length = (cat X i).length + (X i).ints.length := List.length_append
    have endg : ∀ {Post : Ex → List SV → List Blk → Prop}, (∀ g, Post .normal (fill g 0 (N_g gb ob n c i (cat X (i + 1)).length)) (mem_g (absorb S0 (cat X (i + 1))) (cat X (i + 1)) (cat X (i + 1)).length none)) → ∀ g, RunsF Tryd.prog (heapGlob W) 0 T10 (fill g 0 (N_g gb ob n c i (cat X (i + 1)).length)) (mem_g (absorb S0 (cat X (i + 1))) (cat X (i + 1)) (cat X (i + 1)).length none) Post := fun {Post} hp g => by
      have e : ((cat X (i + 1)).drop 0).take (cat X (i + 1)).length = cat X (i + 1) := by rw [List.drop_zero, List.take_length]
      have ht := t_g W h2 gb ob n c i (cat X (i + 1)).length (absorb S0 (cat X (i + 1))) (cat X (i + 1)) (cat X (i + 1)).length (refB (cat X (i + 1))) g
      rw [e] at ht
      refine Runs.of_outX tys_ok mixed ht ⟨hnn _, by rw [ref_eq _ (by omega)], by omega, by omega, by omega, hbt, rfl, same _, ?_, hnn _, by rw [ref_eq _ (by omega)], by omega, by omega, by rw [ref_eq _ (by omega)], same _, trivial⟩ (idsN_g _ _ _ _ _ _ _ _ _) rfl hp
      rw [lcop.absorb_len]; simp
    have endn : cat X (i + 1) = [] → ∀ {Post : Ex → List SV → List Blk → Prop}, (∀ g, Post .normal (fill g 0 (N_n gb ob n c i)) (mem_n (absorb S0 (cat X (i + 1))))) → ∀ g, RunsF Tryd.prog (heapGlob W) 0 T10 (fill g 0 (N_n gb ob n c i)) (mem_n (absorb S0 (cat X (i + 1)))) Post := fun h0 {Post} hp g => by
      have hr : finB (absorb S0 (cat X (i + 1))) = refB [] := by rw [h0]; exact ref_eq [] (by decide)
      refine Runs.of_outX tys_ok mixed (t_n W h2 gb ob n c i (absorb S0 (cat X (i + 1))) (refB []) g) ⟨hnn _, by rw [hr], rfl, same _, ?_, hnn _, by rw [hr], by rw [ref_eq [] (by decide)], same _, trivial⟩ (idsN_n _ _ _ _ _ _) rfl hp
      rw [lcop.absorb_len, h0]; rfl
    cases b with
    | true =>
      have h0 : cat X i = [] := hb rfl
      refine Runs.of_outXP tys_ok mixed 2 (h_n W h2 gb ob n c i (absorb S0 (cat X i)) g) ⟨decide_eq_true (by omega), trivial⟩ (idsM_n _ _ _ _ _ _) rfl fun g => ?_
      rw [L_eq]
      refine Runs.seq (Runs.block (Runs.of_outXP tys_ok mixed 1 (x_n W h2 gb ob n c i _ g) trivial (idsN_n _ _ _ _ _ _) rfl fun g => ?_))
      rw [B1_eq]
      refine Runs.seq (Runs.region (r8_n h2 gb ob n c i _ (X i) hc hok hlt (hnn _) (fun g => ?_) g))
      rw [hcat _ rfl]
      refine Runs.seq (Runs.region (r9_n h2 gb ob n c i _ (X i) hc hok hlt (by omega) (fun hx g => ?_) (fun hx g => ?_) g))
      · have hn0 : cat X (i + 1) = [] := by
          show cat X i ++ (X i).ints = []
          rw [h0, hx]; rfl
        exact endn hn0 (fun g => Runs.of_outX tys_ok mixed (e_n W h2 gb ob n c i _ g) ⟨i64n (by omega) (by omega), trivial⟩ (idsM_n _ _ _ _ _ _) rfl fun g' => ⟨(i + 1, true), g', rfl, rfl, ⟨hlt, fun _ => hn0⟩, by simp only; omega⟩) g
      · have hc1 : (X i).ints = cat X (i + 1) := by
          show _ = cat X i ++ (X i).ints
          rw [h0]; rfl
        rw [hc1]
        exact endg (fun g => Runs.of_outX tys_ok mixed (e_g W h2 gb ob n c i _ _ _ _ g) ⟨i64n (by omega) (by omega), trivial⟩ (idsM_g _ _ _ _ _ _ _ _ _) rfl fun g' => ⟨(i + 1, false), g', rfl, rfl, ⟨hlt, fun h => by cases h⟩, by simp only; omega⟩) g
    | false =>
      refine Runs.of_outXP tys_ok mixed 2 (h_g W h2 gb ob n c i (cat X i).length (absorb S0 (cat X i)) (cat X i) (cat X i).length g) ⟨decide_eq_true (by omega), trivial⟩ (idsM_g _ _ _ _ _ _ _ _ _) rfl fun g => ?_
      rw [L_eq]
      refine Runs.seq (Runs.block (Runs.of_outXP tys_ok mixed 1 (x_g W h2 gb ob n c i _ _ _ _ g) trivial (idsN_g _ _ _ _ _ _ _ _ _) rfl fun g => ?_))
      rw [B1_eq]
      refine Runs.seq (Runs.region (r8_g h2 gb ob n c i _ _ _ _ (X i) hc hok hlt (hnn _) (fun g => ?_) g))
      rw [hcat _ rfl]
      refine Runs.seq (Runs.region (r9_g h2 gb ob n c i _ _ _ rfl (X i) hc hok hlt (by omega) (fun g => ?_) g))
      rw [← hlen]
      exact endg (fun g => Runs.of_outX tys_ok mixed (e_g W h2 gb ob n c i _ _ _ _ g) ⟨i64n (by omega) (by omega), trivial⟩ (idsM_g _ _ _ _ _ _ _ _ _) rfl fun g' => ⟨(i + 1, false), g', rfl, rfl, ⟨hlt, fun h => by cases h⟩, by simp only; omega⟩) g
  · have hi' : i = n := by omega
    subst hi'
    have hbt : ∀ y ∈ cat X i, Byt y := cat_byt i fun j hj => (hX j hj).2
    have h1 := hT i (Nat.le_refl _)
    cases b with
    | true =>
      have h0 : cat X i = [] := hb rfl
      refine Runs.of_outX tys_ok mixed (z_n W h2 gb ob i c i (absorb S0 (cat X i)) g) ⟨decide_eq_false (by omega), trivial⟩ (idsZ_n _) rfl fun g => ?_
      refine Runs.of_exec tys_ok mixed (d_n W h2 _ (refB []) g) ⟨hnn _, by rw [h0, ref_eq [] (by decide)], rfl, lcop.selfEq_true _, trivial⟩ (EndsM.ret (res_n W h2 _ _ g) rfl)
    | false =>
      have e : ((cat X i).drop 0).take (cat X i).length = cat X i := by rw [List.drop_zero, List.take_length]
      refine Runs.of_outX tys_ok mixed (z_g W h2 gb ob i c i (cat X i).length (absorb S0 (cat X i)) (cat X i) (cat X i).length g) ⟨decide_eq_false (by omega), trivial⟩ (idsZ_g _ _ _ _) rfl fun g => ?_
      have hd := d_g W h2 (cat X i).length (absorb S0 (cat X i)) (cat X i) (cat X i).length (refB (cat X i)) g
      rw [e] at hd
      exact Runs.of_exec tys_ok mixed hd ⟨hnn _, by rw [ref_eq _ (by omega)], by omega, by omega, by omega, hbt, rfl, lcop.selfEq_true _, trivial⟩ (EndsM.ret (res_g W h2 _ _ _ _ _ g) rfl)
include h2 in
theorem walkN (p : Option Addr) : RunsF Tryd.prog (heapGlob W) 0 body (startT fn [sl p 0 0]) [] (EndsM tys fn (endsQ (cBool.enc true) .none)) := by
  refine Runs.of_outXP tys_ok mixed 4 (s0 W h2 p 0 0) trivial (ids0 _ _ _ _) rfl fun g => ?_
  rw [T4_eq]
  refine Runs.seq (Runs.of_outX tys_ok mixed (a5n W h2 p g) trivial (idsZ_n _) rfl fun g => ?_)
  exact Runs.of_exec tys_ok mixed (d_n W h2 _ (refB []) g) ⟨absorb_nn [] S0 (by decide), by rw [show S0 = absorb S0 [] from rfl, ref_eq [] (by decide)], rfl, lcop.selfEq_true _, trivial⟩ (EndsM.ret (res_n W h2 _ _ g) rfl)

end lpie
end Go.Proofs.YtpmdelihcdaffaaDoor

/- The law of what is handed in (proofs): walked; its content. -/
import Derived.Test.YthbhmmndggkmaaaDoorMU
import Derived.Test.YthbhmmndggkmaaaDoorEDoor
namespace Go.Proofs.YthbhmmndggkmaaaDoor
open Go Go.Eng Go.RowKit
set_option linter.unusedVariables false
set_option linter.unusedSimpArgs false
set_option maxRecDepth 100000

namespace lvke
noncomputable abbrev fn := Tryd.f8
noncomputable def body : Code := bodyOf fn
noncomputable def R3 : Code := cs1 (csuf 2 body)
noncomputable def i3 : Nat := match R3 with | .region i _ _ => i | _ => 0
noncomputable def T4 : Code := csuf 3 body
theorem suf_eq : csuf 2 body = .seq (.region i3 (opsOf R3) false) T4 := by kernel_rfl
theorem nil3 : ((opsOf R3).toList.drop 3).drop 3 = [] := by kernel_rfl
theorem kx {y : List Int} {n : Nat} (h : y.length = n) : ((([] ++ y ++ [77, 78]).drop 0).take n) = y ∧ ([] ++ y ++ [77, 78]).length = n + 2 ∧ ([] ++ y ++ [77, 78]).getD (0 + n) 0 = 77 ∧ ([] ++ y ++ [77, 78]).getD (0 + (n + 1)) 0 = 78 := by
  subst h
  refine ⟨by simp, by simp, ?_, ?_⟩
  · rw [List.nil_append, Nat.zero_add, List.getD, List.getElem?_append_right (Nat.le_refl _), Nat.sub_self]
    rfl
  · rw [List.nil_append, Nat.zero_add, List.getD, List.getElem?_append_right (by omega), show y.length + 1 - y.length = 1 by omega]
    rfl
noncomputable def Γ (R : B32 → List Int → SV) (hR : R = prvR) (X : B32 → List Int → B80 → B64) (hX : X = vfX) (E : B32 → List Int → B80 → Int) (hE : E = vfE) : Cons Tryd.prog G2 := [awake6_con, prv.con R hR, rpublic_con, vfy.con X hX E hE]
namespace w
def MA (ys : List Int) (n c : Nat) (ty : TypeId) (e : B32) : List (Option SV) := maskL 53 0 [(1, .o (.a (.sld 0 0 0 n c))), (2, .o (.a (.ptr 1 0)))]
def MB1 (ys : List Int) (n c : Nat) (ty : TypeId) (e : B32) (len : Nat) : List (Option SV) := maskL 53 0 [(1, .o (.a (.sld 0 0 0 n c))), (2, .o (.a (.ptr 1 0))), (13, .o (.a (.slg 2 len)))]
def MB2 (ys : List Int) (n c : Nat) (ty : TypeId) (e : B32) (len : Nat) : List (Option SV) := maskL 53 0 [(1, .o (.a (.sld 0 0 0 n c))), (2, .o (.a (.ptr 1 0))), (5, .o (.a (.slg 2 len)))]
def args (ys : List Int) (n c : Nat) (ty : TypeId) (e : B32) : List Blk := [⟨false, ty, .pre .u8 ys⟩] ++ [⟨true, 22, .lit (cB32.row e)⟩]
def memB (ys : List Int) (n c : Nat) (ty : TypeId) (e : B32) (xs : List Int) (lo : Nat) (hi : Option Nat) : List Blk := args ys n c ty e ++ [⟨true, 5, .gro .u8 xs lo hi⟩]
theorem idsA (ys : List Int) (n c : Nat) (ty : TypeId) (e : B32) : idsIn (args ys n c ty e ).length (MA ys n c ty e ) (args ys n c ty e ) = true := by kernel_rfl
theorem idsB1 (ys : List Int) (n c : Nat) (ty : TypeId) (e : B32) (len lo : Nat) (xs : List Int) (hi : Option Nat) : idsIn (memB ys n c ty e xs lo hi).length (MB1 ys n c ty e len) (memB ys n c ty e xs lo hi) = true := by kernel_rfl
theorem idsB2 (ys : List Int) (n c : Nat) (ty : TypeId) (e : B32) (len lo : Nat) (xs : List Int) (hi : Option Nat) : idsIn (memB ys n c ty e xs lo hi).length (MB2 ys n c ty e len) (memB ys n c ty e xs lo hi) = true := by kernel_rfl
theorem s1 (ys : List Int) (n c : Nat) (ty : TypeId) (e : B32) : outX (args ys n c ty e ).length (MA ys n c ty e ) (exec (Γ prvR rfl vfX rfl vfE rfl) tys 100 (cpre 2 body) ⟨startT fn [cB32.enc e, .o (.a (.sld 0 0 0 n c))], [⟨false, ty, .pre .u8 ys⟩], []⟩) = some (.normal, live (MA ys n c ty e ), (MA ys n c ty e ).length, args ys n c ty e , []) := by kernel_rfl
theorem e3 (ys : List Int) (n c : Nat) (ty : TypeId) (e : B32) (g : Nat → SV) : outXL (memB ys n c ty e ([] ++ ((ys.drop 0).take n)) 0 (some 1)).length (MB1 ys n c ty e (0 + n)) (runOps (Γ prvR rfl vfX rfl vfE rfl) tys (opsOf R3).toList ((opsOf R3).toList.take 3) ⟨fill g 0 (MA ys n c ty e ), args ys n c ty e , [(11, [.dyn]), (13, [.dyn])]⟩) = some (live (MB1 ys n c ty e (0 + n)), (MB1 ys n c ty e (0 + n)).length, memB ys n c ty e ([] ++ ((ys.drop 0).take n)) 0 (some 1), [0 + n ≤ ys.length, 0 = 0, 0 + n ≤ 0]) := by kernel_rfl
theorem f3 (ys : List Int) (n c : Nat) (ty : TypeId) (e : B32) (g : Nat → SV) : outNL [0, 1, 3] (MB1 ys n c ty e (0 + n)) (runOps (Γ prvR rfl vfX rfl vfE rfl) tys (opsOf R3).toList ((opsOf R3).toList.take 3) ⟨fill g 0 (MA ys n c ty e ), args ys n c ty e , [(11, [.dyn])]⟩) = some ((live (MB1 ys n c ty e (0 + n))).map (SV.ren (piF [0, 1, 3])), (MB1 ys n c ty e (0 + n)).length, (memB ys n c ty e ([] ++ ((ys.drop 0).take n)) (0 + n) none).map (fun b => some (b.ren (piF [0, 1, 3]))), [0 + n ≤ ys.length, 0 = 0, 1 ≤ 0 + n, Room Tryd.prog 5 (0 + n)]) := by kernel_rfl
theorem i3' (ys : List Int) (n c : Nat) (ty : TypeId) (e : B32) (l : Nat) (us : List Int) (lu : Nat) (g : Nat → SV) : outXL (memB ys n c ty e (us ++ [77, 78]) (l + 2) none).length (MB2 ys n c ty e (l + 2)) (runOps (Γ prvR rfl vfX rfl vfE rfl) tys (opsOf R3).toList (((opsOf R3).toList.drop 3).take 3) ⟨fill g 0 (MB1 ys n c ty e l), memB ys n c ty e us (l + 2) none, []⟩) = some (live (MB2 ys n c ty e (l + 2)), (MB2 ys n c ty e (l + 2)).length, memB ys n c ty e (us ++ [77, 78]) (l + 2) none, [0 + 2 ≤ 2, l = us.length, l + 2 ≤ l + 2]) := by kernel_rfl
theorem g3 (ys : List Int) (n c : Nat) (ty : TypeId) (e : B32) (l : Nat) (us : List Int) (lu : Nat) (g : Nat → SV) : outNL [0, 1, 4] (MB2 ys n c ty e (l + 2)) (runOps (Γ prvR rfl vfX rfl vfE rfl) tys (opsOf R3).toList (((opsOf R3).toList.drop 3).take 3) ⟨fill g 0 (MB1 ys n c ty e l), memB ys n c ty e us lu (some (l + 2)), []⟩) = some ((live (MB2 ys n c ty e (l + 2))).map (SV.ren (piF [0, 1, 4])), (MB2 ys n c ty e (l + 2)).length, (memB ys n c ty e (us ++ [77, 78]) (l + 2) none).map (fun b => some (b.ren (piF [0, 1, 4]))), [0 + 2 ≤ 2, l = us.length, l + 2 ≤ l + 2, Room Tryd.prog 5 (l + 2)]) := by kernel_rfl
noncomputable def fin (R : B32 → List Int → SV) (hR : R = prvR) (X : B32 → List Int → B80 → B64) (hX : X = vfX) (E : B32 → List Int → B80 → Int) (hE : E = vfE) (ys : List Int) (n c : Nat) (ty : TypeId) (e : B32) (len lo : Nat) (xs : List Int) (q : B32) (D : B80) (f : Int) (u : B64) (f' : Int) (g : Nat → SV) : St := outS (Γ R hR X hX E hE) tys 100 T4 ⟨fill g 0 (MB2 ys n c ty e len), memB ys n c ty e xs lo none, [(23, [.s (pairP D f)]), (27, [.s (cB32.enc q)]), (30, [.s (pairO u f')]), (35, [.b true]), (42, [.b true]), (48, [.n ((n + 1 : Nat) : Int)]), (51, [.b true])]⟩
theorem d (R : B32 → List Int → SV) (hR : R = prvR) (X : B32 → List Int → B80 → B64) (hX : X = vfX) (E : B32 → List Int → B80 → Int) (hE : E = vfE) (ys : List Int) (n c : Nat) (ty : TypeId) (e : B32) (len lo : Nat) (xs : List Int) (q : B32) (D : B80) (f : Int) (u : B64) (f' : Int) (g : Nat → SV) : exec (Γ R hR X hX E hE) tys 100 T4 ⟨fill g 0 (MB2 ys n c ty e len), memB ys n c ty e xs lo none, [(23, [.s (pairP D f)]), (27, [.s (cB32.enc q)]), (30, [.s (pairO u f')]), (35, [.b true]), (42, [.b true]), (48, [.n ((n + 1 : Nat) : Int)]), (51, [.b true])]⟩ = some (.ret, ⟨(fin R hR X hX E hE ys n c ty e len lo xs q D f u f' g).tm, (fin R hR X hX E hE ys n c ty e len lo xs q D f u f' g).mem, (fin R hR X hX E hE ys n c ty e len lo xs q D f u f' g).orc⟩, [0 ≤ ((n : Nat) : Int), ((n : Nat) : Int) ≤ (lo : Int), 0 + n ≤ xs.length, n ≤ lo, n ≤ 140737488353900, R e ((xs.drop 0).take n) = pairP D f, cB32.enc (pubV e) = cB32.enc q, 0 + n ≤ xs.length, n ≤ lo, D.Ok, n ≤ 140737488353900, pairO (X q ((xs.drop 0).take n) D) (E q ((xs.drop 0).take n) D) = pairO u f', 0 + n ≤ xs.length, 0 + n ≤ ys.length, ((textOf ((xs.drop 0).take n)).toList == (textOf ((ys.drop 0).take n)).toList) = true, 0 ≤ ((n : Nat) : Int), ((n : Nat) : Int) < (len : Int), 0 + n < xs.length, (xs.getD (0 + n) 0 == 77) = true, IntKind.i64.wrap (((n : Nat) : Int) + 1) = ((n + 1 : Nat) : Int), 0 ≤ ((n + 1 : Nat) : Int), ((n + 1 : Nat) : Int) < (len : Int), 0 + (n + 1) < xs.length, (xs.getD (0 + (n + 1)) 0 == 78) = true]) := by kernel_rfl
theorem res (R : B32 → List Int → SV) (hR : R = prvR) (X : B32 → List Int → B80 → B64) (hX : X = vfX) (E : B32 → List Int → B80 → Int) (hE : E = vfE) (ys : List Int) (n c : Nat) (ty : TypeId) (e : B32) (len lo : Nat) (xs : List Int) (q : B32) (D : B80) (f : Int) (u : B64) (f' : Int) (g : Nat → SV) : eRes tys (fin R hR X hX E hE ys n c ty e len lo xs q D f u f' g).tm (fun k => (fin R hR X hX E hE ys n c ty e len lo xs q D f u f' g).mem[k]?) fn.results.toList = some [.a (bool1 true)] := by kernel_rfl
theorem two (ys : List Int) (n c : Nat) (ty : TypeId) (e : B32) (l : Nat) (us : List Int) (lu : Nat) (hl : l = us.length) (hs : l ≤ 140737488351232) {Post : Ex → List SV → List Blk → Prop} (hp : ∀ g, Post .normal (fill g 0 (MB2 ys n c ty e (l + 2))) (memB ys n c ty e (us ++ [77, 78]) (l + 2) none)) (g : Nat → SV) :
    RunsL Tryd.prog G2 1 (opsOf R3) ((opsOf R3).toList.drop 3) (fill g 0 (MB1 ys n c ty e l)) (memB ys n c ty e us lu none) Post := by
  refine RunsL.room 2 (l + 2) (own := true) (ty := 5) (kd := .u8) (xs := us) (lo := lu) rfl ?_ ?_
  · refine RunsL.of_outX tys_ok 3 (i3' ys n c ty e l us lu g) ⟨by omega, hl, by omega, trivial⟩ (idsB2 ys n c ty e _ _ _ _) rfl fun g => ?_
    rw [nil3]
    exact RunsL.nil (hp g)
  · refine RunsL.of_outN tys_ok 3 _ (g3 ys n c ty e l us lu g) ⟨by omega, hl, by omega, roomU _ (by omega), trivial⟩ (idsB2 ys n c ty e _ _ _ _) rfl fun g => ?_
    rw [nil3]
    exact RunsL.nil (hp g)
theorem one (ys : List Int) (n c : Nat) (ty : TypeId) (e : B32) (hy : ys.length = n) (hn : n ≤ 140737488351232) {Post : Ex → List SV → List Blk → Prop} (hp : ∀ g, Post .normal (fill g 0 (MB2 ys n c ty e (0 + n + 2))) (memB ys n c ty e ([] ++ ((ys.drop 0).take n) ++ [77, 78]) (0 + n + 2) none)) (g : Nat → SV) :
    RunsL Tryd.prog G2 1 (opsOf R3) (opsOf R3).toList (fill g 0 (MA ys n c ty e )) (args ys n c ty e ) Post := by
  by_cases h0 : n = 0
  · refine RunsL.of_outX tys_ok 3 (e3 ys n c ty e g) ⟨by omega, rfl, by omega, trivial⟩ (idsB1 ys n c ty e _ _ _ _) rfl fun g => ?_
    refine RunsL.weak 2 (own := true) (ty := 5) (kd := .u8) (xs := [] ++ ((ys.drop 0).take n)) (lo := 0) (lo' := 0) (hi := some 1) rfl (Nat.le_refl _) ?_
    exact two ys n c ty e (0 + n) ([] ++ ((ys.drop 0).take n)) 0 (by rw [List.nil_append, List.length_take, List.drop_zero]; omega) (by omega) hp g
  · refine RunsL.of_outN tys_ok 3 _ (f3 ys n c ty e g) ⟨by omega, rfl, by omega, roomU _ (by omega), trivial⟩ (idsB1 ys n c ty e _ _ _ _) rfl fun g => ?_
    exact two ys n c ty e (0 + n) ([] ++ ((ys.drop 0).take n)) (0 + n) (by rw [List.nil_append, List.length_take, List.drop_zero]; omega) (by omega) hp g
theorem walk (ys : List Int) (n c : Nat) (ty : TypeId) (e : B32) (hy : ys.length = n) (hn : n ≤ 140737488351232) : RunsF Tryd.prog G2 1 body (startT fn [cB32.enc e, .o (.a (.sld 0 0 0 n c))]) ([⟨false, ty, .pre .u8 ys⟩]) (EndsM tys fn (endsQ (cBool.enc true) .none)) := by
  have k0 := kx (y := ((ys.drop 0).take n)) (n := n) (by rw [List.drop_zero, List.length_take]; omega)
  have l0 := k0.2.1
  refine Runs.of_outXP tys_ok mixed 2 (s1 ys n c ty e ) trivial (idsA ys n c ty e ) rfl fun g => ?_
  rw [suf_eq]
  refine Runs.seq (Runs.region (one ys n c ty e hy hn (fun g => ?_) g))
  obtain ⟨D, f, hD, hk⟩ := prv_ex e ((ys.drop 0).take n)
  obtain ⟨u, f', hV⟩ := vfy_ex (pubV e) ((ys.drop 0).take n) D
  refine Runs.of_exec tys_ok mixed (d prvR rfl vfX rfl vfE rfl ys n c ty e _ _ _ (pubV e) D f u f' g) ?_ (EndsM.ret (res prvR rfl vfX rfl vfE rfl ys n c ty e _ _ _ _ _ _ _ _ g) rfl)
  have q : n ≤ 140737488353900 := by omega
  exact ⟨by omega, by omega, by rw [l0]; omega, by omega, q, by rw [k0.1]; exact hD, rfl, by rw [l0]; omega, by omega, hk, q, by rw [k0.1, ← vfyR_pair]; exact hV, by rw [l0]; omega, by omega, by rw [k0.1]; exact beq_self_eq_true _, by omega, by omega, by rw [l0]; omega, by rw [k0.2.2.1]; rfl, i64n (by omega) (by omega), by omega, by omega, by rw [l0]; omega, by rw [k0.2.2.2]; rfl, trivial⟩
end w
namespace v
def MA (a : Option Addr) (e : B32) : List (Option SV) := maskL 53 0 [(1, .o (.a (.v (.slice a 0 0)))), (2, .o (.a (.ptr 0 0)))]
def MB1 (a : Option Addr) (e : B32) (len : Nat) : List (Option SV) := maskL 53 0 [(1, .o (.a (.v (.slice a 0 0)))), (2, .o (.a (.ptr 0 0))), (13, .o (.a (.slg 1 len)))]
def MB2 (a : Option Addr) (e : B32) (len : Nat) : List (Option SV) := maskL 53 0 [(1, .o (.a (.v (.slice a 0 0)))), (2, .o (.a (.ptr 0 0))), (5, .o (.a (.slg 1 len)))]
def args (a : Option Addr) (e : B32) : List Blk := [] ++ [⟨true, 22, .lit (cB32.row e)⟩]
def memB (a : Option Addr) (e : B32) (xs : List Int) (lo : Nat) (hi : Option Nat) : List Blk := args a e ++ [⟨true, 5, .gro .u8 xs lo hi⟩]
theorem idsA (a : Option Addr) (e : B32) : idsIn (args a e ).length (MA a e ) (args a e ) = true := by kernel_rfl
theorem idsB1 (a : Option Addr) (e : B32) (len lo : Nat) (xs : List Int) (hi : Option Nat) : idsIn (memB a e xs lo hi).length (MB1 a e len) (memB a e xs lo hi) = true := by kernel_rfl
theorem idsB2 (a : Option Addr) (e : B32) (len lo : Nat) (xs : List Int) (hi : Option Nat) : idsIn (memB a e xs lo hi).length (MB2 a e len) (memB a e xs lo hi) = true := by kernel_rfl
theorem s1 (a : Option Addr) (e : B32) : outX (args a e ).length (MA a e ) (exec (Γ prvR rfl vfX rfl vfE rfl) tys 100 (cpre 2 body) ⟨startT fn [cB32.enc e, .o (.a (.v (.slice a 0 0)))], [], []⟩) = some (.normal, live (MA a e ), (MA a e ).length, args a e , []) := by kernel_rfl
theorem e3 (a : Option Addr) (e : B32) (g : Nat → SV) : outXL (memB a e ([] ++ []) 0 (some 1)).length (MB1 a e (0 + 0)) (runOps (Γ prvR rfl vfX rfl vfE rfl) tys (opsOf R3).toList ((opsOf R3).toList.take 3) ⟨fill g 0 (MA a e ), args a e , [(11, [.dyn]), (13, [.dyn])]⟩) = some (live (MB1 a e (0 + 0)), (MB1 a e (0 + 0)).length, memB a e ([] ++ []) 0 (some 1), [0 = 0, 0 + 0 ≤ 0]) := by kernel_rfl
theorem i3' (a : Option Addr) (e : B32) (l : Nat) (us : List Int) (lu : Nat) (g : Nat → SV) : outXL (memB a e (us ++ [77, 78]) (l + 2) none).length (MB2 a e (l + 2)) (runOps (Γ prvR rfl vfX rfl vfE rfl) tys (opsOf R3).toList (((opsOf R3).toList.drop 3).take 3) ⟨fill g 0 (MB1 a e l), memB a e us (l + 2) none, []⟩) = some (live (MB2 a e (l + 2)), (MB2 a e (l + 2)).length, memB a e (us ++ [77, 78]) (l + 2) none, [0 + 2 ≤ 2, l = us.length, l + 2 ≤ l + 2]) := by kernel_rfl
theorem g3 (a : Option Addr) (e : B32) (l : Nat) (us : List Int) (lu : Nat) (g : Nat → SV) : outNL [0, 3] (MB2 a e (l + 2)) (runOps (Γ prvR rfl vfX rfl vfE rfl) tys (opsOf R3).toList (((opsOf R3).toList.drop 3).take 3) ⟨fill g 0 (MB1 a e l), memB a e us lu (some (l + 2)), []⟩) = some ((live (MB2 a e (l + 2))).map (SV.ren (piF [0, 3])), (MB2 a e (l + 2)).length, (memB a e (us ++ [77, 78]) (l + 2) none).map (fun b => some (b.ren (piF [0, 3]))), [0 + 2 ≤ 2, l = us.length, l + 2 ≤ l + 2, Room Tryd.prog 5 (l + 2)]) := by kernel_rfl
noncomputable def fin (R : B32 → List Int → SV) (hR : R = prvR) (X : B32 → List Int → B80 → B64) (hX : X = vfX) (E : B32 → List Int → B80 → Int) (hE : E = vfE) (a : Option Addr) (e : B32) (len lo : Nat) (xs : List Int) (q : B32) (D : B80) (f : Int) (u : B64) (f' : Int) (g : Nat → SV) : St := outS (Γ R hR X hX E hE) tys 100 T4 ⟨fill g 0 (MB2 a e len), memB a e xs lo none, [(23, [.s (pairP D f)]), (27, [.s (cB32.enc q)]), (30, [.s (pairO u f')]), (35, [.b true]), (42, [.b true]), (48, [.n ((0 + 1 : Nat) : Int)]), (51, [.b true])]⟩
theorem d (R : B32 → List Int → SV) (hR : R = prvR) (X : B32 → List Int → B80 → B64) (hX : X = vfX) (E : B32 → List Int → B80 → Int) (hE : E = vfE) (a : Option Addr) (e : B32) (len lo : Nat) (xs : List Int) (q : B32) (D : B80) (f : Int) (u : B64) (f' : Int) (g : Nat → SV) : exec (Γ R hR X hX E hE) tys 100 T4 ⟨fill g 0 (MB2 a e len), memB a e xs lo none, [(23, [.s (pairP D f)]), (27, [.s (cB32.enc q)]), (30, [.s (pairO u f')]), (35, [.b true]), (42, [.b true]), (48, [.n ((0 + 1 : Nat) : Int)]), (51, [.b true])]⟩ = some (.ret, ⟨(fin R hR X hX E hE a e len lo xs q D f u f' g).tm, (fin R hR X hX E hE a e len lo xs q D f u f' g).mem, (fin R hR X hX E hE a e len lo xs q D f u f' g).orc⟩, [0 ≤ ((0 : Nat) : Int), ((0 : Nat) : Int) ≤ (lo : Int), 0 + 0 ≤ xs.length, 0 ≤ lo, 0 ≤ 140737488353900, R e ((xs.drop 0).take 0) = pairP D f, cB32.enc (pubV e) = cB32.enc q, 0 + 0 ≤ xs.length, 0 ≤ lo, D.Ok, 0 ≤ 140737488353900, pairO (X q ((xs.drop 0).take 0) D) (E q ((xs.drop 0).take 0) D) = pairO u f', 0 + 0 ≤ xs.length, ((textOf ((xs.drop 0).take 0)).toList == (textOf []).toList) = true, 0 ≤ ((0 : Nat) : Int), ((0 : Nat) : Int) < (len : Int), 0 + 0 < xs.length, (xs.getD (0 + 0) 0 == 77) = true, IntKind.i64.wrap (((0 : Nat) : Int) + 1) = ((0 + 1 : Nat) : Int), 0 ≤ ((0 + 1 : Nat) : Int), ((0 + 1 : Nat) : Int) < (len : Int), 0 + (0 + 1) < xs.length, (xs.getD (0 + (0 + 1)) 0 == 78) = true]) := by kernel_rfl
theorem res (R : B32 → List Int → SV) (hR : R = prvR) (X : B32 → List Int → B80 → B64) (hX : X = vfX) (E : B32 → List Int → B80 → Int) (hE : E = vfE) (a : Option Addr) (e : B32) (len lo : Nat) (xs : List Int) (q : B32) (D : B80) (f : Int) (u : B64) (f' : Int) (g : Nat → SV) : eRes tys (fin R hR X hX E hE a e len lo xs q D f u f' g).tm (fun k => (fin R hR X hX E hE a e len lo xs q D f u f' g).mem[k]?) fn.results.toList = some [.a (bool1 true)] := by kernel_rfl
theorem two (a : Option Addr) (e : B32) (l : Nat) (us : List Int) (lu : Nat) (hl : l = us.length) (hs : l ≤ 140737488351232) {Post : Ex → List SV → List Blk → Prop} (hp : ∀ g, Post .normal (fill g 0 (MB2 a e (l + 2))) (memB a e (us ++ [77, 78]) (l + 2) none)) (g : Nat → SV) :
    RunsL Tryd.prog G2 0 (opsOf R3) ((opsOf R3).toList.drop 3) (fill g 0 (MB1 a e l)) (memB a e us lu none) Post := by
  refine RunsL.room 1 (l + 2) (own := true) (ty := 5) (kd := .u8) (xs := us) (lo := lu) rfl ?_ ?_
  · refine RunsL.of_outX tys_ok 3 (i3' a e l us lu g) ⟨by omega, hl, by omega, trivial⟩ (idsB2 a e _ _ _ _) rfl fun g => ?_
    rw [nil3]
    exact RunsL.nil (hp g)
  · refine RunsL.of_outN tys_ok 3 _ (g3 a e l us lu g) ⟨by omega, hl, by omega, roomU _ (by omega), trivial⟩ (idsB2 a e _ _ _ _) rfl fun g => ?_
    rw [nil3]
    exact RunsL.nil (hp g)
theorem one (a : Option Addr) (e : B32) {Post : Ex → List SV → List Blk → Prop} (hp : ∀ g, Post .normal (fill g 0 (MB2 a e (0 + 0 + 2))) (memB a e ([] ++ [] ++ [77, 78]) (0 + 0 + 2) none)) (g : Nat → SV) :
    RunsL Tryd.prog G2 0 (opsOf R3) (opsOf R3).toList (fill g 0 (MA a e )) (args a e ) Post := by
  refine RunsL.of_outX tys_ok 3 (e3 a e g) ⟨rfl, by omega, trivial⟩ (idsB1 a e _ _ _ _) rfl fun g => ?_
  refine RunsL.weak 1 (own := true) (ty := 5) (kd := .u8) (xs := [] ++ []) (lo := 0) (lo' := 0) (hi := some 1) rfl (Nat.le_refl _) ?_
  exact two a e (0 + 0) ([] ++ []) 0 (rfl) (by omega) hp g
theorem walk (a : Option Addr) (e : B32) : RunsF Tryd.prog G2 0 body (startT fn [cB32.enc e, .o (.a (.v (.slice a 0 0)))]) ([]) (EndsM tys fn (endsQ (cBool.enc true) .none)) := by
  have k0 := kx (y := []) (n := 0) (rfl)
  have l0 := k0.2.1
  refine Runs.of_outXP tys_ok mixed 2 (s1 a e ) trivial (idsA a e ) rfl fun g => ?_
  rw [suf_eq]
  refine Runs.seq (Runs.region (one a e (fun g => ?_) g))
  obtain ⟨D, f, hD, hk⟩ := prv_ex e []
  obtain ⟨u, f', hV⟩ := vfy_ex (pubV e) [] D
  refine Runs.of_exec tys_ok mixed (d prvR rfl vfX rfl vfE rfl a e _ _ _ (pubV e) D f u f' g) ?_ (EndsM.ret (res prvR rfl vfX rfl vfE rfl a e _ _ _ _ _ _ _ _ g) rfl)
  have q : 0 ≤ 140737488353900 := by omega
  exact ⟨by omega, by omega, by rw [l0]; omega, by omega, q, by rw [k0.1]; exact hD, rfl, by rw [l0]; omega, by omega, hk, q, by rw [k0.1, ← vfyR_pair]; exact hV, by rw [l0]; omega, by rw [k0.1]; exact beq_self_eq_true _, by omega, by omega, by rw [l0]; omega, by rw [k0.2.2.1]; rfl, i64n (by omega) (by omega), by omega, by omega, by rw [l0]; omega, by rw [k0.2.2.2]; rfl, trivial⟩
end v
end lvke
theorem vke_ok (b : B32) (x0 : SArg) (W : World) (hb : BOk b) (h0 : x0.ok .u8 W) (b0 : x0.ints.length ≤ 140737488351232) (hg : GlobOk G2 W) :
    Calls Tryd.prog 8 #[(cB32.enc b).den lam0, x0.val] W fun e W' => e = .returned (.bool true) ∧ Below W.heap.size W W' := by
  refine law_mix tys_ok Tryd.func8 (c := lvke.body) (by kernel_rfl) hg .u8 [cB32.enc b] [x0] [] (fun v hv => by simp only [List.mem_cons, List.not_mem_nil, or_false] at hv; rw [hv]; exact cB32.ids _) (fun v hv => by cases hv) (fun y hy => by simp only [List.mem_cons, List.not_mem_nil, or_false] at hy; rcases hy with rfl; assumption) (r := cBool.enc true) rfl fun hi => ?_
  cases x0 with
  | none a0 => exact lvke.v.walk a0 b
  | win y0 n0 c0 ty0 L0 => exact lvke.w.walk y0 n0 _ ty0 b hi.1.1 (by have := hi.1.1; have b : y0.length ≤ 140737488351232 := b0; omega)
end Go.Proofs.YthbhmmndggkmaaaDoor

/- The law LabelValues: walked. -/
import Derived.Test.YthlmepolmemejaaDoorDDvC
import Derived.Test.YthlmepolmemejaaDoorDLInp
namespace Go.Proofs.YthlmepolmemejaaDoor
open Go Go.Eng Go.RowKit
set_option linter.unusedVariables false
set_option linter.unusedSimpArgs false
set_option maxRecDepth 100000
def d77 : B32 := ⟨77, 0, 0, 0, 0, 0, 0, 0, 0, 0, 0, 0, 0, 0, 0, 0, 0, 0, 0, 0, 0, 0, 0, 0, 0, 0, 0, 0, 0, 0, 0, 0⟩
theorem eqL_refl (a : List Int) : eqL a a = true := (eqL_iff a a).2 rfl
theorem one_bv (b : B32) : ∀ v ∈ bvals b, v.oneCell' = true := fun v hv => by
  obtain ⟨x, _, rfl⟩ := List.mem_map.1 hv
  rfl
theorem roomV32 (n : Nat) (h : n ≤ 4398046511000) : Room Tryd.prog 24 n := by
  have h1 : (Tryd.prog.info? 24).map (·.bytes) = some 32 := by kernel_rfl
  cases hq : Tryd.prog.info? 24 with
  | none => rw [hq] at h1; cases h1
  | some j =>
    rw [hq] at h1
    have : j.bytes = 32 := by simpa using h1
    exact ⟨j, hq, by rw [this]; omega, by omega⟩
theorem ld_in (l : List B32) (z : B32) {i : Nat} (hi : i < l.length) : 0 + offI 0 (i : Int) 32 + 32 ≤ (wvals (l ++ [z])).length ∧ SV.o (.g (takeV (wvals (l ++ [z])) (0 + offI 0 (i : Int) 32) 32)) = cB32.enc (l.getD i zB) := by
  obtain ⟨h1, h2⟩ := ld_dev (l ++ [z]) (show i < (l ++ [z]).length by rw [List.length_append]; omega)
  refine ⟨h1, ?_⟩
  rw [h2, List.getD_eq_getElem?_getD, List.getD_eq_getElem?_getD, List.getElem?_append_left hi]
theorem ld_77 (l : List B32) : 0 + offI (offI 0 (l.length : Int) 32) 0 1 < (wvals (l ++ [d77])).length ∧ (wvals (l ++ [d77])).getD (0 + offI (offI 0 (l.length : Int) 32) 0 1) undef = .int .u8 77 := by
  have e : 0 + offI (offI 0 (l.length : Int) 32) 0 1 = l.length * 32 := by
    have := offq l.length
    rw [offI_eq, this]
    omega
  rw [e, wvals_app, List.length_append, wvals_len]
  refine ⟨by rw [wvals_len]; simp, ?_⟩
  rw [List.getD_eq_getElem?_getD, List.getElem?_append_right (by rw [wvals_len]; omega), wvals_len, Nat.sub_self]
  rfl
namespace lvl
noncomputable abbrev fn := Tryd.f3
noncomputable def body : Code := bodyOf fn
noncomputable def R3 : Code := cs1 (csuf 2 body)
noncomputable def i3 : Nat := match R3 with | .region i _ _ => i | _ => 0
noncomputable def C4 : Code := cs1 (csuf 3 body)
noncomputable def C5 : Code := cs1 (csuf 4 body)
noncomputable def A6 : Code := cs1 (cs1 (csuf 5 body))
noncomputable def L : Code := cL (cB (cs2 (cs1 (csuf 5 body))))
noncomputable def D : Code := csuf 6 body
theorem reg3 : R3 = .region i3 (opsOf R3) false := by kernel_rfl
theorem nil3 : ((opsOf R3).toList.drop 3).drop 4 = [] := by kernel_rfl
theorem body2 : csuf 2 body = .seq R3 (.seq C4 (.seq C5 (.seq (.seq A6 (.block 0 (.loop L))) D))) := by kernel_rfl
def MR : List (Option SV) := maskL 67 0 [(2, .o (.a (.v (.bool true))))]
theorem zr (g : Nat → SV) (mm : Nat → Option Blk) : eRes tys (fill g 0 MR) mm fn.results.toList = some [.a (bool1 true)] := by kernel_rfl
noncomputable def Γ0 : Cons Tryd.prog GT := [awk.con]
noncomputable def Γv (V : List B32 → B32 × Int) (hV : V = valV) : Cons Tryd.prog GT := [val.conP V hV, rvl.conP V hV]
noncomputable def Γz (V : List B32 → B32 × Int) (hV : V = valV) : Cons Tryd.prog GT := [val.conZ V hV, rvl.conZ V hV]
noncomputable def Γm (K : B32) (hK : K = shaW (encB [staW])) : Cons Tryd.prog GT := [mrk.con K hK, rmk.con K hK]
namespace w
def m0 (V : List B32 → B32 × Int) (hV : V = valV) (K : B32) (hK : K = shaW (encB [staW])) (l : List B32) (n c : Nat) (ty : TypeId) : List Blk := ([⟨false, ty, .prv (wvals l)⟩] : List Blk)
def M0 (V : List B32 → B32 × Int) (hV : V = valV) (K : B32) (hK : K = shaW (encB [staW])) (l : List B32) (n c : Nat) (ty : TypeId) : List (Option SV) := maskL 67 0 [(0, .o (.a (.sld 0 0 0 n c)))]
theorem i0 (V : List B32 → B32 × Int) (hV : V = valV) (K : B32) (hK : K = shaW (encB [staW])) (l : List B32) (n c : Nat) (ty : TypeId) : idsIn (m0 V hV K hK l n c ty ).length (M0 V hV K hK l n c ty ) (m0 V hV K hK l n c ty ) = true := by kernel_rfl
theorem s0 (V : List B32 → B32 × Int) (hV : V = valV) (K : B32) (hK : K = shaW (encB [staW])) (l : List B32) (n c : Nat) (ty : TypeId) : outN [0] (M0 V hV K hK l n c ty ) (exec Γ0 tys 100 (cpre 2 body) ⟨startT fn [.o (.a (.sld 0 0 0 n c))], m0 V hV K hK l n c ty , []⟩) = some (.normal, (live (M0 V hV K hK l n c ty )).map (SV.ren (piF [0])), (M0 V hV K hK l n c ty ).length, (m0 V hV K hK l n c ty ).map (fun b => some (b.ren (piF [0]))), []) := by kernel_rfl
def m3 (V : List B32 → B32 × Int) (hV : V = valV) (K : B32) (hK : K = shaW (encB [staW])) (l : List B32) (n c : Nat) (ty : TypeId) (us : List Value) (lo : Nat) (hi : Option Nat) : List Blk := [⟨false, ty, .prv (wvals l)⟩, ⟨true, 24, .grv 32 us lo hi⟩]
def M3 (V : List B32 → B32 × Int) (hV : V = valV) (K : B32) (hK : K = shaW (encB [staW])) (l : List B32) (n c : Nat) (ty : TypeId) : List (Option SV) := maskL 67 0 [(0, .o (.a (.sld 0 0 0 n c))), (3, .o (.a (.slg 1 (n + 1))))]
theorem i3 (V : List B32 → B32 × Int) (hV : V = valV) (K : B32) (hK : K = shaW (encB [staW])) (l : List B32) (n c : Nat) (ty : TypeId) (us : List Value) (lo : Nat) (hi : Option Nat) : idsIn (m3 V hV K hK l n c ty (us) (lo) (hi)).length (M3 V hV K hK l n c ty ) (m3 V hV K hK l n c ty (us) (lo) (hi)) = true := by kernel_rfl
def M9 (V : List B32 → B32 × Int) (hV : V = valV) (K : B32) (hK : K = shaW (encB [staW])) (l : List B32) (n c : Nat) (ty : TypeId) : List (Option SV) := maskL 67 0 [(0, .o (.a (.sld 0 0 0 n c))), (13, .o (.a (.slg 1 n)))]
theorem i9 (V : List B32 → B32 × Int) (hV : V = valV) (K : B32) (hK : K = shaW (encB [staW])) (l : List B32) (n c : Nat) (ty : TypeId) (us : List Value) (lo : Nat) (hi : Option Nat) : idsIn (m3 V hV K hK l n c ty (us) (lo) (hi)).length (M9 V hV K hK l n c ty ) (m3 V hV K hK l n c ty (us) (lo) (hi)) = true := by kernel_rfl
theorem a3 (V : List B32 → B32 × Int) (hV : V = valV) (K : B32) (hK : K = shaW (encB [staW])) (l : List B32) (n c : Nat) (ty : TypeId) (g : Nat → SV) : outNL [0, 2] (M9 V hV K hK l n c ty ) (runOps ([] : Cons Tryd.prog GT) tys (opsOf R3).toList (((opsOf R3).toList.drop 0).take 3) ⟨fill g 0 (M0 V hV K hK l n c ty ), m0 V hV K hK l n c ty , []⟩) = some ((live (M9 V hV K hK l n c ty )).map (SV.ren (piF [0, 2])), (M9 V hV K hK l n c ty ).length, (m3 V hV K hK l n c ty (((wvals l).drop (0 + 0)).take (n * 32)) (n) (none)).map (fun b => some (b.ren (piF [0, 2]))), [0 + 0 + n * 32 ≤ (wvals l).length, 0 < n, Room Tryd.prog 24 n]) := by kernel_rfl
theorem g3 (V : List B32 → B32 × Int) (hV : V = valV) (K : B32) (hK : K = shaW (encB [staW])) (l : List B32) (n c : Nat) (ty : TypeId) (us : List Value) (g : Nat → SV) : outNL [0, 1] (M3 V hV K hK l n c ty ) (runOps ([] : Cons Tryd.prog GT) tys (opsOf R3).toList (((opsOf R3).toList.drop 3).take 4) ⟨fill g 0 (M9 V hV K hK l n c ty ), m3 V hV K hK l n c ty (us) (n + 1) (none), [(16, [.dyn])]⟩) = some ((live (M3 V hV K hK l n c ty )).map (SV.ren (piF [0, 1])), (M3 V hV K hK l n c ty ).length, (m3 V hV K hK l n c ty (us ++ bvals d77) (n + 1) (none)).map (fun b => some (b.ren (piF [0, 1]))), [0 + 0 + 1 * 32 ≤ 32, n * 32 = us.length, n + 1 ≤ n + 1, ∀ v ∈ bvals d77, v.oneCell' = true]) := by kernel_rfl
theorem r3 (V : List B32 → B32 × Int) (hV : V = valV) (K : B32) (hK : K = shaW (encB [staW])) (l : List B32) (n c : Nat) (ty : TypeId) (us : List Value) (lo : Nat) (g : Nat → SV) : outNL [0, 3] (M3 V hV K hK l n c ty ) (runOps ([] : Cons Tryd.prog GT) tys (opsOf R3).toList (((opsOf R3).toList.drop 3).take 4) ⟨fill g 0 (M9 V hV K hK l n c ty ), m3 V hV K hK l n c ty (us) (lo) (some (n + 1)), [(16, [.dyn])]⟩) = some ((live (M3 V hV K hK l n c ty )).map (SV.ren (piF [0, 3])), (M3 V hV K hK l n c ty ).length, (m3 V hV K hK l n c ty (us ++ bvals d77) (n + 1) (none)).map (fun b => some (b.ren (piF [0, 3]))), [0 + 0 + 1 * 32 ≤ 32, n * 32 = us.length, n + 1 ≤ n + 1, Room Tryd.prog 24 (n + 1)]) := by kernel_rfl
def m4 (V : List B32 → B32 × Int) (hV : V = valV) (K : B32) (hK : K = shaW (encB [staW])) (l : List B32) (n c : Nat) (ty : TypeId) (us : List Value) (p : B32) (e : Int) : List Blk := [⟨false, ty, .prv (wvals l)⟩, ⟨true, 24, .grv 32 us (n + 1) none⟩, ⟨true, 24, .lit (cB32.row p)⟩]
def m5 (V : List B32 → B32 × Int) (hV : V = valV) (K : B32) (hK : K = shaW (encB [staW])) (l : List B32) (n c : Nat) (ty : TypeId) (us : List Value) (p q : B32) : List Blk := [⟨false, ty, .prv (wvals l)⟩, ⟨true, 24, .grv 32 us (n + 1) none⟩, ⟨true, 24, .lit (cB32.row p)⟩, ⟨true, 24, .lit (cB32.row q)⟩]
def M4 (V : List B32 → B32 × Int) (hV : V = valV) (K : B32) (hK : K = shaW (encB [staW])) (l : List B32) (n c : Nat) (ty : TypeId) (e : Int) : List (Option SV) := maskL 67 0 [(0, .o (.a (.sld 0 0 0 n c))), (3, .o (.a (.slg 1 (n + 1)))), (4, .o (.a (.ptr 2 0))), (5, .o (.a (int1 .i64 e)))]
def M5 (V : List B32 → B32 × Int) (hV : V = valV) (K : B32) (hK : K = shaW (encB [staW])) (l : List B32) (n c : Nat) (ty : TypeId) (e f : Int) : List (Option SV) := maskL 67 0 [(0, .o (.a (.sld 0 0 0 n c))), (3, .o (.a (.slg 1 (n + 1)))), (4, .o (.a (.ptr 2 0))), (5, .o (.a (int1 .i64 e))), (6, .o (.a (.ptr 3 0))), (7, .o (.a (int1 .i64 f)))]
def M6 (V : List B32 → B32 × Int) (hV : V = valV) (K : B32) (hK : K = shaW (encB [staW])) (l : List B32) (n c : Nat) (ty : TypeId) (e f i : Int) : List (Option SV) := maskL 67 0 [(0, .o (.a (.sld 0 0 0 n c))), (3, .o (.a (.slg 1 (n + 1)))), (4, .o (.a (.ptr 2 0))), (5, .o (.a (int1 .i64 e))), (6, .o (.a (.ptr 3 0))), (7, .o (.a (int1 .i64 f))), (31, .o (.a (int1 .i64 n))), (32, .o (.a (int1 .i64 i)))]
theorem i4 (V : List B32 → B32 × Int) (hV : V = valV) (K : B32) (hK : K = shaW (encB [staW])) (l : List B32) (n c : Nat) (ty : TypeId) (us : List Value) (p : B32) (e : Int) : idsIn (m4 V hV K hK l n c ty us p e).length (M4 V hV K hK l n c ty e) (m4 V hV K hK l n c ty us p e) = true := by kernel_rfl
theorem i5 (V : List B32 → B32 × Int) (hV : V = valV) (K : B32) (hK : K = shaW (encB [staW])) (l : List B32) (n c : Nat) (ty : TypeId) (us : List Value) (p q : B32) (e f : Int) : idsIn (m5 V hV K hK l n c ty us p q).length (M5 V hV K hK l n c ty e f) (m5 V hV K hK l n c ty us p q) = true := by kernel_rfl
theorem i6 (V : List B32 → B32 × Int) (hV : V = valV) (K : B32) (hK : K = shaW (encB [staW])) (l : List B32) (n c : Nat) (ty : TypeId) (us : List Value) (p q : B32) (e f i : Int) : idsIn (m5 V hV K hK l n c ty us p q).length (M6 V hV K hK l n c ty e f i) (m5 V hV K hK l n c ty us p q) = true := by kernel_rfl
theorem c4 (V : List B32 → B32 × Int) (hV : V = valV) (K : B32) (hK : K = shaW (encB [staW])) (l : List B32) (n c : Nat) (ty : TypeId) (us : List Value) (g : Nat → SV) : outN [0, 1, 2] (M4 V hV K hK l n c ty (V (bvDec ((us.drop (0 + 0)).take (n * 32)))).2) (exec (Γv V hV) tys 100 C4 ⟨fill g 0 (M3 V hV K hK l n c ty ), m3 V hV K hK l n c ty (us) (n + 1) (none), []⟩) = some (.normal, (live (M4 V hV K hK l n c ty (V (bvDec ((us.drop (0 + 0)).take (n * 32)))).2)).map (SV.ren (piF [0, 1, 2])), (M4 V hV K hK l n c ty (V (bvDec ((us.drop (0 + 0)).take (n * 32)))).2).length, (m4 V hV K hK l n c ty us (V (bvDec ((us.drop (0 + 0)).take (n * 32)))).1 (V (bvDec ((us.drop (0 + 0)).take (n * 32)))).2).map (fun b => some (b.ren (piF [0, 1, 2]))), [(0 : Int) ≤ n, (n : Int) ≤ ((n + 1 : Nat) : Int), 0 + 0 + n * 32 ≤ us.length, n ≤ n + 1, (us.drop (0 + 0)).take (n * 32) = wvals (bvDec ((us.drop (0 + 0)).take (n * 32))), (bvDec ((us.drop (0 + 0)).take (n * 32))).length = n, n ≤ 4398046510976, AllB (bvDec ((us.drop (0 + 0)).take (n * 32))), 0 < n]) := by kernel_rfl
theorem c5 (V : List B32 → B32 × Int) (hV : V = valV) (K : B32) (hK : K = shaW (encB [staW])) (l : List B32) (n c : Nat) (ty : TypeId) (us : List Value) (p : B32) (e : Int) (g : Nat → SV) : outN [0, 1, 2, 3] (M5 V hV K hK l n c ty e (V (bvDec (((wvals l).drop (0 + 0)).take (n * 32)))).2) (exec (Γv V hV) tys 100 C5 ⟨fill g 0 (M4 V hV K hK l n c ty e), m4 V hV K hK l n c ty us p e, []⟩) = some (.normal, (live (M5 V hV K hK l n c ty e (V (bvDec (((wvals l).drop (0 + 0)).take (n * 32)))).2)).map (SV.ren (piF [0, 1, 2, 3])), (M5 V hV K hK l n c ty e (V (bvDec (((wvals l).drop (0 + 0)).take (n * 32)))).2).length, (m5 V hV K hK l n c ty us p (V (bvDec (((wvals l).drop (0 + 0)).take (n * 32)))).1).map (fun b => some (b.ren (piF [0, 1, 2, 3]))), [0 + 0 + n * 32 ≤ (wvals l).length, n ≤ c, ((wvals l).drop (0 + 0)).take (n * 32) = wvals (bvDec (((wvals l).drop (0 + 0)).take (n * 32))), (bvDec (((wvals l).drop (0 + 0)).take (n * 32))).length = n, n ≤ 4398046510976, AllB (bvDec (((wvals l).drop (0 + 0)).take (n * 32))), 0 < n]) := by kernel_rfl
theorem a6 (V : List B32 → B32 × Int) (hV : V = valV) (K : B32) (hK : K = shaW (encB [staW])) (l : List B32) (n c : Nat) (ty : TypeId) (us : List Value) (p q : B32) (e f : Int) (g : Nat → SV) : outX (m5 V hV K hK l n c ty us p q).length (M6 V hV K hK l n c ty e f 0) (exec ([] : Cons Tryd.prog GT) tys 300 A6 ⟨fill g 0 (M5 V hV K hK l n c ty e f), m5 V hV K hK l n c ty us p q, []⟩) = some (.normal, live (M6 V hV K hK l n c ty e f 0), (M6 V hV K hK l n c ty e f 0).length, m5 V hV K hK l n c ty us p q, []) := by kernel_rfl
theorem t (V : List B32 → B32 × Int) (hV : V = valV) (K : B32) (hK : K = shaW (encB [staW])) (l : List B32) (n c : Nat) (ty : TypeId) (us : List Value) (p q : B32) (e f : Int) (i i' : Int) (x y : B32) (g : Nat → SV) : outX (m5 V hV K hK l n c ty us p q).length (M6 V hV K hK l n c ty e f i') (exec ([] : Cons Tryd.prog GT) tys 300 L ⟨fill g 0 (M6 V hV K hK l n c ty e f i), m5 V hV K hK l n c ty us p q, [(33, [.b true]), (38, [.ds (cB32.enc x)]), (42, [.ds (cB32.enc y)]), (43, [.b false]), (44, [.n i'])]⟩) = some (.normal, live (M6 V hV K hK l n c ty e f i'), (M6 V hV K hK l n c ty e f i').length, m5 V hV K hK l n c ty us p q, [decide (i < n) = true, 0 ≤ i, i < ((n + 1 : Nat) : Int), 0 + offI 0 i 32 + 32 ≤ us.length, SV.o (.g (takeV us (0 + offI 0 i 32) 32)) = cB32.enc x, 0 ≤ i, i < n, 0 + offI 0 i 32 + 32 ≤ (wvals l).length, SV.o (.g (takeV (wvals l) (0 + offI 0 i 32) 32)) = cB32.enc y, (!(eqL x.to y.to)) = false, IntKind.i64.wrap (i + 1) = i']) := by kernel_rfl
theorem o (V : List B32 → B32 × Int) (hV : V = valV) (K : B32) (hK : K = shaW (encB [staW])) (l : List B32) (n c : Nat) (ty : TypeId) (us : List Value) (p q : B32) (e f : Int) (i : Int) (g : Nat → SV) : outX (m5 V hV K hK l n c ty us p q).length (M5 V hV K hK l n c ty e f) (exec ([] : Cons Tryd.prog GT) tys 300 L ⟨fill g 0 (M6 V hV K hK l n c ty e f i), m5 V hV K hK l n c ty us p q, [(33, [.b false])]⟩) = some ((.exit 0), live (M5 V hV K hK l n c ty e f), (M5 V hV K hK l n c ty e f).length, m5 V hV K hK l n c ty us p q, [decide (i < n) = false]) := by kernel_rfl
theorem fin (V : List B32 → B32 × Int) (hV : V = valV) (K : B32) (hK : K = shaW (encB [staW])) (l : List B32) (n c : Nat) (ty : TypeId) (us : List Value) (p q : B32) (e f : Int) (g : Nat → SV) : outN [0] (MR) (exec (Γm K hK) tys 100 D ⟨fill g 0 (M5 V hV K hK l n c ty e f), m5 V hV K hK l n c ty us p q, [(47, [.b true]), (51, [.b true]), (59, [.ds (.o (.a (.v (.int .u8 77))))]), (65, [.b true])]⟩) = some (.ret, (live (MR)).map (SV.ren (piF [0])), (MR).length, (m0 V hV K hK l n c ty ).map (fun b => some (b.ren (piF [0]))), [eqL p.to q.to = true, (e == f) = true, 0 ≤ (n : Int), (n : Int) < ((n + 1 : Nat) : Int), (0 : Int) ≤ 0, (0 : Int) < 32, 0 + offI (offI 0 (n : Int) 32) 0 1 < us.length, SV.o (.a (.v (us.getD (0 + offI (offI 0 (n : Int) 32) 0 1) undef))) = .o (.a (.v (.int .u8 77))), eqL K.to K.to = true]) := by kernel_rfl
theorem run (V : List B32 → B32 × Int) (hV : V = valV) (K : B32) (hK : K = shaW (encB [staW])) (l : List B32) (n c : Nat) (ty : TypeId) (hn : l.length = n) (hc : n ≤ c) (hb : n ≤ 4398046510976) (h0 : 0 < n) (hok : AllB l) : RunsF Tryd.prog GT 1 body (startT fn [.o (.a (.sld 0 0 0 n c))]) (m0 V hV K hK l n c ty ) (EndsM tys fn (endsQ (cBool.enc true) .none)) := by
  refine Runs.of_outNP tys_ok mixed 2 [0] (s0 V hV K hK l n c ty) trivial (i0 V hV K hK l n c ty) (by kernel_rfl) fun g => ?_
  rw [body2]
  have rest : ∀ g, RunsF Tryd.prog GT 1 (.seq C4 (.seq C5 (.seq (.seq A6 (.block 0 (.loop L))) D))) (fill g 0 (M3 V hV K hK l n c ty)) (m3 V hV K hK l n c ty (wvals (l ++ [d77])) (n + 1) (none)) (EndsM tys fn (endsQ (cBool.enc true) .none)) := fun g => by
    have hu : (wvals (l ++ [d77])).length = (n + 1) * 32 := by rw [wvals_len, List.length_append, hn]; rfl
    have dU : ((wvals (l ++ [d77])).drop (0 + 0)).take (n * 32) = wvals l := by
      rw [Nat.add_zero, List.drop_zero, wvals_app, List.take_append_of_le_length (by rw [wvals_len, hn]; omega), List.take_of_length_le (by rw [wvals_len, hn]; omega)]
    have hl : (wvals l).length = n * 32 := by rw [wvals_len, hn]
    have dW : ((wvals l).drop (0 + 0)).take (n * 32) = wvals l := by rw [Nat.add_zero, List.drop_zero, List.take_of_length_le (by omega)]
    have q4 := c4 V hV K hK l n c ty (wvals (l ++ [d77])) g
    rw [dU, bvDec_vals] at q4
    refine Runs.seq (Runs.of_outN tys_ok mixed [0, 1, 2] q4 ⟨by omega, by omega, by omega, by omega, rfl, hn, by omega, hok, h0, trivial⟩ (i4 V hV K hK l n c ty _ _ _) (by kernel_rfl) fun g => ?_)
    have q5 := c5 V hV K hK l n c ty (wvals (l ++ [d77])) (V l).1 (V l).2 g
    rw [dW, bvDec_vals] at q5
    refine Runs.seq (Runs.of_outN tys_ok mixed [0, 1, 2, 3] q5 ⟨by omega, hc, rfl, hn, by omega, hok, h0, trivial⟩ (i5 V hV K hK l n c ty _ _ _ _ _) (by kernel_rfl) fun g => ?_)
    refine Runs.seq (Runs.seq (Runs.of_outX tys_ok mixed (a6 V hV K hK l n c ty _ _ _ _ _ g) trivial (i6 V hV K hK l n c ty _ _ _ _ _ 0) rfl fun g => ?_))
    refine Runs.block ?_
    refine Runs.loopX (fun (i : Nat) => M6 V hV K hK l n c ty (V l).2 (V l).2 (i : Int)) (fun _ => m5 V hV K hK l n c ty (wvals (l ++ [d77])) (V l).1 (V l).1) (fun i => i ≤ n) (fun i => n - i) ?_ 0 (Nat.zero_le _) g
    rintro i g hi
    by_cases hin : i = n
    · refine Runs.of_outX tys_ok mixed (o V hV K hK l n c ty _ _ _ _ _ (i : Int) g) ⟨decide_eq_false (by omega), trivial⟩ (i5 V hV K hK l n c ty _ _ _ _ _) rfl fun g => ?_
      show RunsF _ _ _ _ _ _ _
      obtain ⟨h1, h2⟩ := ld_77 l
      rw [hn] at h1 h2
      exact Runs.of_outN tys_ok mixed [0] (fin V hV K hK l n c ty _ _ _ _ _ g) ⟨eqL_refl _, by simp, by omega, by omega, by decide, by decide, h1, by rw [h2], eqL_refl _, trivial⟩ (by kernel_rfl) rfl fun g => EndsM.ret (zr g _) rfl
    · obtain ⟨x1, x2⟩ := ld_in l d77 (show i < l.length by omega)
      obtain ⟨y1, y2⟩ := ld_dev l (show i < l.length by omega)
      exact Runs.of_outX tys_ok mixed (t V hV K hK l n c ty _ _ _ _ _ (i : Int) ((i + 1 : Nat) : Int) _ _ g) ⟨decide_eq_true (by omega), by omega, by omega, x1, x2, by omega, by omega, y1, y2, by rw [eqL_refl]; rfl, wp64 i (by omega), trivial⟩ (i6 V hV K hK l n c ty _ _ _ _ _ _) rfl fun g => ⟨i + 1, g, rfl, rfl, by omega, by omega⟩
  refine Runs.seq ?_
  have hl : (wvals l).length = n * 32 := by rw [wvals_len, hn]
  have dW : ((wvals l).drop (0 + 0)).take (n * 32) = wvals l := by rw [Nat.add_zero, List.drop_zero, List.take_of_length_le (by omega)]
  have eu : wvals l ++ bvals d77 = wvals (l ++ [d77]) := by rw [wvals_app]; simp [wvals]
  rw [reg3]
  refine Runs.region ?_
  have q := a3 V hV K hK l n c ty g
  rw [dW] at q
  refine RunsL.of_outN tys_ok 3 [0, 2] q ⟨by omega, h0, roomV32 _ (by omega), trivial⟩ (i9 V hV K hK l n c ty _ _ _) rfl fun g => ?_
  refine RunsL.roomV 1 (n + 1) (own := true) (ty := 24) (s := 32) (vs := wvals l) (lo := n) rfl ?_ ?_
  · have q := g3 V hV K hK l n c ty (wvals l) g
    rw [eu] at q
    refine RunsL.of_outN tys_ok 4 [0, 1] q ⟨by decide, by omega, Nat.le_refl _, one_bv _, trivial⟩ (i3 V hV K hK l n c ty _ _ _) rfl fun g => ?_
    rw [nil3]
    exact RunsL.nil (rest g)
  · have q := r3 V hV K hK l n c ty (wvals l) n g
    rw [eu] at q
    refine RunsL.of_outN tys_ok 4 [0, 3] q ⟨by decide, by omega, Nat.le_refl _, roomV32 _ (by omega), trivial⟩ (i3 V hV K hK l n c ty _ _ _) rfl fun g => ?_
    rw [nil3]
    exact RunsL.nil (rest g)
end w
namespace z
def m0 (V : List B32 → B32 × Int) (hV : V = valV) (K : B32) (hK : K = shaW (encB [staW])) (c : Nat) (ty : TypeId) : List Blk := ([⟨false, ty, .prv (wvals [])⟩] : List Blk)
def M0 (V : List B32 → B32 × Int) (hV : V = valV) (K : B32) (hK : K = shaW (encB [staW])) (c : Nat) (ty : TypeId) : List (Option SV) := maskL 67 0 [(0, .o (.a (.sld 0 0 0 0 c)))]
theorem i0 (V : List B32 → B32 × Int) (hV : V = valV) (K : B32) (hK : K = shaW (encB [staW])) (c : Nat) (ty : TypeId) : idsIn (m0 V hV K hK c ty ).length (M0 V hV K hK c ty ) (m0 V hV K hK c ty ) = true := by kernel_rfl
theorem s0 (V : List B32 → B32 × Int) (hV : V = valV) (K : B32) (hK : K = shaW (encB [staW])) (c : Nat) (ty : TypeId) : outN [0] (M0 V hV K hK c ty ) (exec Γ0 tys 100 (cpre 2 body) ⟨startT fn [.o (.a (.sld 0 0 0 0 c))], m0 V hV K hK c ty , []⟩) = some (.normal, (live (M0 V hV K hK c ty )).map (SV.ren (piF [0])), (M0 V hV K hK c ty ).length, (m0 V hV K hK c ty ).map (fun b => some (b.ren (piF [0]))), []) := by kernel_rfl
def m3 (V : List B32 → B32 × Int) (hV : V = valV) (K : B32) (hK : K = shaW (encB [staW])) (c : Nat) (ty : TypeId) (us : List Value) (lo : Nat) (hi : Option Nat) : List Blk := [⟨false, ty, .prv (wvals [])⟩, ⟨true, 24, .grv 32 us lo hi⟩]
def M3 (V : List B32 → B32 × Int) (hV : V = valV) (K : B32) (hK : K = shaW (encB [staW])) (c : Nat) (ty : TypeId) : List (Option SV) := maskL 67 0 [(0, .o (.a (.sld 0 0 0 0 c))), (3, .o (.a (.slg 1 1)))]
theorem i3 (V : List B32 → B32 × Int) (hV : V = valV) (K : B32) (hK : K = shaW (encB [staW])) (c : Nat) (ty : TypeId) (us : List Value) (lo : Nat) (hi : Option Nat) : idsIn (m3 V hV K hK c ty (us) (lo) (hi)).length (M3 V hV K hK c ty ) (m3 V hV K hK c ty (us) (lo) (hi)) = true := by kernel_rfl
theorem a3 (V : List B32 → B32 × Int) (hV : V = valV) (K : B32) (hK : K = shaW (encB [staW])) (c : Nat) (ty : TypeId) (g : Nat → SV) : outN [0, 3] (M3 V hV K hK c ty ) (exec ([] : Cons Tryd.prog GT) tys 100 R3 ⟨fill g 0 (M0 V hV K hK c ty ), m0 V hV K hK c ty , [(13, [.dyn])]⟩) = some (.normal, (live (M3 V hV K hK c ty )).map (SV.ren (piF [0, 3])), (M3 V hV K hK c ty ).length, (m3 V hV K hK c ty (bvals d77) (1) (none)).map (fun b => some (b.ren (piF [0, 3]))), [0 + 0 + 0 * 32 ≤ (wvals []).length, 0 = 0, 0 + 0 + 1 * 32 ≤ 32, 0 < 1, Room Tryd.prog 24 1]) := by kernel_rfl
def m4 (V : List B32 → B32 × Int) (hV : V = valV) (K : B32) (hK : K = shaW (encB [staW])) (c : Nat) (ty : TypeId) (us : List Value) (p : B32) (e : Int) : List Blk := [⟨false, ty, .prv (wvals [])⟩, ⟨true, 24, .grv 32 us 1 none⟩, ⟨true, 24, .lit (cB32.row p)⟩]
def m5 (V : List B32 → B32 × Int) (hV : V = valV) (K : B32) (hK : K = shaW (encB [staW])) (c : Nat) (ty : TypeId) (us : List Value) (p q : B32) : List Blk := [⟨false, ty, .prv (wvals [])⟩, ⟨true, 24, .grv 32 us 1 none⟩, ⟨true, 24, .lit (cB32.row p)⟩, ⟨true, 24, .lit (cB32.row q)⟩]
def M4 (V : List B32 → B32 × Int) (hV : V = valV) (K : B32) (hK : K = shaW (encB [staW])) (c : Nat) (ty : TypeId) (e : Int) : List (Option SV) := maskL 67 0 [(0, .o (.a (.sld 0 0 0 0 c))), (3, .o (.a (.slg 1 1))), (4, .o (.a (.ptr 2 0))), (5, .o (.a (int1 .i64 e)))]
def M5 (V : List B32 → B32 × Int) (hV : V = valV) (K : B32) (hK : K = shaW (encB [staW])) (c : Nat) (ty : TypeId) (e f : Int) : List (Option SV) := maskL 67 0 [(0, .o (.a (.sld 0 0 0 0 c))), (3, .o (.a (.slg 1 1))), (4, .o (.a (.ptr 2 0))), (5, .o (.a (int1 .i64 e))), (6, .o (.a (.ptr 3 0))), (7, .o (.a (int1 .i64 f)))]
def M6 (V : List B32 → B32 × Int) (hV : V = valV) (K : B32) (hK : K = shaW (encB [staW])) (c : Nat) (ty : TypeId) (e f i : Int) : List (Option SV) := maskL 67 0 [(0, .o (.a (.sld 0 0 0 0 c))), (3, .o (.a (.slg 1 1))), (4, .o (.a (.ptr 2 0))), (5, .o (.a (int1 .i64 e))), (6, .o (.a (.ptr 3 0))), (7, .o (.a (int1 .i64 f))), (31, .o (.a (int1 .i64 0))), (32, .o (.a (int1 .i64 i)))]
theorem i4 (V : List B32 → B32 × Int) (hV : V = valV) (K : B32) (hK : K = shaW (encB [staW])) (c : Nat) (ty : TypeId) (us : List Value) (p : B32) (e : Int) : idsIn (m4 V hV K hK c ty us p e).length (M4 V hV K hK c ty e) (m4 V hV K hK c ty us p e) = true := by kernel_rfl
theorem i5 (V : List B32 → B32 × Int) (hV : V = valV) (K : B32) (hK : K = shaW (encB [staW])) (c : Nat) (ty : TypeId) (us : List Value) (p q : B32) (e f : Int) : idsIn (m5 V hV K hK c ty us p q).length (M5 V hV K hK c ty e f) (m5 V hV K hK c ty us p q) = true := by kernel_rfl
theorem i6 (V : List B32 → B32 × Int) (hV : V = valV) (K : B32) (hK : K = shaW (encB [staW])) (c : Nat) (ty : TypeId) (us : List Value) (p q : B32) (e f i : Int) : idsIn (m5 V hV K hK c ty us p q).length (M6 V hV K hK c ty e f i) (m5 V hV K hK c ty us p q) = true := by kernel_rfl
theorem c4 (V : List B32 → B32 × Int) (hV : V = valV) (K : B32) (hK : K = shaW (encB [staW])) (c : Nat) (ty : TypeId) (us : List Value) (g : Nat → SV) : outN [0, 1, 2] (M4 V hV K hK c ty (V []).2) (exec (Γz V hV) tys 100 C4 ⟨fill g 0 (M3 V hV K hK c ty ), m3 V hV K hK c ty (us) (1) (none), []⟩) = some (.normal, (live (M4 V hV K hK c ty (V []).2)).map (SV.ren (piF [0, 1, 2])), (M4 V hV K hK c ty (V []).2).length, (m4 V hV K hK c ty us (V []).1 (V []).2).map (fun b => some (b.ren (piF [0, 1, 2]))), [(0 : Int) ≤ 0, (0 : Int) ≤ 1, 0 + 0 + 0 * 32 ≤ us.length, 0 ≤ 1, (us.drop (0 + 0)).take (0 * 32) = wvals [], 0 = 0]) := by kernel_rfl
theorem c5 (V : List B32 → B32 × Int) (hV : V = valV) (K : B32) (hK : K = shaW (encB [staW])) (c : Nat) (ty : TypeId) (us : List Value) (p : B32) (e : Int) (g : Nat → SV) : outN [0, 1, 2, 3] (M5 V hV K hK c ty e (V []).2) (exec (Γz V hV) tys 100 C5 ⟨fill g 0 (M4 V hV K hK c ty e), m4 V hV K hK c ty us p e, []⟩) = some (.normal, (live (M5 V hV K hK c ty e (V []).2)).map (SV.ren (piF [0, 1, 2, 3])), (M5 V hV K hK c ty e (V []).2).length, (m5 V hV K hK c ty us p (V []).1).map (fun b => some (b.ren (piF [0, 1, 2, 3]))), [0 + 0 + 0 * 32 ≤ (wvals []).length, 0 ≤ c, ((wvals []).drop (0 + 0)).take (0 * 32) = wvals [], 0 = 0]) := by kernel_rfl
theorem a6 (V : List B32 → B32 × Int) (hV : V = valV) (K : B32) (hK : K = shaW (encB [staW])) (c : Nat) (ty : TypeId) (us : List Value) (p q : B32) (e f : Int) (g : Nat → SV) : outX (m5 V hV K hK c ty us p q).length (M6 V hV K hK c ty e f 0) (exec ([] : Cons Tryd.prog GT) tys 300 A6 ⟨fill g 0 (M5 V hV K hK c ty e f), m5 V hV K hK c ty us p q, []⟩) = some (.normal, live (M6 V hV K hK c ty e f 0), (M6 V hV K hK c ty e f 0).length, m5 V hV K hK c ty us p q, []) := by kernel_rfl
theorem o (V : List B32 → B32 × Int) (hV : V = valV) (K : B32) (hK : K = shaW (encB [staW])) (c : Nat) (ty : TypeId) (us : List Value) (p q : B32) (e f : Int) (g : Nat → SV) : outX (m5 V hV K hK c ty us p q).length (M5 V hV K hK c ty e f) (exec ([] : Cons Tryd.prog GT) tys 300 L ⟨fill g 0 (M6 V hV K hK c ty e f 0), m5 V hV K hK c ty us p q, []⟩) = some ((.exit 0), live (M5 V hV K hK c ty e f), (M5 V hV K hK c ty e f).length, m5 V hV K hK c ty us p q, []) := by kernel_rfl
theorem fin (V : List B32 → B32 × Int) (hV : V = valV) (K : B32) (hK : K = shaW (encB [staW])) (c : Nat) (ty : TypeId) (us : List Value) (p q : B32) (e f : Int) (g : Nat → SV) : outN [0] (MR) (exec (Γm K hK) tys 100 D ⟨fill g 0 (M5 V hV K hK c ty e f), m5 V hV K hK c ty us p q, [(47, [.b true]), (51, [.b true]), (59, [.ds (.o (.a (.v (.int .u8 77))))]), (65, [.b true])]⟩) = some (.ret, (live (MR)).map (SV.ren (piF [0])), (MR).length, (m0 V hV K hK c ty ).map (fun b => some (b.ren (piF [0]))), [eqL p.to q.to = true, (e == f) = true, 0 ≤ (0 : Int), (0 : Int) < (1 : Int), (0 : Int) ≤ 0, (0 : Int) < 32, 0 + offI (offI 0 (0 : Int) 32) 0 1 < us.length, SV.o (.a (.v (us.getD (0 + offI (offI 0 (0 : Int) 32) 0 1) undef))) = .o (.a (.v (.int .u8 77))), eqL K.to K.to = true]) := by kernel_rfl
theorem run (V : List B32 → B32 × Int) (hV : V = valV) (K : B32) (hK : K = shaW (encB [staW])) (c : Nat) (ty : TypeId) : RunsF Tryd.prog GT 1 body (startT fn [.o (.a (.sld 0 0 0 0 c))]) (m0 V hV K hK c ty ) (EndsM tys fn (endsQ (cBool.enc true) .none)) := by
  refine Runs.of_outNP tys_ok mixed 2 [0] (s0 V hV K hK c ty) trivial (i0 V hV K hK c ty) (by kernel_rfl) fun g => ?_
  rw [body2]
  have rest : ∀ g, RunsF Tryd.prog GT 1 (.seq C4 (.seq C5 (.seq (.seq A6 (.block 0 (.loop L))) D))) (fill g 0 (M3 V hV K hK c ty)) (m3 V hV K hK c ty (wvals ([] ++ [d77])) (1) (none)) (EndsM tys fn (endsQ (cBool.enc true) .none)) := fun g => by
    have q4 := c4 V hV K hK c ty (wvals ([] ++ [d77])) g
    refine Runs.seq (Runs.of_outN tys_ok mixed [0, 1, 2] q4 ⟨by omega, by omega, by omega, by omega, rfl, rfl, trivial⟩ (i4 V hV K hK c ty _ _ _) (by kernel_rfl) fun g => ?_)
    refine Runs.seq (Runs.of_outN tys_ok mixed [0, 1, 2, 3] (c5 V hV K hK c ty (wvals ([] ++ [d77])) (V []).1 (V []).2 g) ⟨by decide, Nat.zero_le _, rfl, rfl, trivial⟩ (i5 V hV K hK c ty _ _ _ _ _) (by kernel_rfl) fun g => ?_)
    refine Runs.seq (Runs.seq (Runs.of_outX tys_ok mixed (a6 V hV K hK c ty _ _ _ _ _ g) trivial (i6 V hV K hK c ty _ _ _ _ _ 0) rfl fun g => ?_))
    refine Runs.block ?_
    refine Runs.loopX (fun (_ : Unit) => M6 V hV K hK c ty (V []).2 (V []).2 0) (fun _ => m5 V hV K hK c ty (wvals ([] ++ [d77])) (V []).1 (V []).1) (fun _ => True) (fun _ => 0) ?_ () trivial g
    rintro _ g _
    refine Runs.of_outX tys_ok mixed (o V hV K hK c ty _ _ _ _ _ g) trivial (i5 V hV K hK c ty _ _ _ _ _) rfl fun g => ?_
    show RunsF _ _ _ _ _ _ _
    obtain ⟨h1, h2⟩ := ld_77 []
    exact Runs.of_outN tys_ok mixed [0] (fin V hV K hK c ty _ _ _ _ _ g) ⟨eqL_refl _, by simp, by decide, by decide, by decide, by decide, h1, congrArg (fun v => SV.o (SV1.a (Atom.v v))) h2, eqL_refl _, trivial⟩ (by kernel_rfl) rfl fun g => EndsM.ret (zr g _) rfl
  exact Runs.seq (Runs.of_outN tys_ok mixed [0, 3] (a3 V hV K hK c ty g) ⟨by decide, rfl, by decide, by decide, roomV32 1 (by omega), trivial⟩ (i3 V hV K hK c ty _ _ _) (by kernel_rfl) rest)
end z
namespace n
def m0 (V : List B32 → B32 × Int) (hV : V = valV) (K : B32) (hK : K = shaW (encB [staW])) (a : Option Addr) : List Blk := ([] : List Blk)
def M0 (V : List B32 → B32 × Int) (hV : V = valV) (K : B32) (hK : K = shaW (encB [staW])) (a : Option Addr) : List (Option SV) := maskL 67 0 [(0, .o (.a (.v (.slice a 0 0))))]
theorem i0 (V : List B32 → B32 × Int) (hV : V = valV) (K : B32) (hK : K = shaW (encB [staW])) (a : Option Addr) : idsIn (m0 V hV K hK a ).length (M0 V hV K hK a ) (m0 V hV K hK a ) = true := by kernel_rfl
theorem s0 (V : List B32 → B32 × Int) (hV : V = valV) (K : B32) (hK : K = shaW (encB [staW])) (a : Option Addr) : outN [] (M0 V hV K hK a ) (exec Γ0 tys 100 (cpre 2 body) ⟨startT fn [.o (.a (.v (.slice a 0 0)))], m0 V hV K hK a , []⟩) = some (.normal, (live (M0 V hV K hK a )).map (SV.ren (piF [])), (M0 V hV K hK a ).length, (m0 V hV K hK a ).map (fun b => some (b.ren (piF []))), []) := by kernel_rfl
def m3 (V : List B32 → B32 × Int) (hV : V = valV) (K : B32) (hK : K = shaW (encB [staW])) (a : Option Addr) (us : List Value) (lo : Nat) (hi : Option Nat) : List Blk := [⟨true, 24, .grv 32 us lo hi⟩]
def M3 (V : List B32 → B32 × Int) (hV : V = valV) (K : B32) (hK : K = shaW (encB [staW])) (a : Option Addr) : List (Option SV) := maskL 67 0 [(0, .o (.a (.v (.slice a 0 0)))), (3, .o (.a (.slg 0 1)))]
theorem i3 (V : List B32 → B32 × Int) (hV : V = valV) (K : B32) (hK : K = shaW (encB [staW])) (a : Option Addr) (us : List Value) (lo : Nat) (hi : Option Nat) : idsIn (m3 V hV K hK a (us) (lo) (hi)).length (M3 V hV K hK a ) (m3 V hV K hK a (us) (lo) (hi)) = true := by kernel_rfl
theorem a3 (V : List B32 → B32 × Int) (hV : V = valV) (K : B32) (hK : K = shaW (encB [staW])) (a : Option Addr) (g : Nat → SV) : outN [2] (M3 V hV K hK a ) (exec ([] : Cons Tryd.prog GT) tys 100 R3 ⟨fill g 0 (M0 V hV K hK a ), m0 V hV K hK a , [(13, [.dyn])]⟩) = some (.normal, (live (M3 V hV K hK a )).map (SV.ren (piF [2])), (M3 V hV K hK a ).length, (m3 V hV K hK a (bvals d77) (1) (none)).map (fun b => some (b.ren (piF [2]))), [0 = 0, 0 + 0 + 1 * 32 ≤ 32, 0 < 1, Room Tryd.prog 24 1]) := by kernel_rfl
def m4 (V : List B32 → B32 × Int) (hV : V = valV) (K : B32) (hK : K = shaW (encB [staW])) (a : Option Addr) (us : List Value) (p : B32) (e : Int) : List Blk := [⟨true, 24, .grv 32 us 1 none⟩, ⟨true, 24, .lit (cB32.row p)⟩]
def m5 (V : List B32 → B32 × Int) (hV : V = valV) (K : B32) (hK : K = shaW (encB [staW])) (a : Option Addr) (us : List Value) (p q : B32) : List Blk := [⟨true, 24, .grv 32 us 1 none⟩, ⟨true, 24, .lit (cB32.row p)⟩, ⟨true, 24, .lit (cB32.row q)⟩]
def M4 (V : List B32 → B32 × Int) (hV : V = valV) (K : B32) (hK : K = shaW (encB [staW])) (a : Option Addr) (e : Int) : List (Option SV) := maskL 67 0 [(0, .o (.a (.v (.slice a 0 0)))), (3, .o (.a (.slg 0 1))), (4, .o (.a (.ptr 1 0))), (5, .o (.a (int1 .i64 e)))]
def M5 (V : List B32 → B32 × Int) (hV : V = valV) (K : B32) (hK : K = shaW (encB [staW])) (a : Option Addr) (e f : Int) : List (Option SV) := maskL 67 0 [(0, .o (.a (.v (.slice a 0 0)))), (3, .o (.a (.slg 0 1))), (4, .o (.a (.ptr 1 0))), (5, .o (.a (int1 .i64 e))), (6, .o (.a (.ptr 2 0))), (7, .o (.a (int1 .i64 f)))]
def M6 (V : List B32 → B32 × Int) (hV : V = valV) (K : B32) (hK : K = shaW (encB [staW])) (a : Option Addr) (e f i : Int) : List (Option SV) := maskL 67 0 [(0, .o (.a (.v (.slice a 0 0)))), (3, .o (.a (.slg 0 1))), (4, .o (.a (.ptr 1 0))), (5, .o (.a (int1 .i64 e))), (6, .o (.a (.ptr 2 0))), (7, .o (.a (int1 .i64 f))), (31, .o (.a (int1 .i64 0))), (32, .o (.a (int1 .i64 i)))]
theorem i4 (V : List B32 → B32 × Int) (hV : V = valV) (K : B32) (hK : K = shaW (encB [staW])) (a : Option Addr) (us : List Value) (p : B32) (e : Int) : idsIn (m4 V hV K hK a us p e).length (M4 V hV K hK a e) (m4 V hV K hK a us p e) = true := by kernel_rfl
theorem i5 (V : List B32 → B32 × Int) (hV : V = valV) (K : B32) (hK : K = shaW (encB [staW])) (a : Option Addr) (us : List Value) (p q : B32) (e f : Int) : idsIn (m5 V hV K hK a us p q).length (M5 V hV K hK a e f) (m5 V hV K hK a us p q) = true := by kernel_rfl
theorem i6 (V : List B32 → B32 × Int) (hV : V = valV) (K : B32) (hK : K = shaW (encB [staW])) (a : Option Addr) (us : List Value) (p q : B32) (e f i : Int) : idsIn (m5 V hV K hK a us p q).length (M6 V hV K hK a e f i) (m5 V hV K hK a us p q) = true := by kernel_rfl
theorem c4 (V : List B32 → B32 × Int) (hV : V = valV) (K : B32) (hK : K = shaW (encB [staW])) (a : Option Addr) (us : List Value) (g : Nat → SV) : outN [0, 1] (M4 V hV K hK a (V []).2) (exec (Γz V hV) tys 100 C4 ⟨fill g 0 (M3 V hV K hK a ), m3 V hV K hK a (us) (1) (none), []⟩) = some (.normal, (live (M4 V hV K hK a (V []).2)).map (SV.ren (piF [0, 1])), (M4 V hV K hK a (V []).2).length, (m4 V hV K hK a us (V []).1 (V []).2).map (fun b => some (b.ren (piF [0, 1]))), [(0 : Int) ≤ 0, (0 : Int) ≤ 1, 0 + 0 + 0 * 32 ≤ us.length, 0 ≤ 1, (us.drop (0 + 0)).take (0 * 32) = wvals [], 0 = 0]) := by kernel_rfl
theorem c5 (V : List B32 → B32 × Int) (hV : V = valV) (K : B32) (hK : K = shaW (encB [staW])) (a : Option Addr) (us : List Value) (p : B32) (e : Int) (g : Nat → SV) : outN [0, 1, 2] (M5 V hV K hK a e (V []).2) (exec (Γz V hV) tys 100 C5 ⟨fill g 0 (M4 V hV K hK a e), m4 V hV K hK a us p e, []⟩) = some (.normal, (live (M5 V hV K hK a e (V []).2)).map (SV.ren (piF [0, 1, 2])), (M5 V hV K hK a e (V []).2).length, (m5 V hV K hK a us p (V []).1).map (fun b => some (b.ren (piF [0, 1, 2]))), []) := by kernel_rfl
theorem a6 (V : List B32 → B32 × Int) (hV : V = valV) (K : B32) (hK : K = shaW (encB [staW])) (a : Option Addr) (us : List Value) (p q : B32) (e f : Int) (g : Nat → SV) : outX (m5 V hV K hK a us p q).length (M6 V hV K hK a e f 0) (exec ([] : Cons Tryd.prog GT) tys 300 A6 ⟨fill g 0 (M5 V hV K hK a e f), m5 V hV K hK a us p q, []⟩) = some (.normal, live (M6 V hV K hK a e f 0), (M6 V hV K hK a e f 0).length, m5 V hV K hK a us p q, []) := by kernel_rfl
theorem o (V : List B32 → B32 × Int) (hV : V = valV) (K : B32) (hK : K = shaW (encB [staW])) (a : Option Addr) (us : List Value) (p q : B32) (e f : Int) (g : Nat → SV) : outX (m5 V hV K hK a us p q).length (M5 V hV K hK a e f) (exec ([] : Cons Tryd.prog GT) tys 300 L ⟨fill g 0 (M6 V hV K hK a e f 0), m5 V hV K hK a us p q, []⟩) = some ((.exit 0), live (M5 V hV K hK a e f), (M5 V hV K hK a e f).length, m5 V hV K hK a us p q, []) := by kernel_rfl
theorem fin (V : List B32 → B32 × Int) (hV : V = valV) (K : B32) (hK : K = shaW (encB [staW])) (a : Option Addr) (us : List Value) (p q : B32) (e f : Int) (g : Nat → SV) : outN [] (MR) (exec (Γm K hK) tys 100 D ⟨fill g 0 (M5 V hV K hK a e f), m5 V hV K hK a us p q, [(47, [.b true]), (51, [.b true]), (59, [.ds (.o (.a (.v (.int .u8 77))))]), (65, [.b true])]⟩) = some (.ret, (live (MR)).map (SV.ren (piF [])), (MR).length, (m0 V hV K hK a ).map (fun b => some (b.ren (piF []))), [eqL p.to q.to = true, (e == f) = true, 0 ≤ (0 : Int), (0 : Int) < (1 : Int), (0 : Int) ≤ 0, (0 : Int) < 32, 0 + offI (offI 0 (0 : Int) 32) 0 1 < us.length, SV.o (.a (.v (us.getD (0 + offI (offI 0 (0 : Int) 32) 0 1) undef))) = .o (.a (.v (.int .u8 77))), eqL K.to K.to = true]) := by kernel_rfl
theorem run (V : List B32 → B32 × Int) (hV : V = valV) (K : B32) (hK : K = shaW (encB [staW])) (a : Option Addr) : RunsF Tryd.prog GT 0 body (startT fn [.o (.a (.v (.slice a 0 0)))]) (m0 V hV K hK a ) (EndsM tys fn (endsQ (cBool.enc true) .none)) := by
  refine Runs.of_outNP tys_ok mixed 2 [] (s0 V hV K hK a) trivial (i0 V hV K hK a) (by kernel_rfl) fun g => ?_
  rw [body2]
  have rest : ∀ g, RunsF Tryd.prog GT 0 (.seq C4 (.seq C5 (.seq (.seq A6 (.block 0 (.loop L))) D))) (fill g 0 (M3 V hV K hK a)) (m3 V hV K hK a (wvals ([] ++ [d77])) (1) (none)) (EndsM tys fn (endsQ (cBool.enc true) .none)) := fun g => by
    have q4 := c4 V hV K hK a (wvals ([] ++ [d77])) g
    refine Runs.seq (Runs.of_outN tys_ok mixed [0, 1] q4 ⟨by omega, by omega, by omega, by omega, rfl, rfl, trivial⟩ (i4 V hV K hK a _ _ _) (by kernel_rfl) fun g => ?_)
    refine Runs.seq (Runs.of_outN tys_ok mixed [0, 1, 2] (c5 V hV K hK a (wvals ([] ++ [d77])) (V []).1 (V []).2 g) trivial (i5 V hV K hK a _ _ _ _ _) (by kernel_rfl) fun g => ?_)
    refine Runs.seq (Runs.seq (Runs.of_outX tys_ok mixed (a6 V hV K hK a _ _ _ _ _ g) trivial (i6 V hV K hK a _ _ _ _ _ 0) rfl fun g => ?_))
    refine Runs.block ?_
    refine Runs.loopX (fun (_ : Unit) => M6 V hV K hK a (V []).2 (V []).2 0) (fun _ => m5 V hV K hK a (wvals ([] ++ [d77])) (V []).1 (V []).1) (fun _ => True) (fun _ => 0) ?_ () trivial g
    rintro _ g _
    refine Runs.of_outX tys_ok mixed (o V hV K hK a _ _ _ _ _ g) trivial (i5 V hV K hK a _ _ _ _ _) rfl fun g => ?_
    show RunsF _ _ _ _ _ _ _
    obtain ⟨h1, h2⟩ := ld_77 []
    exact Runs.of_outN tys_ok mixed [] (fin V hV K hK a _ _ _ _ _ g) ⟨eqL_refl _, by simp, by decide, by decide, by decide, by decide, h1, congrArg (fun v => SV.o (SV1.a (Atom.v v))) h2, eqL_refl _, trivial⟩ (by kernel_rfl) rfl fun g => EndsM.ret (zr g _) rfl
  exact Runs.seq (Runs.of_outN tys_ok mixed [2] (a3 V hV K hK a g) ⟨rfl, by decide, by decide, roomV32 1 (by omega), trivial⟩ (i3 V hV K hK a _ _ _) (by kernel_rfl) rest)
end n
end lvl
end Go.Proofs.YthlmepolmemejaaDoor

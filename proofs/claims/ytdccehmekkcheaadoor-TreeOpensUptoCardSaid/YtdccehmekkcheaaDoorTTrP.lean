/- Packages tree, sort, beaconref11: halves of nodes: walk facts. -/
import Derived.Test.YtdccehmekkcheaaDoorTTrN
namespace Go.Proofs.YtdccehmekkcheaaDoor
open Go Go.Eng Go.RowKit
set_option linter.unusedVariables false
set_option linter.unusedSimpArgs false
set_option maxRecDepth 100000
structure MonoB (l : List Nd) (v k : Nat) : Prop where
  le : k ≤ l.length
  no : ∀ i, i < k → bitV (l.getD i zn).pre v = false
  yes : ∀ i, k ≤ i → i < l.length → bitV (l.getD i zn).pre v = true
def cloSpec (i : Int) (x : CloA) : Option (SV × Cst) := some (cBool.enc (bitV ((ndDec x.ys).getD i.toNat zn).pre x.v.toNat), [x.ys = nvals (ndDec x.ys), (ndDec x.ys).length = x.n, 0 ≤ i, i < x.n, 0 ≤ x.v, x.v < 256, AllOk (ndDec x.ys)])
def seaSpec (N : Int) (x : CloA) : Option (SV × Cst) := some ((cInt .i64).enc (splK (ndDec x.ys) x.v.toNat : Nat), [x.ys = nvals (ndDec x.ys), (ndDec x.ys).length = x.n, N = x.n, x.n < boundN, 0 ≤ x.v, x.v < 256, AllOk (ndDec x.ys), MonoB (ndDec x.ys) x.v.toNat (splK (ndDec x.ys) x.v.toNat)])
namespace clo
noncomputable abbrev fn := Tryd.f92
noncomputable def body : Code := bodyOf fn
noncomputable def Γ : Cons Tryd.prog GT := [tbit.con]
def M (l : List Nd) (n c : Nat) (v : Int) (t0 t1 ty : TypeId) (r : Bool) : List (Option SV) := maskL 12 0 [(4, .o (.a (bool1 r)))]
def mem (l : List Nd) (n c : Nat) (v : Int) (t0 t1 ty : TypeId) : List Blk := cloB ⟨nvals l, n, c, v⟩ t0 t1 ty
theorem ids (l : List Nd) (n c : Nat) (v : Int) (t0 t1 ty : TypeId) (r : Bool) : idsIn (mem l n c v t0 t1 ty ).length (M l n c v t0 t1 ty r) (mem l n c v t0 t1 ty ) = true := by kernel_rfl
theorem s (l : List Nd) (n c : Nat) (v : Int) (t0 t1 ty : TypeId) (i : Int) (x : B32) (r : Bool) : outX (mem l n c v t0 t1 ty ).length (M l n c v t0 t1 ty r) (exec Γ tys 300 body ⟨startT fn [.o (.a (int1 .i64 i)), .o (.a (.ptr 0 0)), .o (.a (.ptr 1 0))], mem l n c v t0 t1 ty , [(9, [.ds (cB32.enc x)]), (11, [.s (cBool.enc r)])]⟩) = some (.ret, live (M l n c v t0 t1 ty r), (M l n c v t0 t1 ty r).length, mem l n c v t0 t1 ty , [0 ≤ i, i < n, 0 + (offI 0 i 65 + 1) + 32 ≤ (nvals l).length, SV.o (.g (takeV (nvals l) (0 + (offI 0 i 65 + 1)) 32)) = cB32.enc x, 0 ≤ v, v < 256, BOk x, cBool.enc (bitV x v.toNat) = cBool.enc r]) := by kernel_rfl
theorem zr (l : List Nd) (n c : Nat) (v : Int) (t0 t1 ty : TypeId) (r : Bool) (g : Nat → SV) : eRes tys (fill g 0 (M l n c v t0 t1 ty r)) (fun k => (mem l n c v t0 t1 ty )[k]?) fn.results.toList = some [.a (bool1 r)] := by kernel_rfl
theorem run (l : List Nd) (n c : Nat) (v i : Int) (t0 t1 ty : TypeId) (hn : l.length = n) (h0 : 0 ≤ i) (h1 : i < n) (v0 : 0 ≤ v) (v1 : v < 256) (hok : AllOk l) :
    RunsF Tryd.prog GT 3 body (startT fn [.o (.a (int1 .i64 i)), .o (.a (.ptr 0 0)), .o (.a (.ptr 1 0))]) (mem l n c v t0 t1 ty) (EndsM tys fn (endsQ (cBool.enc (bitV (l.getD i.toNat zn).pre v.toNat)) .none)) := by
  obtain ⟨k, rfl⟩ := Int.eq_ofNat_of_zero_le h0
  have hk : k < l.length := by omega
  have hl : (nvals l).length = n * 65 := by rw [← hn]; exact nvals_len l
  have hb : k * 65 + 65 ≤ n * 65 := by have := Nat.mul_le_mul_right 65 (show k + 1 ≤ n by omega); omega
  have ho : 0 + (offI 0 (k : Int) 65 + 1) = k * 65 + 1 := by rw [offI_eq]; simp
  have okx := hok.at hk
  exact Runs.of_outX tys_ok mixed (s l n c v t0 t1 ty k (l.getD k zn).pre _) ⟨h0, h1, by rw [ho, hl]; omega, by rw [ho]; exact ld_pre l hk, v0, v1, okx.1, rfl, trivial⟩ (ids _ _ _ _ _ _ _ _) rfl fun g => EndsM.ret (zr _ _ _ _ _ _ _ _ g) rfl
noncomputable def con : Con Tryd.prog GT := Con.clo tys_ok 92 fn Tryd.func92 (by kernel_rfl) (c := body) (by kernel_rfl) 65 CloP.lit cloSpec (fun a x r p h => by cases h; rfl)
  (fun a x t0 t1 ty r p h hp hl => by
    cases h
    obtain ⟨p1, p2, p3, p4, p5, p6, p7, _⟩ := hp
    obtain ⟨ys, n, c, v⟩ := x
    simp only at p1 p2 p3 p4 p5 p6 p7
    have q := run (ndDec ys) n c v a t0 t1 ty p2 p3 p4 p5 p6 p7
    unfold mem at q
    rw [← p1] at q
    exact q)
end clo
namespace sea
noncomputable abbrev fn := Tryd.f91
noncomputable def body : Code := bodyOf fn
noncomputable def D : Code := cs2 (csuf 2 body)
noncomputable def Γ : Cons Tryd.prog GT := [clo.con]
theorem suf_eq : csuf 2 body = .seq (.block 0 (.loop (cL (cB (cs1 (csuf 2 body)))))) D := by kernel_rfl
noncomputable def LB : Code := cL (cB (cs1 (csuf 2 body)))
def M (l : List Nd) (n c : Nat) (v : Int) (t0 t1 ty : TypeId) (i j : Int) : List (Option SV) := maskL 26 0 [(1, .o (.a (.fn 92 [(0, 0), (1, 0)]))), (5, .o (.a (int1 .i64 i))), (6, .o (.a (int1 .i64 j)))]
def MZ (l : List Nd) (n c : Nat) (v : Int) (t0 t1 ty : TypeId) (r : Int) : List (Option SV) := maskL 26 0 [(4, .o (.a (int1 .i64 r)))]
def mem (l : List Nd) (n c : Nat) (v : Int) (t0 t1 ty : TypeId) : List Blk := cloB ⟨nvals l, n, c, v⟩ t0 t1 ty
theorem ids (l : List Nd) (n c : Nat) (v : Int) (t0 t1 ty : TypeId) (i j : Int) : idsIn (mem l n c v t0 t1 ty ).length (M l n c v t0 t1 ty i j) (mem l n c v t0 t1 ty ) = true := by kernel_rfl
theorem idsZ (l : List Nd) (n c : Nat) (v : Int) (t0 t1 ty : TypeId) (r : Int) : idsIn (mem l n c v t0 t1 ty ).length (MZ l n c v t0 t1 ty r) (mem l n c v t0 t1 ty ) = true := by kernel_rfl
theorem s0 (l : List Nd) (n c : Nat) (v : Int) (t0 t1 ty : TypeId) (N : Int) : outX (mem l n c v t0 t1 ty ).length (M l n c v t0 t1 ty 0 N) (exec Γ tys 300 (cpre 2 body) ⟨startT fn [.o (.a (int1 .i64 N)), .o (.a (.fn 92 [(0, 0), (1, 0)]))], mem l n c v t0 t1 ty , []⟩) = some (.normal, live (M l n c v t0 t1 ty 0 N), (M l n c v t0 t1 ty 0 N).length, mem l n c v t0 t1 ty , []) := by kernel_rfl
theorem lo (l : List Nd) (n c : Nat) (v : Int) (t0 t1 ty : TypeId) (i j s h h' : Int) (g : Nat → SV) : outX (mem l n c v t0 t1 ty ).length (M l n c v t0 t1 ty h' j) (exec Γ tys 300 LB ⟨fill g 0 (M l n c v t0 t1 ty i j), mem l n c v t0 t1 ty , [(11, [.b true]), (14, [.n s]), (15, [.n s]), (16, [.n h]), (17, [.n h]), (20, [.s (cBool.enc false)]), (23, [.n h'])]⟩) = some (.normal, live (M l n c v t0 t1 ty h' j), (M l n c v t0 t1 ty h' j).length, mem l n c v t0 t1 ty , [decide (i < j) = true, IntKind.i64.wrap (i + j) = s, IntKind.u64.wrap s = s, s.fdiv (2 ^ 1) = h, IntKind.i64.wrap h = h, 0 + 0 + n * 65 ≤ (nvals l).length, ((nvals l).drop (0 + 0)).take (n * 65) = nvals (ndDec (((nvals l).drop (0 + 0)).take (n * 65))), (ndDec (((nvals l).drop (0 + 0)).take (n * 65))).length = n, 0 ≤ h, h < n, 0 ≤ v, v < 256, AllOk (ndDec (((nvals l).drop (0 + 0)).take (n * 65))), cBool.enc (bitV ((ndDec (((nvals l).drop (0 + 0)).take (n * 65))).getD h.toNat zn).pre v.toNat) = cBool.enc false, IntKind.i64.wrap (h + 1) = h']) := by kernel_rfl
theorem hi (l : List Nd) (n c : Nat) (v : Int) (t0 t1 ty : TypeId) (i j s h : Int) (g : Nat → SV) : outX (mem l n c v t0 t1 ty ).length (M l n c v t0 t1 ty i h) (exec Γ tys 300 LB ⟨fill g 0 (M l n c v t0 t1 ty i j), mem l n c v t0 t1 ty , [(11, [.b true]), (14, [.n s]), (15, [.n s]), (16, [.n h]), (17, [.n h]), (20, [.s (cBool.enc true)])]⟩) = some (.normal, live (M l n c v t0 t1 ty i h), (M l n c v t0 t1 ty i h).length, mem l n c v t0 t1 ty , [decide (i < j) = true, IntKind.i64.wrap (i + j) = s, IntKind.u64.wrap s = s, s.fdiv (2 ^ 1) = h, IntKind.i64.wrap h = h, 0 + 0 + n * 65 ≤ (nvals l).length, ((nvals l).drop (0 + 0)).take (n * 65) = nvals (ndDec (((nvals l).drop (0 + 0)).take (n * 65))), (ndDec (((nvals l).drop (0 + 0)).take (n * 65))).length = n, 0 ≤ h, h < n, 0 ≤ v, v < 256, AllOk (ndDec (((nvals l).drop (0 + 0)).take (n * 65))), cBool.enc (bitV ((ndDec (((nvals l).drop (0 + 0)).take (n * 65))).getD h.toNat zn).pre v.toNat) = cBool.enc true]) := by kernel_rfl
theorem out (l : List Nd) (n c : Nat) (v : Int) (t0 t1 ty : TypeId) (i j : Int) (g : Nat → SV) : outX (mem l n c v t0 t1 ty ).length (M l n c v t0 t1 ty i j) (exec Γ tys 300 LB ⟨fill g 0 (M l n c v t0 t1 ty i j), mem l n c v t0 t1 ty , [(11, [.b false])]⟩) = some ((.exit 0), live (M l n c v t0 t1 ty i j), (M l n c v t0 t1 ty i j).length, mem l n c v t0 t1 ty , [decide (i < j) = false]) := by kernel_rfl
theorem fin (l : List Nd) (n c : Nat) (v : Int) (t0 t1 ty : TypeId) (i j : Int) (g : Nat → SV) : outX (mem l n c v t0 t1 ty ).length (MZ l n c v t0 t1 ty i) (exec Γ tys 300 D ⟨fill g 0 (M l n c v t0 t1 ty i j), mem l n c v t0 t1 ty , []⟩) = some (.ret, live (MZ l n c v t0 t1 ty i), (MZ l n c v t0 t1 ty i).length, mem l n c v t0 t1 ty , []) := by kernel_rfl
theorem zr (l : List Nd) (n c : Nat) (v : Int) (t0 t1 ty : TypeId) (r : Int) (g : Nat → SV) : eRes tys (fill g 0 (MZ l n c v t0 t1 ty r)) (fun k => (mem l n c v t0 t1 ty )[k]?) fn.results.toList = some [.a (int1 .i64 r)] := by kernel_rfl
end sea
end Go.Proofs.YtdccehmekkcheaaDoor

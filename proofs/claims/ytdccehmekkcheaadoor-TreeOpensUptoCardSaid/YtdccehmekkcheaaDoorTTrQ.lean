/- Packages tree, sort, beaconref11: halves of nodes: walks, contracts. -/
import Derived.Test.YtdccehmekkcheaaDoorTTrP
namespace Go.Proofs.YtdccehmekkcheaaDoor
open Go Go.Eng Go.RowKit
set_option linter.unusedVariables false
set_option linter.unusedSimpArgs false
set_option maxRecDepth 100000
theorem dtn {l : List Nd} {n : Nat} (h : l.length = n) : ((nvals l).drop (0 + 0)).take (n * 65) = nvals l := by
  rw [Nat.add_zero, List.drop_zero, List.take_of_length_le (by rw [nvals_len, h]; omega)]
namespace sea
theorem run (l : List Nd) (n c k : Nat) (v : Int) (t0 t1 ty : TypeId) (hn : l.length = n) (hm : n < boundN) (v0 : 0 ≤ v) (v1 : v < 256) (hok : AllOk l) (hk : MonoB l v.toNat k) :
    RunsF Tryd.prog GT 3 body (startT fn [.o (.a (int1 .i64 (n : Int))), .o (.a (.fn 92 [(0, 0), (1, 0)]))]) (mem l n c v t0 t1 ty) (EndsM tys fn (endsQ ((cInt .i64).enc (k : Nat)) .none)) := by
  unfold boundN at hm
  have hl : (nvals l).length = n * 65 := by rw [← hn]; exact nvals_len l
  have hY := dtn hn
  have hk1 := hk.le
  refine Runs.of_outXP tys_ok mixed 2 (s0 l n c v t0 t1 ty n) trivial (ids _ _ _ _ _ _ _ _ _) rfl fun g => ?_
  rw [suf_eq]
  refine Runs.seq (Runs.block ?_)
  refine Runs.loopX (fun (x : Nat × Nat) => M l n c v t0 t1 ty (x.1 : Int) (x.2 : Int)) (fun _ => mem l n c v t0 t1 ty) (fun x => x.1 ≤ k ∧ k ≤ x.2 ∧ x.2 ≤ n) (fun x => x.2 - x.1) ?_ (0, n) ⟨Nat.zero_le _, by omega, Nat.le_refl _⟩ g
  rintro ⟨i, j⟩ g ⟨h1, h2, h3⟩
  simp only at h1 h2 h3
  rcases Nat.lt_or_ge i j with hij | hij
  · have f1 : IntKind.i64.wrap ((i : Int) + (j : Int)) = ((i + j : Nat) : Int) := by rw [IntKind.wrap_i64]; omega
    have f2 : IntKind.u64.wrap ((i + j : Nat) : Int) = ((i + j : Nat) : Int) := by rw [IntKind.wrap_u64]; omega
    have f3 : ((i + j : Nat) : Int).fdiv (2 ^ 1) = (((i + j) / 2 : Nat) : Int) := by rw [Int.fdiv_eq_ediv_of_nonneg _ (by decide)]; omega
    have f4 : IntKind.i64.wrap (((i + j) / 2 : Nat) : Int) = (((i + j) / 2 : Nat) : Int) := by rw [IntKind.wrap_i64]; omega
    have hh : (i + j) / 2 < n := by omega
    have rest : ∀ b, bitV (l.getD ((i + j) / 2) zn).pre v.toNat = b → cBool.enc (bitV ((ndDec (((nvals l).drop (0 + 0)).take (n * 65))).getD (((i + j) / 2 : Nat) : Int).toNat zn).pre v.toNat) = cBool.enc b := fun b hb => by
      rw [hY, ndDec_vals, Int.toNat_natCast, hb]
    have pr : (((nvals l).drop (0 + 0)).take (n * 65)) = nvals (ndDec (((nvals l).drop (0 + 0)).take (n * 65))) ∧ (ndDec (((nvals l).drop (0 + 0)).take (n * 65))).length = n ∧ AllOk (ndDec (((nvals l).drop (0 + 0)).take (n * 65))) := by
      rw [hY, ndDec_vals]; exact ⟨rfl, hn, hok⟩
    cases hb : bitV (l.getD ((i + j) / 2) zn).pre v.toNat with
    | false =>
      have hlt : (i + j) / 2 < k := by
        rcases Nat.lt_or_ge ((i + j) / 2) k with q | q
        · exact q
        · rw [hk.yes _ q (by omega)] at hb; cases hb
      refine Runs.of_outX tys_ok mixed (lo l n c v t0 t1 ty _ _ _ _ (((i + j) / 2 + 1 : Nat) : Int) g) ⟨decide_eq_true (by omega), f1, f2, f3, f4, by omega, pr.1, pr.2.1, by omega, by omega, v0, v1, pr.2.2, rest _ hb, by rw [IntKind.wrap_i64]; omega, trivial⟩ (ids _ _ _ _ _ _ _ _ _) rfl fun g => ?_
      exact ⟨((i + j) / 2 + 1, j), g, rfl, rfl, ⟨by simp only; omega, by simp only; omega, by simp only; omega⟩, by simp only; omega⟩
    | true =>
      have hge : k ≤ (i + j) / 2 := by
        rcases Nat.lt_or_ge ((i + j) / 2) k with q | q
        · rw [hk.no _ q] at hb; cases hb
        · exact q
      refine Runs.of_outX tys_ok mixed (hi l n c v t0 t1 ty _ _ _ _ g) ⟨decide_eq_true (by omega), f1, f2, f3, f4, by omega, pr.1, pr.2.1, by omega, by omega, v0, v1, pr.2.2, rest _ hb, trivial⟩ (ids _ _ _ _ _ _ _ _ _) rfl fun g => ?_
      exact ⟨(i, (i + j) / 2), g, rfl, rfl, ⟨by simp only; omega, by simp only; omega, by simp only; omega⟩, by simp only; omega⟩
  · refine Runs.of_outX tys_ok mixed (out l n c v t0 t1 ty _ _ g) ⟨decide_eq_false (by omega), trivial⟩ (ids _ _ _ _ _ _ _ _ _) rfl fun g => ?_
    show RunsF _ _ _ _ _ _ _
    refine Runs.of_outX tys_ok mixed (fin l n c v t0 t1 ty _ _ g) trivial (idsZ _ _ _ _ _ _ _ _) rfl fun g => EndsM.ret (zr _ _ _ _ _ _ _ _ g) ?_
    rw [show i = k by omega]
    rfl
noncomputable def con : Con Tryd.prog GT := Con.clo tys_ok 91 fn Tryd.func91 (by kernel_rfl) (c := body) (by kernel_rfl) 65 (CloP.fn 92) seaSpec (fun a x r p h => by cases h; rfl)
  (fun a x t0 t1 ty r p h hp hl => by
    cases h
    obtain ⟨p1, p2, p3, p4, p5, p6, p7, p8, _⟩ := hp
    obtain ⟨ys, n, c, v⟩ := x
    simp only at p1 p2 p3 p4 p5 p6 p7 p8
    subst p3
    have q := run (ndDec ys) n c _ v t0 t1 ty p2 p4 p5 p6 p7 p8
    unfold mem at q
    rw [← p1] at q
    exact q)
end sea
namespace spl
noncomputable abbrev fn := Tryd.f79
noncomputable def body : Code := bodyOf fn
noncomputable def Γ : Cons Tryd.prog GT := [tcom.con, sea.con]
def M (l : List Nd) (n c : Nat) (ty : TypeId) (k o : Nat) : List (Option SV) := maskL 29 0 [(2, .o (.a (.sld 0 0 0 k c))), (3, .o (.a (.sld 0 0 o (n - k) (c - k)))), (4, .o (.a (.ptr 2 0)))]
def mem (l : List Nd) (n c : Nat) (ty : TypeId) (v : Int) : List Blk := [⟨false, ty, .prv (nvals l)⟩, ⟨true, 36, .lit [.sld 0 0 0 n c]⟩, ⟨true, 3, .lit [int1 .i64 v]⟩]
theorem ids (l : List Nd) (n c : Nat) (ty : TypeId) (k o : Nat) (v : Int) : idsIn (mem l n c ty v).length (M l n c ty k o) (mem l n c ty v) = true := by kernel_rfl
theorem s (l : List Nd) (n c : Nat) (ty : TypeId) (k o : Nat) (m v : Int) (a b : B32) : outX (mem l n c ty v).length (M l n c ty k o) (exec Γ tys 300 body ⟨startT fn [.o (.a (.sld 0 0 0 n c))], [⟨false, ty, .prv (nvals l)⟩], [(9, [.ds (cB32.enc a)]), (13, [.n m]), (16, [.ds (cB32.enc b)]), (17, [.s (.o (.a (int1 .i64 v)))]), (21, [.s (.o (.a (int1 .i64 (k : Int))))]), (27, [.s (.o (.a (.sld 0 0 o (n - k) (c - k))))])]⟩) = some (.ret, live (M l n c ty k o), (M l n c ty k o).length, mem l n c ty v, [0 ≤ (0 : Int), (0 : Int) < n, 0 + (offI 0 (0 : Int) 65 + 1) + 32 ≤ (nvals l).length, SV.o (.g (takeV (nvals l) (0 + (offI 0 (0 : Int) 65 + 1)) 32)) = cB32.enc a, IntKind.i64.wrap ((n : Int) - 1) = m, 0 ≤ m, m < n, 0 + (offI 0 m 65 + 1) + 32 ≤ (nvals l).length, SV.o (.g (takeV (nvals l) (0 + (offI 0 m 65 + 1)) 32)) = cB32.enc b, BOk a, BOk b, (cInt .i64).enc (comV a b : Nat) = (cInt .i64).enc v, 0 + 0 + n * 65 ≤ (nvals l).length, ((nvals l).drop (0 + 0)).take (n * 65) = nvals (ndDec (((nvals l).drop (0 + 0)).take (n * 65))), (ndDec (((nvals l).drop (0 + 0)).take (n * 65))).length = n, (n : Int) = n, n < boundN, 0 ≤ v, v < 256, AllOk (ndDec (((nvals l).drop (0 + 0)).take (n * 65))), MonoB (ndDec (((nvals l).drop (0 + 0)).take (n * 65))) v.toNat (splK (ndDec (((nvals l).drop (0 + 0)).take (n * 65))) v.toNat), (cInt .i64).enc (splK (ndDec (((nvals l).drop (0 + 0)).take (n * 65))) v.toNat : Nat) = (cInt .i64).enc (k : Int), 0 ≤ (0 : Int), (0 : Int) ≤ k, (k : Int) ≤ c, 0 ≤ (k : Int), (k : Int) ≤ n, (n : Int) ≤ c, SV.o (.a (.sld 0 0 (advS c k 0 65) (n - k) (c - k))) = SV.o (.a (.sld 0 0 o (n - k) (c - k)))]) := by kernel_rfl
theorem zr (l : List Nd) (n c : Nat) (ty : TypeId) (k o : Nat) (v : Int) (g : Nat → SV) : eRes tys (fill g 0 (M l n c ty k o)) (fun k => (mem l n c ty v)[k]?) fn.results.toList = some [.a (.sld 0 0 0 k c), .a (.sld 0 0 o (n - k) (c - k)), .a (int1 .i64 v)] := by kernel_rfl
end spl
namespace hlv
noncomputable abbrev fn := Tryd.f82
noncomputable def body : Code := bodyOf fn
noncomputable def LB : Code := cL (cB (cs1 (csuf 2 body)))
noncomputable def D : Code := cs2 (csuf 2 body)
noncomputable def Γ : Cons Tryd.prog GT := [rbit.con]
theorem suf_eq : csuf 2 body = .seq (.block 0 (.loop LB)) D := by kernel_rfl
def M (l : List Nd) (n c : Nat) (ty : TypeId) (v : Int) (i : Int) : List (Option SV) := maskL 29 0 [(0, .o (.a (.sld 0 0 0 n c))), (1, .o (.a (int1 .i64 v))), (6, .o (.a (int1 .i64 i)))]
def MZ (l : List Nd) (n c : Nat) (ty : TypeId) (v : Int) (k o : Nat) : List (Option SV) := maskL 29 0 [(4, .o (.a (.sld 0 0 0 k c))), (5, .o (.a (.sld 0 0 o (n - k) (c - k))))]
def mem (l : List Nd) (n c : Nat) (ty : TypeId) (v : Int) : List Blk := [⟨false, ty, .prv (nvals l)⟩]
theorem ids (l : List Nd) (n c : Nat) (ty : TypeId) (v : Int) (i : Int) : idsIn (mem l n c ty v ).length (M l n c ty v i) (mem l n c ty v ) = true := by kernel_rfl
theorem idsZ (l : List Nd) (n c : Nat) (ty : TypeId) (v : Int) (k o : Nat) : idsIn (mem l n c ty v ).length (MZ l n c ty v k o) (mem l n c ty v ) = true := by kernel_rfl
theorem s0 (l : List Nd) (n c : Nat) (ty : TypeId) (v : Int) : outX (mem l n c ty v ).length (M l n c ty v 0) (exec Γ tys 300 (cpre 2 body) ⟨startT fn [.o (.a (.sld 0 0 0 n c)), .o (.a (int1 .i64 v))], mem l n c ty v , []⟩) = some (.normal, live (M l n c ty v 0), (M l n c ty v 0).length, mem l n c ty v , []) := by kernel_rfl
theorem stp (l : List Nd) (n c : Nat) (ty : TypeId) (v : Int) (i j y : Int) (x : B32) (g : Nat → SV) : outX (mem l n c ty v ).length (M l n c ty v j) (exec Γ tys 300 LB ⟨fill g 0 (M l n c ty v i), mem l n c ty v , [(10, [.b true]), (16, [.ds (cB32.enc x)]), (18, [.s (.o (.a (int1 .u8 y)))]), (19, [.b true]), (22, [.n j])]⟩) = some (.normal, live (M l n c ty v j), (M l n c ty v j).length, mem l n c ty v , [decide (i < n) = true, 0 ≤ i, i < n, 0 + (offI 0 i 65 + 1) + 32 ≤ (nvals l).length, SV.o (.g (takeV (nvals l) (0 + (offI 0 i 65 + 1)) 32)) = cB32.enc x, 0 ≤ v, v < 256, BOk x, (cInt .u8).enc (bitI x v.toNat) = (cInt .u8).enc y, (y == 0) = true, IntKind.i64.wrap (i + 1) = j]) := by kernel_rfl
theorem hit (l : List Nd) (n c : Nat) (ty : TypeId) (v : Int) (i y : Int) (x : B32) (g : Nat → SV) : outX (mem l n c ty v ).length (M l n c ty v i) (exec Γ tys 300 LB ⟨fill g 0 (M l n c ty v i), mem l n c ty v , [(10, [.b true]), (16, [.ds (cB32.enc x)]), (18, [.s (.o (.a (int1 .u8 y)))]), (19, [.b false])]⟩) = some ((.exit 0), live (M l n c ty v i), (M l n c ty v i).length, mem l n c ty v , [decide (i < n) = true, 0 ≤ i, i < n, 0 + (offI 0 i 65 + 1) + 32 ≤ (nvals l).length, SV.o (.g (takeV (nvals l) (0 + (offI 0 i 65 + 1)) 32)) = cB32.enc x, 0 ≤ v, v < 256, BOk x, (cInt .u8).enc (bitI x v.toNat) = (cInt .u8).enc y, (y == 0) = false]) := by kernel_rfl
theorem fin (l : List Nd) (n c : Nat) (ty : TypeId) (v : Int) (k o : Nat) (g : Nat → SV) : outX (mem l n c ty v ).length (MZ l n c ty v k o) (exec Γ tys 300 D ⟨fill g 0 (M l n c ty v (k : Int)), mem l n c ty v , [(28, [.s (.o (.a (.sld 0 0 o (n - k) (c - k))))])]⟩) = some (.ret, live (MZ l n c ty v k o), (MZ l n c ty v k o).length, mem l n c ty v , [0 ≤ (0 : Int), (0 : Int) ≤ k, (k : Int) ≤ c, 0 ≤ (k : Int), (k : Int) ≤ n, (n : Int) ≤ c, SV.o (.a (.sld 0 0 (advS c k 0 65) (n - k) (c - k))) = SV.o (.a (.sld 0 0 o (n - k) (c - k)))]) := by kernel_rfl
theorem zr (l : List Nd) (n c : Nat) (ty : TypeId) (v : Int) (k o : Nat) (g : Nat → SV) : eRes tys (fill g 0 (MZ l n c ty v k o)) (fun k => (mem l n c ty v )[k]?) fn.results.toList = some [.a (.sld 0 0 0 k c), .a (.sld 0 0 o (n - k) (c - k))] := by kernel_rfl
end hlv
end Go.Proofs.YtdccehmekkcheaaDoor

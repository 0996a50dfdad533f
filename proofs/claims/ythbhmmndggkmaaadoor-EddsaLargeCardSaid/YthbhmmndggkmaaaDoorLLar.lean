/- The law of signatures whose second half is L more: walked; its content. -/
import Derived.Test.YthbhmmndggkmaaaDoorME
import Derived.Test.YthbhmmndggkmaaaDoorEDoor
import Derived.Test.YthbhmmndggkmaaaDoorMV
namespace Go.Proofs.YthbhmmndggkmaaaDoor
open Go Go.Eng Go.RowKit
set_option linter.unusedVariables false
set_option linter.unusedSimpArgs false
set_option maxRecDepth 100000

def lB : B32 := ⟨237, 211, 245, 92, 26, 99, 18, 88, 214, 156, 247, 162, 222, 249, 222, 20, 0, 0, 0, 0, 0, 0, 0, 0, 0, 0, 0, 0, 0, 0, 0, 16⟩
/-- The carries of a sum by bytes, its columns, its bytes. -/
def carC (s : Nat → Int) : Nat → Int
  | 0 => 0
  | i + 1 => (s i + lB.at i + carC s i).fdiv (2 ^ 8)
def colC (s : Nat → Int) (i : Nat) : Int := s i + lB.at i + carC s i
def bytC (s : Nat → Int) (i : Nat) : Int := IntKind.u8.wrap (colC s i)
theorem lB_ok : BOk lB := by
  intro i
  unfold B32.at lB
  split <;> exact ⟨by decide, by decide⟩
theorem car_bd {s : Nat → Int} (hs : ∀ i, 0 ≤ s i ∧ s i < 256) : ∀ i, 0 ≤ carC s i ∧ carC s i ≤ 1
  | 0 => ⟨Int.le_refl 0, show (0 : Int) ≤ 1 by decide⟩
  | i + 1 => by
    have h1 := hs i
    have h2 : 0 ≤ lB.at i ∧ lB.at i < 256 := lB_ok i
    have h3 := car_bd hs i
    rw [carC, Int.fdiv_eq_ediv_of_nonneg _ (by decide)]
    omega
theorem col_w {s : Nat → Int} (hs : ∀ i, 0 ≤ s i ∧ s i < 256) (i : Nat) : IntKind.i64.wrap (IntKind.i64.wrap (IntKind.i64.wrap (s i) + IntKind.i64.wrap (lB.at i)) + carC s i) = colC s i := by
  have h1 := hs i
  have h2 : 0 ≤ lB.at i ∧ lB.at i < 256 := lB_ok i
  have h3 := car_bd hs i
  unfold colC
  rw [i64_small (s i) (by omega) (by omega), i64_small (lB.at i) (by omega) (by omega), i64_small (s i + lB.at i) (by omega) (by omega), i64_small _ (by omega) (by omega)]
theorem byteV_congr {f g : Nat → Int} {s : Nat} : ∀ {m : Nat}, (∀ i, i < m → f (s + i) = g (s + i)) → byteV f s m = byteV g s m
  | 0, _ => rfl
  | m + 1, h => by rw [byteV, byteV, byteV_congr (fun i hi => h i (by omega)), h m (by omega)]
theorem add_low {s : Nat → Int} (hs : ∀ i, 0 ≤ s i ∧ s i < 256) : ∀ k, byteV (bytC s) 0 k + 256 ^ k * (carC s k).toNat = byteV s 0 k + byteV lB.at 0 k
  | 0 => by simp [byteV, carC]
  | k + 1 => by
    have h := add_low hs k
    have h1 := hs k
    have h2 : 0 ≤ lB.at k ∧ lB.at k < 256 := lB_ok k
    have h3 := car_bd hs k
    have e : (bytC s k).toNat + 256 * (carC s (k + 1)).toNat = (s k).toNat + (lB.at k).toNat + (carC s k).toNat := by
      rw [carC, Int.fdiv_eq_ediv_of_nonneg _ (by decide)]
      unfold bytC colC
      rw [IntKind.wrap_u8]
      omega
    rw [byteV, byteV, byteV, Nat.zero_add, Nat.pow_succ]
    generalize (bytC s k).toNat = a at *
    generalize (carC s (k + 1)).toNat = b at *
    generalize (s k).toNat = c at *
    generalize (lB.at k).toNat = d at *
    generalize (carC s k).toNat = f at *
    generalize 256 ^ k = t at *
    generalize byteV (bytC s) 0 k = u at *
    generalize byteV s 0 k = v at *
    generalize byteV lB.at 0 k = w at *
    have e2 : t * (a + 256 * b) = t * (c + d + f) := by rw [e]
    grind
def moreB (s : Nat → Int) : B32 := ⟨bytC s 0, bytC s 1, bytC s 2, bytC s 3, bytC s 4, bytC s 5, bytC s 6, bytC s 7, bytC s 8, bytC s 9, bytC s 10, bytC s 11, bytC s 12, bytC s 13, bytC s 14, bytC s 15, bytC s 16, bytC s 17, bytC s 18, bytC s 19, bytC s 20, bytC s 21, bytC s 22, bytC s 23, bytC s 24, bytC s 25, bytC s 26, bytC s 27, bytC s 28, bytC s 29, bytC s 30, bytC s 31⟩
theorem byt_bd (s : Nat → Int) (i : Nat) : 0 ≤ bytC s i ∧ bytC s i < 256 := by
  unfold bytC
  rw [IntKind.wrap_u8]
  omega
theorem moreB_ok (s : Nat → Int) : BOk (moreB s) := by
  intro i
  unfold moreB B32.at
  split <;> exact byt_bd s _
theorem moreB_at (s : Nat → Int) : ∀ i, i < 32 → (moreB s).at (0 + i) = bytC s (0 + i) := by
  intro i hi
  rw [Nat.zero_add]
  match i, hi with
  | 0, _ => rfl
  | 1, _ => rfl
  | 2, _ => rfl
  | 3, _ => rfl
  | 4, _ => rfl
  | 5, _ => rfl
  | 6, _ => rfl
  | 7, _ => rfl
  | 8, _ => rfl
  | 9, _ => rfl
  | 10, _ => rfl
  | 11, _ => rfl
  | 12, _ => rfl
  | 13, _ => rfl
  | 14, _ => rfl
  | 15, _ => rfl
  | 16, _ => rfl
  | 17, _ => rfl
  | 18, _ => rfl
  | 19, _ => rfl
  | 20, _ => rfl
  | 21, _ => rfl
  | 22, _ => rfl
  | 23, _ => rfl
  | 24, _ => rfl
  | 25, _ => rfl
  | 26, _ => rfl
  | 27, _ => rfl
  | 28, _ => rfl
  | 29, _ => rfl
  | 30, _ => rfl
  | 31, _ => rfl
  | j + 32, h => exact absurd h (by omega)
theorem lB_val : NV lB = ordL := by decide +kernel
theorem moreB_val {b : B32} (hb : BOk b) (h : NV b < ordL) : NV (moreB b.at) = NV b + ordL := by
  have e := add_low (s := b.at) (fun i => hb i) 32
  have e1 : byteV (moreB b.at).at 0 32 = byteV (bytC b.at) 0 32 := byteV_congr (moreB_at b.at)
  rw [← e1, byteSum_all (moreB_ok _), byteSum_all hb, byteSum_all lB_ok, lB_val] at e
  generalize NV (moreB b.at) = x at *
  generalize NV b = y at *
  generalize (carC b.at 32).toNat = c at *
  clear e1
  unfold ordL at *
  omega
namespace llar
noncomputable abbrev fn := Tryd.f5
noncomputable def body : Code := bodyOf fn
noncomputable def Γ (Z : B32 → List Int → B64) (hZ : Z = sigV) (V : B32 → List Int → B64 → Int) (hV : V = verV) : Cons Tryd.prog G2 := [awake_con, public_con, sgn.con Z hZ, ver.con V hV]
noncomputable def T5 : Code := csuf 5 body
noncomputable def A : Code := cs1 (cs1 T5)
noncomputable def L : Code := cL (cB (cs2 (cs1 T5)))
noncomputable def E : Code := cs2 T5
theorem t5_eq : csuf 5 body = .seq (.seq A (.block 0 (.loop L))) E := by kernel_rfl
def updF (x : Nat → Int) (i : Nat) (b : Int) : Nat → Int := fun j => bif Nat.beq j i then b else x j
theorem upd_at (x : Nat → Int) (i : Nat) (b : Int) (j : Nat) : updF x i b j = if j = i then b else x j := by
  unfold updF
  by_cases h : j = i
  · subst h; rw [Nat.beq_refl, cond_true, if_pos rfl]
  · rw [show Nat.beq j i = false by cases e : Nat.beq j i with | false => rfl | true => exact absurd (Nat.eq_of_beq_eq_true e) h, cond_false, if_neg h]
def sigL (D : B64) (x : Nat → Int) : List Atom := [u8 D.b0, u8 D.b1, u8 D.b2, u8 D.b3, u8 D.b4, u8 D.b5, u8 D.b6, u8 D.b7, u8 D.b8, u8 D.b9, u8 D.b10, u8 D.b11, u8 D.b12, u8 D.b13, u8 D.b14, u8 D.b15, u8 D.b16, u8 D.b17, u8 D.b18, u8 D.b19, u8 D.b20, u8 D.b21, u8 D.b22, u8 D.b23, u8 D.b24, u8 D.b25, u8 D.b26, u8 D.b27, u8 D.b28, u8 D.b29, u8 D.b30, u8 D.b31, u8 (x 0), u8 (x 1), u8 (x 2), u8 (x 3), u8 (x 4), u8 (x 5), u8 (x 6), u8 (x 7), u8 (x 8), u8 (x 9), u8 (x 10), u8 (x 11), u8 (x 12), u8 (x 13), u8 (x 14), u8 (x 15), u8 (x 16), u8 (x 17), u8 (x 18), u8 (x 19), u8 (x 20), u8 (x 21), u8 (x 22), u8 (x 23), u8 (x 24), u8 (x 25), u8 (x 26), u8 (x 27), u8 (x 28), u8 (x 29), u8 (x 30), u8 (x 31)]
def sigX (D : B64) (x : Nat → Int) : B64 := ⟨D.b0, D.b1, D.b2, D.b3, D.b4, D.b5, D.b6, D.b7, D.b8, D.b9, D.b10, D.b11, D.b12, D.b13, D.b14, D.b15, D.b16, D.b17, D.b18, D.b19, D.b20, D.b21, D.b22, D.b23, D.b24, D.b25, D.b26, D.b27, D.b28, D.b29, D.b30, D.b31, x 0, x 1, x 2, x 3, x 4, x 5, x 6, x 7, x 8, x 9, x 10, x 11, x 12, x 13, x 14, x 15, x 16, x 17, x 18, x 19, x 20, x 21, x 22, x 23, x 24, x 25, x 26, x 27, x 28, x 29, x 30, x 31⟩
theorem sigX_cat (D : B64) (s : Nat → Int) : sigX D (bytC s) = cat64 (lo64 D) (moreB s) := rfl
theorem sigX_congr (D : B64) {x y : Nat → Int} (h : ∀ j, j < 32 → x j = y j) : sigX D x = sigX D y := by
  unfold sigX
  rw [h 0 (by omega), h 1 (by omega), h 2 (by omega), h 3 (by omega), h 4 (by omega), h 5 (by omega), h 6 (by omega), h 7 (by omega), h 8 (by omega), h 9 (by omega), h 10 (by omega), h 11 (by omega), h 12 (by omega), h 13 (by omega), h 14 (by omega), h 15 (by omega), h 16 (by omega), h 17 (by omega), h 18 (by omega), h 19 (by omega), h 20 (by omega), h 21 (by omega), h 22 (by omega), h 23 (by omega), h 24 (by omega), h 25 (by omega), h 26 (by omega), h 27 (by omega), h 28 (by omega), h 29 (by omega), h 30 (by omega), h 31 (by omega)]
namespace w
def M0 (ys : List Int) (m k : Nat) (ty : TypeId) (e : B32) : List (Option SV) := maskL 45 0 [(1, .o (.a (.sld 0 0 0 m k))), (2, .o (.a (.ptr 1 0))), (5, .o (.a (.ptr 2 0))), (6, .o (.a (.ptr 3 0))), (7, (cInt .i64).enc 0)]
def M1 (ys : List Int) (m k : Nat) (ty : TypeId) (e : B32) (t : Nat) (c : Int) : List (Option SV) := maskL 45 0 [(1, .o (.a (.sld 0 0 0 m k))), (2, .o (.a (.ptr 1 0))), (5, .o (.a (.ptr 2 0))), (6, .o (.a (.ptr 3 0))), (7, (cInt .i64).enc c), (16, (cInt .i64).enc (t : Int))]
def MZ (ys : List Int) (m k : Nat) (ty : TypeId) (e : B32) : List (Option SV) := maskL 45 0 [(1, .o (.a (.sld 0 0 0 m k))), (2, .o (.a (.ptr 1 0))), (5, .o (.a (.ptr 2 0))), (6, .o (.a (.ptr 3 0)))]
def mem (ys : List Int) (m k : Nat) (ty : TypeId) (e : B32) (D : B64) (x : Nat → Int) : List Blk := [⟨false, ty, .pre .u8 ys⟩] ++ [⟨true, 22, .lit (cB32.row e)⟩, ⟨true, 26, .lit (sigL D x)⟩, ⟨true, 22, .lit (cB32.row lB)⟩]
theorem ids0 (ys : List Int) (m k : Nat) (ty : TypeId) (e : B32) (D : B64) (x : Nat → Int) : idsIn (mem ys m k ty e D x).length (M0 ys m k ty e ) (mem ys m k ty e D x) = true := by kernel_rfl
theorem ids1 (ys : List Int) (m k : Nat) (ty : TypeId) (e : B32) (D : B64) (x : Nat → Int) (t : Nat) (c : Int) : idsIn (mem ys m k ty e D x).length (M1 ys m k ty e t c) (mem ys m k ty e D x) = true := by kernel_rfl
theorem idsZ (ys : List Int) (m k : Nat) (ty : TypeId) (e : B32) (D : B64) (x : Nat → Int) : idsIn (mem ys m k ty e D x).length (MZ ys m k ty e ) (mem ys m k ty e D x) = true := by kernel_rfl
theorem s0 (Z : B32 → List Int → B64) (hZ : Z = sigV) (V : B32 → List Int → B64 → Int) (hV : V = verV) (ys : List Int) (m k : Nat) (ty : TypeId) (e : B32) (D : B64) : outX (mem ys m k ty e D (hi64 D).at).length (M0 ys m k ty e ) (exec (Γ Z hZ V hV) tys 100 (cpre 5 body) ⟨startT fn [cB32.enc e, .o (.a (.sld 0 0 0 m k))], [⟨false, ty, .pre .u8 ys⟩], [(14, [.s (cB64.enc D)])]⟩) = some (.normal, live (M0 ys m k ty e ), (M0 ys m k ty e ).length, mem ys m k ty e D (hi64 D).at, [0 + m ≤ ys.length, m ≤ k, m ≤ 140737488353900, cB64.enc (Z e ((ys.drop 0).take m)) = cB64.enc D]) := by kernel_rfl
theorem ini (ys : List Int) (m k : Nat) (ty : TypeId) (e : B32) (D : B64) (x : Nat → Int) (g : Nat → SV) : outX (mem ys m k ty e D x).length (M1 ys m k ty e 0 0) (exec (Γ sigV rfl verV rfl) tys 100 A ⟨fill g 0 (M0 ys m k ty e ), mem ys m k ty e D x, []⟩) = some (.normal, live (M1 ys m k ty e 0 0), (M1 ys m k ty e 0 0).length, mem ys m k ty e D x, []) := by kernel_rfl
theorem step (ys : List Int) (m k : Nat) (ty : TypeId) (e : B32) (D : B64) (x : Nat → Int) (c n b c' : Int) (g : Nat → SV) : ∀ t, t < 32 → outX (mem ys m k ty e D (updF x t b)).length (M1 ys m k ty e (t + 1) c') (exec (Γ sigV rfl verV rfl) tys 100 L ⟨fill g 0 (M1 ys m k ty e t c), mem ys m k ty e D x, [(30, [.n n]), (34, [.n b]), (37, [.n c'])]⟩) = some (.normal, live (M1 ys m k ty e (t + 1) c'), (M1 ys m k ty e (t + 1) c').length, mem ys m k ty e D (updF x t b), [IntKind.i64.wrap (IntKind.i64.wrap (IntKind.i64.wrap (x t) + IntKind.i64.wrap (lB.at t)) + c) = n, IntKind.u8.wrap n = b, n.fdiv (2 ^ 8) = c'])
  | 0, _ => by kernel_rfl
  | 1, _ => by kernel_rfl
  | 2, _ => by kernel_rfl
  | 3, _ => by kernel_rfl
  | 4, _ => by kernel_rfl
  | 5, _ => by kernel_rfl
  | 6, _ => by kernel_rfl
  | 7, _ => by kernel_rfl
  | 8, _ => by kernel_rfl
  | 9, _ => by kernel_rfl
  | 10, _ => by kernel_rfl
  | 11, _ => by kernel_rfl
  | 12, _ => by kernel_rfl
  | 13, _ => by kernel_rfl
  | 14, _ => by kernel_rfl
  | 15, _ => by kernel_rfl
  | 16, _ => by kernel_rfl
  | 17, _ => by kernel_rfl
  | 18, _ => by kernel_rfl
  | 19, _ => by kernel_rfl
  | 20, _ => by kernel_rfl
  | 21, _ => by kernel_rfl
  | 22, _ => by kernel_rfl
  | 23, _ => by kernel_rfl
  | 24, _ => by kernel_rfl
  | 25, _ => by kernel_rfl
  | 26, _ => by kernel_rfl
  | 27, _ => by kernel_rfl
  | 28, _ => by kernel_rfl
  | 29, _ => by kernel_rfl
  | 30, _ => by kernel_rfl
  | 31, _ => by kernel_rfl
  | j + 32, h => absurd h (by omega)
theorem stop (ys : List Int) (m k : Nat) (ty : TypeId) (e : B32) (D : B64) (x : Nat → Int) (c : Int) (g : Nat → SV) : outX (mem ys m k ty e D x).length (MZ ys m k ty e ) (exec (Γ sigV rfl verV rfl) tys 100 L ⟨fill g 0 (M1 ys m k ty e 32 c), mem ys m k ty e D x, []⟩) = some (.exit 0, live (MZ ys m k ty e ), (MZ ys m k ty e ).length, mem ys m k ty e D x, []) := by kernel_rfl
noncomputable def fin (Z : B32 → List Int → B64) (hZ : Z = sigV) (V : B32 → List Int → B64 → Int) (hV : V = verV) (ys : List Int) (m k : Nat) (ty : TypeId) (e : B32) (D : B64) (x : Nat → Int) (p : B32) (g : Nat → SV) : St := outS (Γ Z hZ V hV) tys 100 E ⟨fill g 0 (MZ ys m k ty e ), mem ys m k ty e D x, [(40, [.s (cB32.enc p)]), (43, [.s ((cInt .i64).enc 2)])]⟩
theorem d (Z : B32 → List Int → B64) (hZ : Z = sigV) (V : B32 → List Int → B64 → Int) (hV : V = verV) (ys : List Int) (m k : Nat) (ty : TypeId) (e : B32) (D : B64) (x : Nat → Int) (p : B32) (g : Nat → SV) : exec (Γ Z hZ V hV) tys 100 E ⟨fill g 0 (MZ ys m k ty e ), mem ys m k ty e D x, [(40, [.s (cB32.enc p)]), (43, [.s ((cInt .i64).enc 2)])]⟩ = some (.ret, ⟨(fin Z hZ V hV ys m k ty e D x p g).tm, (fin Z hZ V hV ys m k ty e D x p g).mem, (fin Z hZ V hV ys m k ty e D x p g).orc⟩, [cB32.enc (pubV e) = cB32.enc p, 0 + m ≤ ys.length, m ≤ k, ∀ i, 0 ≤ (hi64 (sigX D x)).at i ∧ (hi64 (sigX D x)).at i < 256, m ≤ 140737488353900, (cInt .i64).enc (V p ((ys.drop 0).take m) (sigX D x)) = (cInt .i64).enc 2]) := by kernel_rfl
theorem res (Z : B32 → List Int → B64) (hZ : Z = sigV) (V : B32 → List Int → B64 → Int) (hV : V = verV) (ys : List Int) (m k : Nat) (ty : TypeId) (e : B32) (D : B64) (x : Nat → Int) (p : B32) (g : Nat → SV) : eRes tys (fin Z hZ V hV ys m k ty e D x p g).tm (fun k => (fin Z hZ V hV ys m k ty e D x p g).mem[k]?) fn.results.toList = some [.a (bool1 true)] := by kernel_rfl
theorem run (ys : List Int) (m k : Nat) (ty : TypeId) (e : B32) (hy : ys.length = m) (hc : m ≤ k) (hn : m ≤ 140737488353900) : RunsF Tryd.prog G2 1 body (startT fn [cB32.enc e, .o (.a (.sld 0 0 0 m k))]) ([⟨false, ty, .pre .u8 ys⟩]) (EndsM tys fn (endsQ (cBool.enc true) .none)) := by
  have e1 := dt0 ys m hy
  have hs := sig_byte e ys
  have hv : verV (pubV e) ys (cat64 (lo64 (sigV e ys)) (moreB (hi64 (sigV e ys)).at)) = 2 := by
    rw [sig_lo, sig_hi]
    exact ver_large e ys _ (moreB_ok _) (moreB_val (end_val e ys).1 (by rw [(end_val e ys).2]; exact Nat.mod_lt _ (by decide)))
  refine Runs.of_outXP tys_ok mixed 5 (s0 sigV rfl verV rfl ys m k ty e (sigV e ys)) ⟨by omega, hc, hn, by rw [e1], trivial⟩ (ids0 ys m k ty e _ _) rfl fun g => ?_
  rw [t5_eq]
  refine Runs.seq (Runs.seq (Runs.of_outX tys_ok mixed (ini ys m k ty e _ _ g) trivial (ids1 ys m k ty e _ _ _ _) rfl fun g => ?_))
  refine Runs.block ?_
  refine Runs.loopX (fun (x : Nat × (Nat → Int)) => M1 ys m k ty e x.1 (carC (hi64 (sigV e ys)).at x.1)) (fun x => mem ys m k ty e (sigV e ys) x.2) (fun x => x.1 ≤ 32 ∧ (∀ j, j < x.1 → x.2 j = bytC (hi64 (sigV e ys)).at j) ∧ ∀ j, x.1 ≤ j → x.2 j = (hi64 (sigV e ys)).at j) (fun x => 32 - x.1) ?_ (0, (hi64 (sigV e ys)).at) ⟨by omega, fun j h => by omega, fun j _ => rfl⟩ g
  rintro ⟨t, x⟩ g ⟨ht, h1, h2⟩
  simp only at ht h1 h2
  rcases Nat.lt_or_ge t 32 with hlt | hge
  · refine Runs.of_outX tys_ok mixed (step ys m k ty e (sigV e ys) x (carC (hi64 (sigV e ys)).at t) (colC (hi64 (sigV e ys)).at t) (bytC (hi64 (sigV e ys)).at t) (carC (hi64 (sigV e ys)).at (t + 1)) g t hlt) ⟨by rw [h2 t (Nat.le_refl _)]; exact col_w hs t, rfl, rfl, trivial⟩ (ids1 ys m k ty e _ _ _ _) rfl fun g' => ⟨(t + 1, updF x t (bytC (hi64 (sigV e ys)).at t)), g', rfl, rfl, ⟨hlt, fun j hj => ?_, fun j hj => ?_⟩, by simp only; omega⟩
    · simp only at hj ⊢
      rw [upd_at]
      split
      · rename_i q; rw [q]
      · exact h1 j (by omega)
    · simp only at hj ⊢
      rw [upd_at, if_neg (by omega)]
      exact h2 j (by omega)
  obtain rfl : t = 32 := by omega
  refine Runs.of_outX tys_ok mixed (stop ys m k ty e (sigV e ys) x _ g) trivial (idsZ ys m k ty e _ _) rfl fun g => ?_
  have ex : sigX (sigV e ys) x = cat64 (lo64 (sigV e ys)) (moreB (hi64 (sigV e ys)).at) := (sigX_congr _ h1).trans (sigX_cat _ _)
  refine Runs.of_exec tys_ok mixed (d sigV rfl verV rfl ys m k ty e (sigV e ys) x (pubV e) g) ?_ (EndsM.ret (res sigV rfl verV rfl ys m k ty e _ _ _ g) rfl)
  rw [ex]
  exact ⟨rfl, by omega, hc, fun i => moreB_ok _ i, hn, by rw [e1, hv], trivial⟩
end w
namespace v
def M0 (a : Option Addr) (e : B32) : List (Option SV) := maskL 45 0 [(1, .o (.a (.v (.slice a 0 0)))), (2, .o (.a (.ptr 0 0))), (5, .o (.a (.ptr 1 0))), (6, .o (.a (.ptr 2 0))), (7, (cInt .i64).enc 0)]
def M1 (a : Option Addr) (e : B32) (t : Nat) (c : Int) : List (Option SV) := maskL 45 0 [(1, .o (.a (.v (.slice a 0 0)))), (2, .o (.a (.ptr 0 0))), (5, .o (.a (.ptr 1 0))), (6, .o (.a (.ptr 2 0))), (7, (cInt .i64).enc c), (16, (cInt .i64).enc (t : Int))]
def MZ (a : Option Addr) (e : B32) : List (Option SV) := maskL 45 0 [(1, .o (.a (.v (.slice a 0 0)))), (2, .o (.a (.ptr 0 0))), (5, .o (.a (.ptr 1 0))), (6, .o (.a (.ptr 2 0)))]
def mem (a : Option Addr) (e : B32) (D : B64) (x : Nat → Int) : List Blk := [] ++ [⟨true, 22, .lit (cB32.row e)⟩, ⟨true, 26, .lit (sigL D x)⟩, ⟨true, 22, .lit (cB32.row lB)⟩]
theorem ids0 (a : Option Addr) (e : B32) (D : B64) (x : Nat → Int) : idsIn (mem a e D x).length (M0 a e ) (mem a e D x) = true := by kernel_rfl
theorem ids1 (a : Option Addr) (e : B32) (D : B64) (x : Nat → Int) (t : Nat) (c : Int) : idsIn (mem a e D x).length (M1 a e t c) (mem a e D x) = true := by kernel_rfl
theorem idsZ (a : Option Addr) (e : B32) (D : B64) (x : Nat → Int) : idsIn (mem a e D x).length (MZ a e ) (mem a e D x) = true := by kernel_rfl
theorem s0 (Z : B32 → List Int → B64) (hZ : Z = sigV) (V : B32 → List Int → B64 → Int) (hV : V = verV) (a : Option Addr) (e : B32) (D : B64) : outX (mem a e D (hi64 D).at).length (M0 a e ) (exec (Γ Z hZ V hV) tys 100 (cpre 5 body) ⟨startT fn [cB32.enc e, .o (.a (.v (.slice a 0 0)))], [], [(14, [.s (cB64.enc D)])]⟩) = some (.normal, live (M0 a e ), (M0 a e ).length, mem a e D (hi64 D).at, [cB64.enc (Z e []) = cB64.enc D]) := by kernel_rfl
theorem ini (a : Option Addr) (e : B32) (D : B64) (x : Nat → Int) (g : Nat → SV) : outX (mem a e D x).length (M1 a e 0 0) (exec (Γ sigV rfl verV rfl) tys 100 A ⟨fill g 0 (M0 a e ), mem a e D x, []⟩) = some (.normal, live (M1 a e 0 0), (M1 a e 0 0).length, mem a e D x, []) := by kernel_rfl
theorem step (a : Option Addr) (e : B32) (D : B64) (x : Nat → Int) (c n b c' : Int) (g : Nat → SV) : ∀ t, t < 32 → outX (mem a e D (updF x t b)).length (M1 a e (t + 1) c') (exec (Γ sigV rfl verV rfl) tys 100 L ⟨fill g 0 (M1 a e t c), mem a e D x, [(30, [.n n]), (34, [.n b]), (37, [.n c'])]⟩) = some (.normal, live (M1 a e (t + 1) c'), (M1 a e (t + 1) c').length, mem a e D (updF x t b), [IntKind.i64.wrap (IntKind.i64.wrap (IntKind.i64.wrap (x t) + IntKind.i64.wrap (lB.at t)) + c) = n, IntKind.u8.wrap n = b, n.fdiv (2 ^ 8) = c'])
  | 0, _ => by kernel_rfl
  | 1, _ => by kernel_rfl
  | 2, _ => by kernel_rfl
  | 3, _ => by kernel_rfl
  | 4, _ => by kernel_rfl
  | 5, _ => by kernel_rfl
  | 6, _ => by kernel_rfl
  | 7, _ => by kernel_rfl
  | 8, _ => by kernel_rfl
  | 9, _ => by kernel_rfl
  | 10, _ => by kernel_rfl
  | 11, _ => by kernel_rfl
  | 12, _ => by kernel_rfl
  | 13, _ => by kernel_rfl
  | 14, _ => by kernel_rfl
  | 15, _ => by kernel_rfl
  | 16, _ => by kernel_rfl
  | 17, _ => by kernel_rfl
  | 18, _ => by kernel_rfl
  | 19, _ => by kernel_rfl
  | 20, _ => by kernel_rfl
  | 21, _ => by kernel_rfl
  | 22, _ => by kernel_rfl
  | 23, _ => by kernel_rfl
  | 24, _ => by kernel_rfl
  | 25, _ => by kernel_rfl
  | 26, _ => by kernel_rfl
  | 27, _ => by kernel_rfl
  | 28, _ => by kernel_rfl
  | 29, _ => by kernel_rfl
  | 30, _ => by kernel_rfl
  | 31, _ => by kernel_rfl
  | j + 32, h => absurd h (by omega)
theorem stop (a : Option Addr) (e : B32) (D : B64) (x : Nat → Int) (c : Int) (g : Nat → SV) : outX (mem a e D x).length (MZ a e ) (exec (Γ sigV rfl verV rfl) tys 100 L ⟨fill g 0 (M1 a e 32 c), mem a e D x, []⟩) = some (.exit 0, live (MZ a e ), (MZ a e ).length, mem a e D x, []) := by kernel_rfl
noncomputable def fin (Z : B32 → List Int → B64) (hZ : Z = sigV) (V : B32 → List Int → B64 → Int) (hV : V = verV) (a : Option Addr) (e : B32) (D : B64) (x : Nat → Int) (p : B32) (g : Nat → SV) : St := outS (Γ Z hZ V hV) tys 100 E ⟨fill g 0 (MZ a e ), mem a e D x, [(40, [.s (cB32.enc p)]), (43, [.s ((cInt .i64).enc 2)])]⟩
theorem d (Z : B32 → List Int → B64) (hZ : Z = sigV) (V : B32 → List Int → B64 → Int) (hV : V = verV) (a : Option Addr) (e : B32) (D : B64) (x : Nat → Int) (p : B32) (g : Nat → SV) : exec (Γ Z hZ V hV) tys 100 E ⟨fill g 0 (MZ a e ), mem a e D x, [(40, [.s (cB32.enc p)]), (43, [.s ((cInt .i64).enc 2)])]⟩ = some (.ret, ⟨(fin Z hZ V hV a e D x p g).tm, (fin Z hZ V hV a e D x p g).mem, (fin Z hZ V hV a e D x p g).orc⟩, [cB32.enc (pubV e) = cB32.enc p, ∀ i, 0 ≤ (hi64 (sigX D x)).at i ∧ (hi64 (sigX D x)).at i < 256, (cInt .i64).enc (V p [] (sigX D x)) = (cInt .i64).enc 2]) := by kernel_rfl
theorem res (Z : B32 → List Int → B64) (hZ : Z = sigV) (V : B32 → List Int → B64 → Int) (hV : V = verV) (a : Option Addr) (e : B32) (D : B64) (x : Nat → Int) (p : B32) (g : Nat → SV) : eRes tys (fin Z hZ V hV a e D x p g).tm (fun k => (fin Z hZ V hV a e D x p g).mem[k]?) fn.results.toList = some [.a (bool1 true)] := by kernel_rfl
theorem run (a : Option Addr) (e : B32) : RunsF Tryd.prog G2 0 body (startT fn [cB32.enc e, .o (.a (.v (.slice a 0 0)))]) ([]) (EndsM tys fn (endsQ (cBool.enc true) .none)) := by
  have hs := sig_byte e []
  have hv : verV (pubV e) [] (cat64 (lo64 (sigV e [])) (moreB (hi64 (sigV e [])).at)) = 2 := by
    rw [sig_lo, sig_hi]
    exact ver_large e [] _ (moreB_ok _) (moreB_val (end_val e []).1 (by rw [(end_val e []).2]; exact Nat.mod_lt _ (by decide)))
  refine Runs.of_outXP tys_ok mixed 5 (s0 sigV rfl verV rfl a e (sigV e [])) ⟨rfl, trivial⟩ (ids0 a e _ _) rfl fun g => ?_
  rw [t5_eq]
  refine Runs.seq (Runs.seq (Runs.of_outX tys_ok mixed (ini a e _ _ g) trivial (ids1 a e _ _ _ _) rfl fun g => ?_))
  refine Runs.block ?_
  refine Runs.loopX (fun (x : Nat × (Nat → Int)) => M1 a e x.1 (carC (hi64 (sigV e [])).at x.1)) (fun x => mem a e (sigV e []) x.2) (fun x => x.1 ≤ 32 ∧ (∀ j, j < x.1 → x.2 j = bytC (hi64 (sigV e [])).at j) ∧ ∀ j, x.1 ≤ j → x.2 j = (hi64 (sigV e [])).at j) (fun x => 32 - x.1) ?_ (0, (hi64 (sigV e [])).at) ⟨by omega, fun j h => by omega, fun j _ => rfl⟩ g
  rintro ⟨t, x⟩ g ⟨ht, h1, h2⟩
  simp only at ht h1 h2
  rcases Nat.lt_or_ge t 32 with hlt | hge
  · refine Runs.of_outX tys_ok mixed (step a e (sigV e []) x (carC (hi64 (sigV e [])).at t) (colC (hi64 (sigV e [])).at t) (bytC (hi64 (sigV e [])).at t) (carC (hi64 (sigV e [])).at (t + 1)) g t hlt) ⟨by rw [h2 t (Nat.le_refl _)]; exact col_w hs t, rfl, rfl, trivial⟩ (ids1 a e _ _ _ _) rfl fun g' => ⟨(t + 1, updF x t (bytC (hi64 (sigV e [])).at t)), g', rfl, rfl, ⟨hlt, fun j hj => ?_, fun j hj => ?_⟩, by simp only; omega⟩
    · simp only at hj ⊢
      rw [upd_at]
      split
      · rename_i q; rw [q]
      · exact h1 j (by omega)
    · simp only at hj ⊢
      rw [upd_at, if_neg (by omega)]
      exact h2 j (by omega)
  obtain rfl : t = 32 := by omega
  refine Runs.of_outX tys_ok mixed (stop a e (sigV e []) x _ g) trivial (idsZ a e _ _) rfl fun g => ?_
  have ex : sigX (sigV e []) x = cat64 (lo64 (sigV e [])) (moreB (hi64 (sigV e [])).at) := (sigX_congr _ h1).trans (sigX_cat _ _)
  refine Runs.of_exec tys_ok mixed (d sigV rfl verV rfl a e (sigV e []) x (pubV e) g) ?_ (EndsM.ret (res sigV rfl verV rfl a e _ _ _ g) rfl)
  rw [ex]
  exact ⟨rfl, fun i => moreB_ok _ i, by rw [hv], trivial⟩
end v
end llar
theorem lar_ok (b : B32) (x0 : SArg) (W : World) (hb : BOk b) (h0 : x0.ok .u8 W) (b0 : x0.ints.length ≤ 140737488351232) (hg : GlobOk G2 W) :
    Calls Tryd.prog 5 #[(cB32.enc b).den lam0, x0.val] W fun e W' => e = .returned (.bool true) ∧ Below W.heap.size W W' := by
  refine law_mix tys_ok Tryd.func5 (c := llar.body) (by kernel_rfl) hg .u8 [cB32.enc b] [x0] [] (fun v hv => by simp only [List.mem_cons, List.not_mem_nil, or_false] at hv; rw [hv]; exact cB32.ids _) (fun v hv => by cases hv) (fun y hy => by simp only [List.mem_cons, List.not_mem_nil, or_false] at hy; rcases hy with rfl; assumption) (r := cBool.enc true) rfl fun hi => ?_
  cases x0 with
  | none a0 => exact llar.v.run a0 b
  | win y0 n0 c0 ty0 L0 => exact llar.w.run y0 n0 _ ty0 b hi.1.1 hi.1.2 (by have := hi.1.1; have b : y0.length ≤ 140737488351232 := b0; omega)
end Go.Proofs.YthbhmmndggkmaaaDoor

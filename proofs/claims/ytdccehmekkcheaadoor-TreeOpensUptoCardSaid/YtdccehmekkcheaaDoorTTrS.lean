/- Packages tree, beaconref11: halves of nodes: contracts. -/
import Derived.Test.YtdccehmekkcheaaDoorTTrQ
namespace Go.Proofs.YtdccehmekkcheaaDoor
open Go Go.Eng Go.RowKit
set_option linter.unusedVariables false
set_option linter.unusedSimpArgs false
set_option maxRecDepth 100000
theorem advS_eq {c k : Nat} (h : k < c) : advS c k 0 65 = k * 65 := by
  unfold advS
  rw [if_neg (by omega), Nat.zero_add]
theorem mono_halves {l : List Nd} {c k : Nat} (h : Halves l c k) : MonoB l c k := ⟨Nat.le_of_lt h.kl, h.left, h.right⟩
theorem ld_off (l : List Nd) {i n : Nat} (hn : l.length = n) (hi : i < n) : 0 + (offI 0 (i : Int) 65 + 1) + 32 ≤ (nvals l).length ∧ SV.o (.g (takeV (nvals l) (0 + (offI 0 (i : Int) 65 + 1)) 32)) = cB32.enc (l.getD i zn).pre := by
  have hl : (nvals l).length = n * 65 := by rw [← hn]; exact nvals_len l
  have hb : i * 65 + 65 ≤ n * 65 := by have := Nat.mul_le_mul_right 65 (show i + 1 ≤ n by omega); omega
  have ho : 0 + (offI 0 (i : Int) 65 + 1) = i * 65 + 1 := by rw [offI_eq]; simp
  rw [ho]
  exact ⟨by omega, ld_pre l (by omega)⟩
namespace spl
theorem run (l : List Nd) (n c : Nat) (ty : TypeId) (hn : l.length = n) (hm : n < boundN) (h2 : 2 ≤ n) (hc : n ≤ c) (hok : AllOk l) (hap : apartV l = true) :
    RunsF Tryd.prog GT 1 body (startT fn [.o (.a (.sld 0 0 0 n c))]) [⟨false, ty, .prv (nvals l)⟩] (EndsM tys fn (endsQ (.t [.a (.sld 0 0 0 (splK l (topC l)) c), .a (.sld 0 0 (splK l (topC l) * 65) (n - splK l (topC l)) (c - splK l (topC l))), .a (int1 .i64 (topC l : Nat))]) .none)) := by
  have hA := (ap_iff hok).1 hap
  have hs := halves hA (by omega)
  have k0 := hs.k0
  have kl := hs.kl
  have c256 := hs.c256
  have hl : (nvals l).length = n * 65 := by rw [← hn]; exact nvals_len l
  have hY := dtn hn
  obtain ⟨a1, a2⟩ := ld_off l hn (show 0 < n by omega)
  obtain ⟨b1, b2⟩ := ld_off l hn (show n - 1 < n by omega)
  have hw : IntKind.i64.wrap ((n : Int) - 1) = ((n - 1 : Nat) : Int) := by unfold boundN at hm; rw [IntKind.wrap_i64]; omega
  have ok0 := hok.at (show 0 < l.length by omega)
  have ok1 := hok.at (show n - 1 < l.length by omega)
  refine Runs.of_outX tys_ok mixed (s l n c ty (splK l (topC l)) (splK l (topC l) * 65) ((n - 1 : Nat) : Int) (topC l : Nat) (l.getD 0 zn).pre (l.getD (n - 1) zn).pre)
    ⟨by omega, by omega, a1, a2, hw, by omega, by omega, b1, b2, ok0.1, ok1.1, by rw [show n - 1 = l.length - 1 by omega]; rfl, by omega, by rw [hY, ndDec_vals], by rw [hY, ndDec_vals]; exact hn, rfl, hm, by omega, by omega,
      by rw [hY, ndDec_vals]; exact hok, by rw [hY, ndDec_vals]; exact mono_halves hs, by rw [hY, ndDec_vals]; rfl, by omega, by omega, by omega, by omega, by omega, by omega, by rw [advS_eq (by omega)], trivial⟩ (ids _ _ _ _ _ _ _) rfl fun g => EndsM.ret (zr _ _ _ _ _ _ _ g) rfl
def spec (ys : List Value) (n c : Nat) : List SV → Option (SV × Cst)
  | [] => some (.t [.a (.sld 0 0 0 (splK (ndDec ys) (topC (ndDec ys))) c), .a (.sld 0 0 (splK (ndDec ys) (topC (ndDec ys)) * 65) (n - splK (ndDec ys) (topC (ndDec ys))) (c - splK (ndDec ys) (topC (ndDec ys)))), .a (int1 .i64 (topC (ndDec ys) : Nat))], [ys = nvals (ndDec ys), (ndDec ys).length = n, n < boundN, 2 ≤ n, AllOk (ndDec ys), apartV (ndDec ys) = true])
  | _ => none
noncomputable def con : Con Tryd.prog GT := Con.win tys_ok 79 fn Tryd.func79 (by kernel_rfl) (c := body) (by kernel_rfl) 65 spec
  (fun ys n cp rest r p h => by
    unfold spec at h
    split at h <;> cases h
    rfl)
  (fun ys n cp ty rest r p h hp hl hc hr => by
    unfold spec at h
    split at h <;> cases h
    obtain ⟨p1, p2, p3, p4, p5, p6, _⟩ := hp
    have q := run (ndDec ys) n cp ty p2 p3 p4 hc p5 p6
    rw [← p1] at q
    exact q)
end spl
namespace hlv
theorem run (l : List Nd) (n c k : Nat) (v : Int) (ty : TypeId) (hn : l.length = n) (hm : n < boundN) (hc : n ≤ c) (v0 : 0 ≤ v) (v1 : v < 256) (hok : AllOk l) (hk : MonoB l v.toNat k) (hkn : k < n) :
    RunsF Tryd.prog GT 1 body (startT fn [.o (.a (.sld 0 0 0 n c)), .o (.a (int1 .i64 v))]) [⟨false, ty, .prv (nvals l)⟩] (EndsM tys fn (endsQ (.t [.a (.sld 0 0 0 k c), .a (.sld 0 0 (k * 65) (n - k) (c - k))]) .none)) := by
  unfold boundN at hm
  have done : ∀ g, RunsF Tryd.prog GT 1 D (fill g 0 (M l n c ty v (k : Int))) (mem l n c ty v) (EndsM tys fn (endsQ (.t [.a (.sld 0 0 0 k c), .a (.sld 0 0 (k * 65) (n - k) (c - k))]) .none)) := fun g =>
    Runs.of_outX tys_ok mixed (fin l n c ty v k (k * 65) g) ⟨by omega, by omega, by omega, by omega, by omega, by omega, by rw [advS_eq (by omega)], trivial⟩ (idsZ _ _ _ _ _ _ _) rfl fun g => EndsM.ret (zr _ _ _ _ _ _ _ g) rfl
  refine Runs.of_outXP tys_ok mixed 2 (s0 l n c ty v) trivial (ids _ _ _ _ _ _) rfl fun g => ?_
  rw [suf_eq]
  refine Runs.seq (Runs.block ?_)
  refine Runs.loopX (fun (i : Nat) => M l n c ty v (i : Int)) (fun _ => mem l n c ty v) (fun i => i ≤ k) (fun i => k - i) ?_ 0 (Nat.zero_le _) g
  rintro i g hi
  obtain ⟨a1, a2⟩ := ld_off l hn (show i < n by omega)
  have oki := hok.at (show i < l.length by omega)
  rcases Nat.lt_or_ge i k with h | h
  · have hb := hk.no i h
    refine Runs.of_outX tys_ok mixed (stp l n c ty v _ ((i + 1 : Nat) : Int) _ _ g) ⟨decide_eq_true (by omega), by omega, by omega, a1, a2, v0, v1, oki.1, rfl, by unfold bitI; rw [hb]; rfl, by rw [IntKind.wrap_i64]; omega, trivial⟩ (ids _ _ _ _ _ _) rfl fun g => ?_
    exact ⟨i + 1, g, rfl, rfl, by omega, by omega⟩
  · obtain rfl : i = k := by omega
    have hb := hk.yes i (Nat.le_refl _) (by omega)
    refine Runs.of_outX tys_ok mixed (hit l n c ty v _ _ _ g) ⟨decide_eq_true (by omega), by omega, by omega, a1, a2, v0, v1, oki.1, rfl, by unfold bitI; rw [hb]; rfl, trivial⟩ (ids _ _ _ _ _ _) rfl fun g => ?_
    show RunsF _ _ _ _ _ _ _
    exact done g
def spec (ys : List Value) (n c : Nat) : List SV → Option (SV × Cst)
  | [.o (.a (.v (.int .i64 v)))] => some (.t [.a (.sld 0 0 0 (splK (ndDec ys) v.toNat) c), .a (.sld 0 0 (splK (ndDec ys) v.toNat * 65) (n - splK (ndDec ys) v.toNat) (c - splK (ndDec ys) v.toNat))], [ys = nvals (ndDec ys), (ndDec ys).length = n, n < boundN, 0 ≤ v, v < 256, AllOk (ndDec ys), MonoB (ndDec ys) v.toNat (splK (ndDec ys) v.toNat), splK (ndDec ys) v.toNat < n])
  | _ => none
noncomputable def con : Con Tryd.prog GT := Con.win tys_ok 82 fn Tryd.func82 (by kernel_rfl) (c := body) (by kernel_rfl) 65 spec
  (fun ys n cp rest r p h => by
    unfold spec at h
    split at h <;> cases h
    rfl)
  (fun ys n cp ty rest r p h hp hl hc hr => by
    unfold spec at h
    split at h <;> cases h
    obtain ⟨p1, p2, p3, p4, p5, p6, p7, p8, _⟩ := hp
    have q := run (ndDec ys) n cp _ _ ty p2 p3 hc p4 p5 p6 p7 p8
    rw [← p1] at q
    exact q)
end hlv
end Go.Proofs.YtdccehmekkcheaaDoor

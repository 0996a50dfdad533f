/- Lists of devices: all their bytes: wire.Joined, beaconref07.Hashes: walks, contracts. -/
import Derived.Test.YthlmepolmemejaaDoorDDvA
import Derived.Test.YthlmepolmemejaaDoorDREnc
namespace Go.Proofs.YthlmepolmemejaaDoor
open Go Go.Eng Go.RowKit
set_option linter.unusedVariables false
set_option linter.unusedSimpArgs false
set_option maxRecDepth 100000
theorem flatB_app (a b : List B32) : flatB (a ++ b) = flatB a ++ flatB b := by simp [flatB]
theorem flatB_next (l : List B32) {i : Nat} (hi : i < l.length) : flatB (l.take i) ++ (l.getD i zB).to = flatB (l.take (i + 1)) := by
  have e : l.take (i + 1) = l.take i ++ [l.getD i zB] := by
    rw [List.getD_eq_getElem?_getD, List.getElem?_eq_getElem hi, Option.getD_some, List.take_append_getElem hi]
  rw [e, flatB_app]
  simp [flatB]
theorem flatB_takelen (l : List B32) {i : Nat} (hi : i ≤ l.length) : (flatB (l.take i)).length = i * 32 := by rw [flatB_len, List.length_take, Nat.min_eq_left hi]
theorem roomJ (n : Nat) (h : n ≤ 8 * 32) : Room Tryd.prog 5 n := room8 n (by omega)
namespace joi
noncomputable abbrev fn := Tryd.f24
noncomputable def body : Code := bodyOf fn
noncomputable def A1 : Code := cs1 (cs1 (csuf 2 body))
noncomputable def L : Code := cL (cB (cs2 (cs1 (csuf 2 body))))
noncomputable def D : Code := cs2 (csuf 2 body)
theorem suf_eq : csuf 2 body = .seq (.seq A1 (.block 0 (.loop L))) D := by kernel_rfl
noncomputable def Γ : Cons Tryd.prog GT := []
namespace w
def mA (l : List B32) (n c : Nat) (ty : TypeId) : List Blk := [⟨false, ty, .prv (wvals l)⟩]
def mB (l : List B32) (n c : Nat) (ty : TypeId) (us : List Int) (lo : Nat) (hi : Option Nat) : List Blk := [⟨false, ty, .prv (wvals l)⟩, ⟨true, 5, .gro .u8 us lo hi⟩]
def M0 (l : List B32) (n c : Nat) (ty : TypeId) : List (Option SV) := maskL 17 0 [(0, .o (.a (.sld 0 0 0 n c))), (3, .o (.a (.v (.slice none 0 0))))]
def MA (l : List B32) (n c : Nat) (ty : TypeId) (i : Int) : List (Option SV) := maskL 17 0 [(3, .o (.a (.v (.slice none 0 0)))), (6, .o (.a (.sld 0 0 0 n c))), (7, .o (.a (int1 .i64 n))), (8, .o (.a (int1 .i64 i)))]
def MB (l : List B32) (n c : Nat) (ty : TypeId) (i : Int) (r : Nat) : List (Option SV) := maskL 17 0 [(3, .o (.a (.slg 1 r))), (6, .o (.a (.sld 0 0 0 n c))), (7, .o (.a (int1 .i64 n))), (8, .o (.a (int1 .i64 i)))]
def MD (r : Nat) : List (Option SV) := maskL 17 0 [(3, .o (.a (.slg 1 r)))]
def MZ (r : Nat) : List (Option SV) := maskL 17 0 [(2, .o (.a (.slg 1 r)))]
theorem i0 (l : List B32) (n c : Nat) (ty : TypeId) : idsIn (mA l n c ty ).length (M0 l n c ty ) (mA l n c ty ) = true := by kernel_rfl
theorem iA (l : List B32) (n c : Nat) (ty : TypeId) (i : Int) : idsIn (mA l n c ty ).length (MA l n c ty i) (mA l n c ty ) = true := by kernel_rfl
theorem iB (l : List B32) (n c : Nat) (ty : TypeId) (us : List Int) (lo : Nat) (hi : Option Nat) (i : Int) (r : Nat) : idsIn (mB l n c ty (us) (lo) hi).length (MB l n c ty i r) (mB l n c ty (us) (lo) hi) = true := by kernel_rfl
theorem iD (l : List B32) (n c : Nat) (ty : TypeId) (us : List Int) (lo : Nat) (hi : Option Nat) (r : Nat) : idsIn (mB l n c ty (us) (lo) hi).length (MD r) (mB l n c ty (us) (lo) hi) = true := by kernel_rfl
theorem iZ (l : List B32) (n c : Nat) (ty : TypeId) (us : List Int) (lo : Nat) (hi : Option Nat) (r : Nat) : idsIn (mB l n c ty (us) (lo) hi).length (MZ r) (mB l n c ty (us) (lo) hi) = true := by kernel_rfl
theorem s0 (l : List B32) (n c : Nat) (ty : TypeId) : outX (mA l n c ty ).length (M0 l n c ty ) (exec Γ tys 300 (cpre 2 body) ⟨startT fn [.o (.a (.sld 0 0 0 n c))], mA l n c ty , []⟩) = some (.normal, live (M0 l n c ty ), (M0 l n c ty ).length, mA l n c ty , []) := by kernel_rfl
theorem a1 (l : List B32) (n c : Nat) (ty : TypeId) (g : Nat → SV) : outX (mA l n c ty ).length (MA l n c ty 0) (exec Γ tys 300 A1 ⟨fill g 0 (M0 l n c ty ), mA l n c ty , []⟩) = some (.normal, live (MA l n c ty 0), (MA l n c ty 0).length, mA l n c ty , []) := by kernel_rfl
theorem t0 (l : List B32) (n c : Nat) (ty : TypeId) (x : B32) (i' : Int) (g : Nat → SV) : outN [0, 2] (MB l n c ty i' 32) (exec Γ tys 100 L ⟨fill g 0 (MA l n c ty 0), mA l n c ty , [(9, [.b true]), (11, [.ds (cB32.enc x)]), (15, [.n i'])]⟩) = some (.normal, (live (MB l n c ty i' 32)).map (SV.ren (piF [0, 2])), (MB l n c ty i' 32).length, (mB l n c ty (x.to) (32) none).map (fun b => some (b.ren (piF [0, 2]))), [decide ((0 : Int) < n) = true, 0 ≤ (0 : Int), (0 : Int) < n, 0 + offI 0 0 32 + 32 ≤ (wvals l).length, SV.o (.g (takeV (wvals l) (0 + offI 0 0 32) 32)) = cB32.enc x, 32 ≤ 32, 0 < 32, Room Tryd.prog 5 32, IntKind.i64.wrap (0 + 1) = i']) := by kernel_rfl
theorem tg (l : List B32) (n c : Nat) (ty : TypeId) (x : B32) (us : List Int) (r : Nat) (i i' : Int) (g : Nat → SV) : outN [0, 1] (MB l n c ty i' (r + 32)) (exec Γ tys 100 L ⟨fill g 0 (MB l n c ty i r), mB l n c ty (us) (r + 32) none, [(9, [.b true]), (11, [.ds (cB32.enc x)]), (15, [.n i'])]⟩) = some (.normal, (live (MB l n c ty i' (r + 32))).map (SV.ren (piF [0, 1])), (MB l n c ty i' (r + 32)).length, (mB l n c ty (us ++ x.to) (r + 32) none).map (fun b => some (b.ren (piF [0, 1]))), [decide (i < n) = true, 0 ≤ i, i < n, 0 + offI 0 i 32 + 32 ≤ (wvals l).length, SV.o (.g (takeV (wvals l) (0 + offI 0 i 32) 32)) = cB32.enc x, 32 ≤ 32, r = us.length, r + 32 ≤ r + 32, IntKind.i64.wrap (i + 1) = i']) := by kernel_rfl
theorem tr (l : List B32) (n c : Nat) (ty : TypeId) (x : B32) (us : List Int) (r : Nat) (i i' : Int) (lo : Nat) (g : Nat → SV) : outN [0, 3] (MB l n c ty i' (r + 32)) (exec Γ tys 100 L ⟨fill g 0 (MB l n c ty i r), mB l n c ty (us) (lo) (some (r + 32)), [(9, [.b true]), (11, [.ds (cB32.enc x)]), (15, [.n i'])]⟩) = some (.normal, (live (MB l n c ty i' (r + 32))).map (SV.ren (piF [0, 3])), (MB l n c ty i' (r + 32)).length, (mB l n c ty (us ++ x.to) (r + 32) none).map (fun b => some (b.ren (piF [0, 3]))), [decide (i < n) = true, 0 ≤ i, i < n, 0 + offI 0 i 32 + 32 ≤ (wvals l).length, SV.o (.g (takeV (wvals l) (0 + offI 0 i 32) 32)) = cB32.enc x, 32 ≤ 32, r = us.length, r + 32 ≤ r + 32, Room Tryd.prog 5 (r + 32), IntKind.i64.wrap (i + 1) = i']) := by kernel_rfl
theorem o (l : List B32) (n c : Nat) (ty : TypeId) (us : List Int) (r lo : Nat) (i : Int) (g : Nat → SV) : outX (mB l n c ty (us) (lo) none).length (MD r) (exec Γ tys 300 L ⟨fill g 0 (MB l n c ty i r), mB l n c ty (us) (lo) none, [(9, [.b false])]⟩) = some ((.exit 0), live (MD r), (MD r).length, mB l n c ty (us) (lo) none, [decide (i < n) = false]) := by kernel_rfl
theorem fin (l : List B32) (n c : Nat) (ty : TypeId) (us : List Int) (r lo : Nat) (g : Nat → SV) : outX (mB l n c ty (us) (lo) none).length (MZ r) (exec Γ tys 300 D ⟨fill g 0 (MD r), mB l n c ty (us) (lo) none, []⟩) = some (.ret, live (MZ r), (MZ r).length, mB l n c ty (us) (lo) none, []) := by kernel_rfl
theorem zr (l : List B32) (n c : Nat) (ty : TypeId) (us : List Int) (r lo : Nat) (g : Nat → SV) : eRes tys (fill g 0 (MZ r)) (fun k => (mB l n c ty (us) (lo) none)[k]?) fn.results.toList = some [.a (.slg 1 r)] := by kernel_rfl
theorem run0 (l : List B32) (n c : Nat) (ty : TypeId) (hn : l.length = n) (hb : n ≤ 8) (h0 : 0 < n) : RunsF Tryd.prog GT 1 body (startT fn [.o (.a (.sld 0 0 0 n c))]) (mA l n c ty) (EndsM tys fn (endsQ (.o (.a (.slg 0 (n * 32)))) (.new 5 (.gro .u8 (flatB l) (n * 32) none)))) := by
  have ld : ∀ i, i < n → 0 ≤ (i : Int) ∧ (i : Int) < n ∧ 0 + offI 0 (i : Int) 32 + 32 ≤ (wvals l).length ∧ SV.o (.g (takeV (wvals l) (0 + offI 0 (i : Int) 32) 32)) = cB32.enc (l.getD i zB) := fun i hi => by
    obtain ⟨a, b⟩ := ld_dev l (show i < l.length by omega)
    exact ⟨by omega, by omega, a, b⟩
  refine Runs.of_outXP tys_ok mixed 2 (s0 l n c ty) trivial (i0 l n c ty) rfl fun g => ?_
  rw [suf_eq]
  refine Runs.seq (Runs.seq (Runs.of_outX tys_ok mixed (a1 l n c ty g) trivial (iA l n c ty 0) rfl fun g => ?_))
  refine Runs.block ?_
  refine Runs.loopX (fun (i : Nat) => match i with | 0 => MA l n c ty 0 | i + 1 => MB l n c ty ((i + 1 : Nat) : Int) ((i + 1) * 32)) (fun i => match i with | 0 => mA l n c ty | i + 1 => mB l n c ty (flatB (l.take (i + 1))) ((i + 1) * 32) none) (fun i => i ≤ n) (fun i => n - i) ?_ 0 (Nat.zero_le _) g
  rintro i g hi
  rcases i with _ | i
  · obtain ⟨x1, x2, x3, x4⟩ := ld 0 (by omega)
    have q := t0 l n c ty (l.getD 0 zB) ((1 : Nat) : Int) g
    have fx : (l.getD 0 zB).to = flatB (l.take 1) := by
      have h := flatB_next l (show 0 < l.length by omega)
      rw [List.take_zero, show flatB [] = [] from rfl, List.nil_append] at h
      exact h
    rw [fx] at q
    exact Runs.of_outN tys_ok mixed [0, 2] q ⟨decide_eq_true (by omega), x1, x2, x3, x4, Nat.le_refl _, by decide, roomJ 32 (by omega), rfl, trivial⟩ (iB l n c ty _ _ _ _ _) rfl fun g => ⟨1, g, rfl, rfl, by omega, by omega⟩
  · by_cases hin : i + 1 = n
    · refine Runs.of_outX tys_ok mixed (o l n c ty _ _ _ ((i + 1 : Nat) : Int) g) ⟨decide_eq_false (by omega), trivial⟩ (iD l n c ty _ _ _ _) rfl fun g => ?_
      show RunsF _ _ _ _ _ _ _
      rw [show l.take (i + 1) = l by rw [List.take_of_length_le (by omega)], hin]
      exact Runs.of_outX tys_ok mixed (fin l n c ty _ _ _ g) trivial (iZ l n c ty _ _ _ _) rfl fun g => EndsM.ret (zr l n c ty _ _ _ g) ⟨1, rfl, rfl⟩
    · have hi : i + 1 < n := by have hi : i + 1 ≤ n := hi; omega
      obtain ⟨x1, x2, x3, x4⟩ := ld (i + 1) (by omega)
      have fl := flatB_takelen l (show i + 1 ≤ l.length by omega)
      have fx : flatB (l.take (i + 1)) ++ (l.getD (i + 1) zB).to = flatB (l.take (i + 2)) := by
        exact flatB_next l (by omega)
      have e32 : (i + 1) * 32 + 32 = (i + 1 + 1) * 32 := by omega
      show RunsF _ _ _ _ (fill g 0 (MB l n c ty ((i + 1 : Nat) : Int) ((i + 1) * 32))) (mB l n c ty (flatB (l.take (i + 1))) ((i + 1) * 32) none) _
      refine Runs.room 1 ((i + 1) * 32 + 32) (own := true) (ty := 5) (kd := .u8) (xs := flatB (l.take (i + 1))) (lo := (i + 1) * 32) rfl ?_ ?_
      · have q := tg l n c ty (l.getD (i + 1) zB) (flatB (l.take (i + 1))) ((i + 1) * 32) ((i + 1 : Nat) : Int) ((i + 2 : Nat) : Int) g
        rw [fx] at q
        exact Runs.of_outN tys_ok mixed [0, 1] q ⟨decide_eq_true (by omega), x1, x2, x3, x4, Nat.le_refl _, by omega, by omega, wp64 (i + 1) (by omega), trivial⟩ (iB l n c ty _ _ _ _ _) rfl fun g => ⟨i + 2, g, by rw [e32], by rw [e32], by omega, by omega⟩
      · have q := tr l n c ty (l.getD (i + 1) zB) (flatB (l.take (i + 1))) ((i + 1) * 32) ((i + 1 : Nat) : Int) ((i + 2 : Nat) : Int) ((i + 1) * 32) g
        rw [fx] at q
        exact Runs.of_outN tys_ok mixed [0, 3] q ⟨decide_eq_true (by omega), x1, x2, x3, x4, Nat.le_refl _, by omega, by omega, roomJ _ (by omega), wp64 (i + 1) (by omega), trivial⟩ (iB l n c ty _ _ _ _ _) rfl fun g => ⟨i + 2, g, by rw [e32], by rw [e32], by omega, by omega⟩
end w
namespace z
def M0 (l : List B32) (c : Nat) (ty : TypeId) : List (Option SV) := maskL 17 0 [(0, .o (.a (.sld 0 0 0 0 c))), (3, .o (.a (.v (.slice none 0 0))))]
def M1 (l : List B32) (c : Nat) (ty : TypeId) : List (Option SV) := maskL 17 0 [(3, .o (.a (.v (.slice none 0 0)))), (6, .o (.a (.sld 0 0 0 0 c))), (7, .o (.a (int1 .i64 0))), (8, .o (.a (int1 .i64 0)))]
def M2 (l : List B32) (c : Nat) (ty : TypeId) : List (Option SV) := maskL 17 0 [(3, .o (.a (.v (.slice none 0 0))))]
def M3 (l : List B32) (c : Nat) (ty : TypeId) : List (Option SV) := maskL 17 0 [(2, .o (.a (.v (.slice none 0 0))))]
theorem i0 (l : List B32) (c : Nat) (ty : TypeId) : idsIn (([⟨false, ty, .prv (wvals l)⟩] : List Blk)).length (M0 l c ty ) (([⟨false, ty, .prv (wvals l)⟩] : List Blk)) = true := by kernel_rfl
theorem i1 (l : List B32) (c : Nat) (ty : TypeId) : idsIn (([⟨false, ty, .prv (wvals l)⟩] : List Blk)).length (M1 l c ty ) (([⟨false, ty, .prv (wvals l)⟩] : List Blk)) = true := by kernel_rfl
theorem i2 (l : List B32) (c : Nat) (ty : TypeId) : idsIn (([⟨false, ty, .prv (wvals l)⟩] : List Blk)).length (M2 l c ty ) (([⟨false, ty, .prv (wvals l)⟩] : List Blk)) = true := by kernel_rfl
theorem i3 (l : List B32) (c : Nat) (ty : TypeId) : idsIn (([⟨false, ty, .prv (wvals l)⟩] : List Blk)).length (M3 l c ty ) (([⟨false, ty, .prv (wvals l)⟩] : List Blk)) = true := by kernel_rfl
theorem s0 (l : List B32) (c : Nat) (ty : TypeId) : outX (([⟨false, ty, .prv (wvals l)⟩] : List Blk)).length (M0 l c ty ) (exec Γ tys 300 (cpre 2 body) ⟨startT fn [.o (.a (.sld 0 0 0 0 c))], ([⟨false, ty, .prv (wvals l)⟩] : List Blk), []⟩) = some (.normal, live (M0 l c ty ), (M0 l c ty ).length, ([⟨false, ty, .prv (wvals l)⟩] : List Blk), []) := by kernel_rfl
theorem a1 (l : List B32) (c : Nat) (ty : TypeId) (g : Nat → SV) : outX (([⟨false, ty, .prv (wvals l)⟩] : List Blk)).length (M1 l c ty ) (exec Γ tys 300 A1 ⟨fill g 0 (M0 l c ty ), ([⟨false, ty, .prv (wvals l)⟩] : List Blk), []⟩) = some (.normal, live (M1 l c ty ), (M1 l c ty ).length, ([⟨false, ty, .prv (wvals l)⟩] : List Blk), []) := by kernel_rfl
theorem o (l : List B32) (c : Nat) (ty : TypeId) (g : Nat → SV) : outX (([⟨false, ty, .prv (wvals l)⟩] : List Blk)).length (M2 l c ty ) (exec Γ tys 300 L ⟨fill g 0 (M1 l c ty ), ([⟨false, ty, .prv (wvals l)⟩] : List Blk), []⟩) = some ((.exit 0), live (M2 l c ty ), (M2 l c ty ).length, ([⟨false, ty, .prv (wvals l)⟩] : List Blk), []) := by kernel_rfl
theorem fin (l : List B32) (c : Nat) (ty : TypeId) (g : Nat → SV) : outX (([⟨false, ty, .prv (wvals l)⟩] : List Blk)).length (M3 l c ty ) (exec Γ tys 300 D ⟨fill g 0 (M2 l c ty ), ([⟨false, ty, .prv (wvals l)⟩] : List Blk), []⟩) = some (.ret, live (M3 l c ty ), (M3 l c ty ).length, ([⟨false, ty, .prv (wvals l)⟩] : List Blk), []) := by kernel_rfl
theorem zr (l : List B32) (c : Nat) (ty : TypeId) (g : Nat → SV) (mm : Nat → Option Blk) : eRes tys (fill g 0 (M3 l c ty )) mm fn.results.toList = some [.a (.v (.slice none 0 0))] := by kernel_rfl
theorem run (l : List B32) (c : Nat) (ty : TypeId) : RunsF Tryd.prog GT 1 body (startT fn [.o (.a (.sld 0 0 0 0 c))]) ([⟨false, ty, .prv (wvals l)⟩] : List Blk) (EndsM tys fn (endsQ (.o (.a (.v (.slice none 0 0)))) .none)) := by
  refine Runs.of_outXP tys_ok mixed 2 (s0 l c ty ) trivial (i0 l c ty ) rfl fun g => ?_
  rw [suf_eq]
  refine Runs.seq (Runs.seq (Runs.of_outX tys_ok mixed (a1 l c ty g) trivial (i1 l c ty ) rfl fun g => ?_))
  refine Runs.block ?_
  refine Runs.loopX (fun (_ : Unit) => M1 l c ty ) (fun _ => ([⟨false, ty, .prv (wvals l)⟩] : List Blk)) (fun _ => True) (fun _ => 0) ?_ () trivial g
  rintro _ g _
  refine Runs.of_outX tys_ok mixed (o l c ty g) trivial (i2 l c ty ) rfl fun g => ?_
  show RunsF _ _ _ _ _ _ _
  exact Runs.of_outX tys_ok mixed (fin l c ty g) trivial (i3 l c ty ) rfl fun g => EndsM.ret (zr l c ty g _) rfl
end z
namespace n
def M0 (a : Option Addr) : List (Option SV) := maskL 17 0 [(0, .o (.a (.v (.slice a 0 0)))), (3, .o (.a (.v (.slice none 0 0))))]
def M1 (a : Option Addr) : List (Option SV) := maskL 17 0 [(3, .o (.a (.v (.slice none 0 0)))), (6, .o (.a (.v (.slice a 0 0)))), (7, .o (.a (int1 .i64 0))), (8, .o (.a (int1 .i64 0)))]
def M2 (a : Option Addr) : List (Option SV) := maskL 17 0 [(3, .o (.a (.v (.slice none 0 0))))]
def M3 (a : Option Addr) : List (Option SV) := maskL 17 0 [(2, .o (.a (.v (.slice none 0 0))))]
theorem i0 (a : Option Addr) : idsIn (([] : List Blk)).length (M0 a ) (([] : List Blk)) = true := by kernel_rfl
theorem i1 (a : Option Addr) : idsIn (([] : List Blk)).length (M1 a ) (([] : List Blk)) = true := by kernel_rfl
theorem i2 (a : Option Addr) : idsIn (([] : List Blk)).length (M2 a ) (([] : List Blk)) = true := by kernel_rfl
theorem i3 (a : Option Addr) : idsIn (([] : List Blk)).length (M3 a ) (([] : List Blk)) = true := by kernel_rfl
theorem s0 (a : Option Addr) : outX (([] : List Blk)).length (M0 a ) (exec Γ tys 300 (cpre 2 body) ⟨startT fn [.o (.a (.v (.slice a 0 0)))], ([] : List Blk), []⟩) = some (.normal, live (M0 a ), (M0 a ).length, ([] : List Blk), []) := by kernel_rfl
theorem a1 (a : Option Addr) (g : Nat → SV) : outX (([] : List Blk)).length (M1 a ) (exec Γ tys 300 A1 ⟨fill g 0 (M0 a ), ([] : List Blk), []⟩) = some (.normal, live (M1 a ), (M1 a ).length, ([] : List Blk), []) := by kernel_rfl
theorem o (a : Option Addr) (g : Nat → SV) : outX (([] : List Blk)).length (M2 a ) (exec Γ tys 300 L ⟨fill g 0 (M1 a ), ([] : List Blk), []⟩) = some ((.exit 0), live (M2 a ), (M2 a ).length, ([] : List Blk), []) := by kernel_rfl
theorem fin (a : Option Addr) (g : Nat → SV) : outX (([] : List Blk)).length (M3 a ) (exec Γ tys 300 D ⟨fill g 0 (M2 a ), ([] : List Blk), []⟩) = some (.ret, live (M3 a ), (M3 a ).length, ([] : List Blk), []) := by kernel_rfl
theorem zr (a : Option Addr) (g : Nat → SV) (mm : Nat → Option Blk) : eRes tys (fill g 0 (M3 a )) mm fn.results.toList = some [.a (.v (.slice none 0 0))] := by kernel_rfl
theorem run (a : Option Addr) : RunsF Tryd.prog GT 0 body (startT fn [.o (.a (.v (.slice a 0 0)))]) ([] : List Blk) (EndsM tys fn (endsQ (.o (.a (.v (.slice none 0 0)))) .none)) := by
  refine Runs.of_outXP tys_ok mixed 2 (s0 a ) trivial (i0 a ) rfl fun g => ?_
  rw [suf_eq]
  refine Runs.seq (Runs.seq (Runs.of_outX tys_ok mixed (a1 a g) trivial (i1 a ) rfl fun g => ?_))
  refine Runs.block ?_
  refine Runs.loopX (fun (_ : Unit) => M1 a ) (fun _ => ([] : List Blk)) (fun _ => True) (fun _ => 0) ?_ () trivial g
  rintro _ g _
  refine Runs.of_outX tys_ok mixed (o a g) trivial (i2 a ) rfl fun g => ?_
  show RunsF _ _ _ _ _ _ _
  exact Runs.of_outX tys_ok mixed (fin a g) trivial (i3 a ) rfl fun g => EndsM.ret (zr a g _) rfl
end n
def specP : List PArg → Option (SV × LEff × Cst)
  | [.winv _ vs n ty] => some (.o (.a (.slg 0 (n * 32))), .new 5 (.gro .u8 (flatB (bvDec vs)) (n * 32) none), [vs = wvals (bvDec vs), (bvDec vs).length = n, n ≤ 8, 0 < n])
  | _ => none
noncomputable def conP : Con Tryd.prog GT := Con.parts tys_ok 24 fn Tryd.func24 (by kernel_rfl) (c := body) (by kernel_rfl) [.winv 32] specP
  (fun ps r e p h hp => by
    unfold specP at h
    split at h <;> cases h
    exact ⟨rfl, fun b hb => by simp only [locBlks, PArg.blk, List.append_nil, List.mem_singleton] at hb; rw [hb]⟩)
  (fun ps r e p cap h hp hi => by
    unfold specP at h
    split at h <;> cases h
    rename_i s vs n ty
    obtain ⟨p1, p2, p3, p4, _⟩ := hp
    have q := w.run0 (bvDec vs) n (cap 0) ty p2 p3 p4
    unfold w.mA at q
    rw [← p1] at q
    exact q)
def specZ : List PArg → Option (SV × LEff × Cst)
  | [.winv _ vs n ty] => some (.o (.a (.v (.slice none 0 0))), .none, [vs = wvals (bvDec vs), n = 0])
  | [.val (.o (.a (.v (.slice a 0 0))))] => some (.o (.a (.v (.slice none 0 0))), .none, [])
  | _ => none
noncomputable def conZ : Con Tryd.prog GT := Con.parts tys_ok 24 fn Tryd.func24 (by kernel_rfl) (c := body) (by kernel_rfl) [.winv 32] specZ
  (fun ps r e p h hp => by
    unfold specZ at h
    split at h <;> cases h
    · exact ⟨rfl, fun b hb => by simp only [locBlks, PArg.blk, List.append_nil, List.mem_singleton] at hb; rw [hb]⟩
    · exact ⟨rfl, fun b hb => by simp [locBlks, PArg.blk] at hb⟩)
  (fun ps r e p cap h hp hi => by
    unfold specZ at h
    split at h <;> cases h
    · rename_i s vs n ty
      obtain ⟨p1, p2, _⟩ := hp
      subst p2
      have q := z.run (bvDec vs) (cap 0) ty
      rw [← p1] at q
      exact q
    · rename_i a
      exact n.run a)
end joi
namespace hss
noncomputable abbrev fn := Tryd.f29
noncomputable def body : Code := bodyOf fn
noncomputable def A1 : Code := cs1 (cs1 (csuf 2 body))
noncomputable def L : Code := cL (cB (cs2 (cs1 (csuf 2 body))))
noncomputable def D : Code := cs2 (csuf 2 body)
theorem suf_eq : csuf 2 body = .seq (.seq A1 (.block 0 (.loop L))) D := by kernel_rfl
noncomputable def Γ : Cons Tryd.prog GT := []
namespace w
def mA (l : List B32) (n c : Nat) (ty : TypeId) : List Blk := [⟨false, ty, .pre .u8 (flatB l)⟩]
def mB (l : List B32) (n c : Nat) (ty : TypeId) (us : List Int) (lo : Nat) (hi : Option Nat) : List Blk := [⟨false, ty, .pre .u8 (flatB l)⟩, ⟨true, 5, .gro .u8 us lo hi⟩]
def M0 (l : List B32) (n c : Nat) (ty : TypeId) : List (Option SV) := maskL 18 0 [(0, .o (.a (.sld 0 0 0 n c))), (3, .o (.a (.v (.slice none 0 0))))]
def MA (l : List B32) (n c : Nat) (ty : TypeId) (i : Int) : List (Option SV) := maskL 18 0 [(0, .o (.a (.sld 0 0 0 n c))), (3, .o (.a (.v (.slice none 0 0)))), (6, .o (.a (int1 .i64 n))), (7, .o (.a (int1 .i64 i)))]
def MB (l : List B32) (n c : Nat) (ty : TypeId) (i : Int) (r : Nat) : List (Option SV) := maskL 18 0 [(0, .o (.a (.sld 0 0 0 n c))), (3, .o (.a (.slg 1 r))), (6, .o (.a (int1 .i64 n))), (7, .o (.a (int1 .i64 i)))]
def MD (r : Nat) : List (Option SV) := maskL 18 0 [(3, .o (.a (.slg 1 r)))]
def MZ (r : Nat) : List (Option SV) := maskL 18 0 [(2, .o (.a (.slg 1 r)))]
theorem i0 (l : List B32) (n c : Nat) (ty : TypeId) : idsIn (mA l n c ty ).length (M0 l n c ty ) (mA l n c ty ) = true := by kernel_rfl
theorem iA (l : List B32) (n c : Nat) (ty : TypeId) (i : Int) : idsIn (mA l n c ty ).length (MA l n c ty i) (mA l n c ty ) = true := by kernel_rfl
theorem iB (l : List B32) (n c : Nat) (ty : TypeId) (us : List Int) (lo : Nat) (hi : Option Nat) (i : Int) (r : Nat) : idsIn (mB l n c ty (us) (lo) hi).length (MB l n c ty i r) (mB l n c ty (us) (lo) hi) = true := by kernel_rfl
theorem iD (l : List B32) (n c : Nat) (ty : TypeId) (us : List Int) (lo : Nat) (hi : Option Nat) (r : Nat) : idsIn (mB l n c ty (us) (lo) hi).length (MD r) (mB l n c ty (us) (lo) hi) = true := by kernel_rfl
theorem iZ (l : List B32) (n c : Nat) (ty : TypeId) (us : List Int) (lo : Nat) (hi : Option Nat) (r : Nat) : idsIn (mB l n c ty (us) (lo) hi).length (MZ r) (mB l n c ty (us) (lo) hi) = true := by kernel_rfl
theorem s0 (l : List B32) (n c : Nat) (ty : TypeId) : outX (mA l n c ty ).length (M0 l n c ty ) (exec Γ tys 300 (cpre 2 body) ⟨startT fn [.o (.a (.sld 0 0 0 n c))], mA l n c ty , []⟩) = some (.normal, live (M0 l n c ty ), (M0 l n c ty ).length, mA l n c ty , []) := by kernel_rfl
theorem a1 (l : List B32) (n c : Nat) (ty : TypeId) (g : Nat → SV) : outX (mA l n c ty ).length (MA l n c ty 0) (exec Γ tys 300 A1 ⟨fill g 0 (M0 l n c ty ), mA l n c ty , []⟩) = some (.normal, live (MA l n c ty 0), (MA l n c ty 0).length, mA l n c ty , []) := by kernel_rfl
theorem t0 (l : List B32) (n c : Nat) (ty : TypeId) (i' : Int) (g : Nat → SV) : outN [0, 1] (MB l n c ty i' 32) (exec Γ tys 100 L ⟨fill g 0 (MA l n c ty 0), mA l n c ty , [(8, [.b true]), (16, [.n i'])]⟩) = some (.normal, (live (MB l n c ty i' 32)).map (SV.ren (piF [0, 1])), (MB l n c ty i' 32).length, (mB l n c ty (((flatB l).drop (offI 0 0 32)).take 32) (32) none).map (fun b => some (b.ren (piF [0, 1]))), [decide ((0 : Int) < n) = true, 0 ≤ (0 : Int), (0 : Int) < n, (0 : Int) ≤ 0, (0 : Int) ≤ 32, (32 : Int) ≤ 32, offI 0 0 32 + 32 ≤ (flatB l).length, 0 < 32, Room Tryd.prog 5 32, IntKind.i64.wrap (0 + 1) = i']) := by kernel_rfl
theorem tg (l : List B32) (n c : Nat) (ty : TypeId) (us : List Int) (r : Nat) (i i' : Int) (g : Nat → SV) : outN [0, 1] (MB l n c ty i' (r + 32)) (exec Γ tys 100 L ⟨fill g 0 (MB l n c ty i r), mB l n c ty (us) (r + 32) none, [(8, [.b true]), (16, [.n i'])]⟩) = some (.normal, (live (MB l n c ty i' (r + 32))).map (SV.ren (piF [0, 1])), (MB l n c ty i' (r + 32)).length, (mB l n c ty (us ++ ((flatB l).drop (offI 0 i 32)).take 32) (r + 32) none).map (fun b => some (b.ren (piF [0, 1]))), [decide (i < n) = true, 0 ≤ i, i < n, (0 : Int) ≤ 0, (0 : Int) ≤ 32, (32 : Int) ≤ 32, offI 0 i 32 + 32 ≤ (flatB l).length, r = us.length, r + 32 ≤ r + 32, IntKind.i64.wrap (i + 1) = i']) := by kernel_rfl
theorem tr (l : List B32) (n c : Nat) (ty : TypeId) (us : List Int) (r : Nat) (i i' : Int) (lo : Nat) (g : Nat → SV) : outN [0, 2] (MB l n c ty i' (r + 32)) (exec Γ tys 100 L ⟨fill g 0 (MB l n c ty i r), mB l n c ty (us) (lo) (some (r + 32)), [(8, [.b true]), (16, [.n i'])]⟩) = some (.normal, (live (MB l n c ty i' (r + 32))).map (SV.ren (piF [0, 2])), (MB l n c ty i' (r + 32)).length, (mB l n c ty (us ++ ((flatB l).drop (offI 0 i 32)).take 32) (r + 32) none).map (fun b => some (b.ren (piF [0, 2]))), [decide (i < n) = true, 0 ≤ i, i < n, (0 : Int) ≤ 0, (0 : Int) ≤ 32, (32 : Int) ≤ 32, offI 0 i 32 + 32 ≤ (flatB l).length, r = us.length, r + 32 ≤ r + 32, Room Tryd.prog 5 (r + 32), IntKind.i64.wrap (i + 1) = i']) := by kernel_rfl
theorem o (l : List B32) (n c : Nat) (ty : TypeId) (us : List Int) (r lo : Nat) (i : Int) (g : Nat → SV) : outX (mB l n c ty (us) (lo) none).length (MD r) (exec Γ tys 300 L ⟨fill g 0 (MB l n c ty i r), mB l n c ty (us) (lo) none, [(8, [.b false])]⟩) = some ((.exit 0), live (MD r), (MD r).length, mB l n c ty (us) (lo) none, [decide (i < n) = false]) := by kernel_rfl
theorem fin (l : List B32) (n c : Nat) (ty : TypeId) (us : List Int) (r lo : Nat) (g : Nat → SV) : outX (mB l n c ty (us) (lo) none).length (MZ r) (exec Γ tys 300 D ⟨fill g 0 (MD r), mB l n c ty (us) (lo) none, []⟩) = some (.ret, live (MZ r), (MZ r).length, mB l n c ty (us) (lo) none, []) := by kernel_rfl
theorem zr (l : List B32) (n c : Nat) (ty : TypeId) (us : List Int) (r lo : Nat) (g : Nat → SV) : eRes tys (fill g 0 (MZ r)) (fun k => (mB l n c ty (us) (lo) none)[k]?) fn.results.toList = some [.a (.slg 1 r)] := by kernel_rfl
theorem run0 (l : List B32) (n c : Nat) (ty : TypeId) (hn : l.length = n) (hb : n ≤ 8) (h0 : 0 < n) : RunsF Tryd.prog GT 1 body (startT fn [.o (.a (.sld 0 0 0 n c))]) (mA l n c ty) (EndsM tys fn (endsQ (.o (.a (.slg 0 (n * 32)))) (.new 5 (.gro .u8 (flatB l) (n * 32) none)))) := by
  have hfl : (flatB l).length = n * 32 := by rw [← hn]; exact flatB_len l
  refine Runs.of_outXP tys_ok mixed 2 (s0 l n c ty) trivial (i0 l n c ty) rfl fun g => ?_
  rw [suf_eq]
  refine Runs.seq (Runs.seq (Runs.of_outX tys_ok mixed (a1 l n c ty g) trivial (iA l n c ty 0) rfl fun g => ?_))
  refine Runs.block ?_
  refine Runs.loopX (fun (i : Nat) => match i with | 0 => MA l n c ty 0 | i + 1 => MB l n c ty ((i + 1 : Nat) : Int) ((i + 1) * 32)) (fun i => match i with | 0 => mA l n c ty | i + 1 => mB l n c ty (flatB (l.take (i + 1))) ((i + 1) * 32) none) (fun i => i ≤ n) (fun i => n - i) ?_ 0 (Nat.zero_le _) g
  rintro i g hi
  rcases i with _ | i
  · have o1 := offq 0
    have f1 := flatB_at l (show 0 < l.length by omega)
    have q := t0 l n c ty ((1 : Nat) : Int) g
    have fx : ((flatB l).drop (offI 0 0 32)).take 32 = flatB (l.take 1) := by
      have h := flatB_next l (show 0 < l.length by omega)
      rw [List.take_zero, show flatB [] = [] from rfl, List.nil_append] at h
      rw [← h, ← f1]; rfl
    rw [fx] at q
    exact Runs.of_outN tys_ok mixed [0, 1] q ⟨decide_eq_true (by omega), by decide, by omega, by decide, by decide, by decide, by show offI 0 ((0 : Nat) : Int) 32 + 32 ≤ _; rw [o1, hfl]; omega, by decide, roomJ 32 (by omega), rfl, trivial⟩ (iB l n c ty _ _ _ _ _) rfl fun g => ⟨1, g, rfl, rfl, by omega, by omega⟩
  · by_cases hin : i + 1 = n
    · refine Runs.of_outX tys_ok mixed (o l n c ty _ _ _ ((i + 1 : Nat) : Int) g) ⟨decide_eq_false (by omega), trivial⟩ (iD l n c ty _ _ _ _) rfl fun g => ?_
      show RunsF _ _ _ _ _ _ _
      rw [show l.take (i + 1) = l by rw [List.take_of_length_le (by omega)], hin]
      exact Runs.of_outX tys_ok mixed (fin l n c ty _ _ _ g) trivial (iZ l n c ty _ _ _ _) rfl fun g => EndsM.ret (zr l n c ty _ _ _ g) ⟨1, rfl, rfl⟩
    · have hi : i + 1 < n := by have hi : i + 1 ≤ n := hi; omega
      have o1 := offq (i + 1)
      have f1 := flatB_at l (show (i + 1) < l.length by omega)
      have fl := flatB_takelen l (show i + 1 ≤ l.length by omega)
      have fx : flatB (l.take (i + 1)) ++ ((flatB l).drop (offI 0 ((i + 1 : Nat) : Int) 32)).take 32 = flatB (l.take (i + 2)) := by
        rw [o1, f1]; exact flatB_next l (by omega)
      have e32 : (i + 1) * 32 + 32 = (i + 1 + 1) * 32 := by omega
      show RunsF _ _ _ _ (fill g 0 (MB l n c ty ((i + 1 : Nat) : Int) ((i + 1) * 32))) (mB l n c ty (flatB (l.take (i + 1))) ((i + 1) * 32) none) _
      refine Runs.room 1 ((i + 1) * 32 + 32) (own := true) (ty := 5) (kd := .u8) (xs := flatB (l.take (i + 1))) (lo := (i + 1) * 32) rfl ?_ ?_
      · have q := tg l n c ty (flatB (l.take (i + 1))) ((i + 1) * 32) ((i + 1 : Nat) : Int) ((i + 2 : Nat) : Int) g
        rw [fx] at q
        exact Runs.of_outN tys_ok mixed [0, 1] q ⟨decide_eq_true (by omega), by omega, by omega, by decide, by decide, by decide, by rw [o1, hfl]; omega, by omega, by omega, wp64 (i + 1) (by omega), trivial⟩ (iB l n c ty _ _ _ _ _) rfl fun g => ⟨i + 2, g, by rw [e32], by rw [e32], by omega, by omega⟩
      · have q := tr l n c ty (flatB (l.take (i + 1))) ((i + 1) * 32) ((i + 1 : Nat) : Int) ((i + 2 : Nat) : Int) ((i + 1) * 32) g
        rw [fx] at q
        exact Runs.of_outN tys_ok mixed [0, 2] q ⟨decide_eq_true (by omega), by omega, by omega, by decide, by decide, by decide, by rw [o1, hfl]; omega, by omega, by omega, roomJ _ (by omega), wp64 (i + 1) (by omega), trivial⟩ (iB l n c ty _ _ _ _ _) rfl fun g => ⟨i + 2, g, by rw [e32], by rw [e32], by omega, by omega⟩
end w
namespace z
def M0 (l : List B32) (c : Nat) (ty : TypeId) : List (Option SV) := maskL 18 0 [(0, .o (.a (.sld 0 0 0 0 c))), (3, .o (.a (.v (.slice none 0 0))))]
def M1 (l : List B32) (c : Nat) (ty : TypeId) : List (Option SV) := maskL 18 0 [(0, .o (.a (.sld 0 0 0 0 c))), (3, .o (.a (.v (.slice none 0 0)))), (6, .o (.a (int1 .i64 0))), (7, .o (.a (int1 .i64 0)))]
def M2 (l : List B32) (c : Nat) (ty : TypeId) : List (Option SV) := maskL 18 0 [(3, .o (.a (.v (.slice none 0 0))))]
def M3 (l : List B32) (c : Nat) (ty : TypeId) : List (Option SV) := maskL 18 0 [(2, .o (.a (.v (.slice none 0 0))))]
theorem i0 (l : List B32) (c : Nat) (ty : TypeId) : idsIn (([⟨false, ty, .pre .u8 (flatB l)⟩] : List Blk)).length (M0 l c ty ) (([⟨false, ty, .pre .u8 (flatB l)⟩] : List Blk)) = true := by kernel_rfl
theorem i1 (l : List B32) (c : Nat) (ty : TypeId) : idsIn (([⟨false, ty, .pre .u8 (flatB l)⟩] : List Blk)).length (M1 l c ty ) (([⟨false, ty, .pre .u8 (flatB l)⟩] : List Blk)) = true := by kernel_rfl
theorem i2 (l : List B32) (c : Nat) (ty : TypeId) : idsIn (([⟨false, ty, .pre .u8 (flatB l)⟩] : List Blk)).length (M2 l c ty ) (([⟨false, ty, .pre .u8 (flatB l)⟩] : List Blk)) = true := by kernel_rfl
theorem i3 (l : List B32) (c : Nat) (ty : TypeId) : idsIn (([⟨false, ty, .pre .u8 (flatB l)⟩] : List Blk)).length (M3 l c ty ) (([⟨false, ty, .pre .u8 (flatB l)⟩] : List Blk)) = true := by kernel_rfl
theorem s0 (l : List B32) (c : Nat) (ty : TypeId) : outX (([⟨false, ty, .pre .u8 (flatB l)⟩] : List Blk)).length (M0 l c ty ) (exec Γ tys 300 (cpre 2 body) ⟨startT fn [.o (.a (.sld 0 0 0 0 c))], ([⟨false, ty, .pre .u8 (flatB l)⟩] : List Blk), []⟩) = some (.normal, live (M0 l c ty ), (M0 l c ty ).length, ([⟨false, ty, .pre .u8 (flatB l)⟩] : List Blk), []) := by kernel_rfl
theorem a1 (l : List B32) (c : Nat) (ty : TypeId) (g : Nat → SV) : outX (([⟨false, ty, .pre .u8 (flatB l)⟩] : List Blk)).length (M1 l c ty ) (exec Γ tys 300 A1 ⟨fill g 0 (M0 l c ty ), ([⟨false, ty, .pre .u8 (flatB l)⟩] : List Blk), []⟩) = some (.normal, live (M1 l c ty ), (M1 l c ty ).length, ([⟨false, ty, .pre .u8 (flatB l)⟩] : List Blk), []) := by kernel_rfl
theorem o (l : List B32) (c : Nat) (ty : TypeId) (g : Nat → SV) : outX (([⟨false, ty, .pre .u8 (flatB l)⟩] : List Blk)).length (M2 l c ty ) (exec Γ tys 300 L ⟨fill g 0 (M1 l c ty ), ([⟨false, ty, .pre .u8 (flatB l)⟩] : List Blk), []⟩) = some ((.exit 0), live (M2 l c ty ), (M2 l c ty ).length, ([⟨false, ty, .pre .u8 (flatB l)⟩] : List Blk), []) := by kernel_rfl
theorem fin (l : List B32) (c : Nat) (ty : TypeId) (g : Nat → SV) : outX (([⟨false, ty, .pre .u8 (flatB l)⟩] : List Blk)).length (M3 l c ty ) (exec Γ tys 300 D ⟨fill g 0 (M2 l c ty ), ([⟨false, ty, .pre .u8 (flatB l)⟩] : List Blk), []⟩) = some (.ret, live (M3 l c ty ), (M3 l c ty ).length, ([⟨false, ty, .pre .u8 (flatB l)⟩] : List Blk), []) := by kernel_rfl
theorem zr (l : List B32) (c : Nat) (ty : TypeId) (g : Nat → SV) (mm : Nat → Option Blk) : eRes tys (fill g 0 (M3 l c ty )) mm fn.results.toList = some [.a (.v (.slice none 0 0))] := by kernel_rfl
theorem run (l : List B32) (c : Nat) (ty : TypeId) : RunsF Tryd.prog GT 1 body (startT fn [.o (.a (.sld 0 0 0 0 c))]) ([⟨false, ty, .pre .u8 (flatB l)⟩] : List Blk) (EndsM tys fn (endsQ (.o (.a (.v (.slice none 0 0)))) .none)) := by
  refine Runs.of_outXP tys_ok mixed 2 (s0 l c ty ) trivial (i0 l c ty ) rfl fun g => ?_
  rw [suf_eq]
  refine Runs.seq (Runs.seq (Runs.of_outX tys_ok mixed (a1 l c ty g) trivial (i1 l c ty ) rfl fun g => ?_))
  refine Runs.block ?_
  refine Runs.loopX (fun (_ : Unit) => M1 l c ty ) (fun _ => ([⟨false, ty, .pre .u8 (flatB l)⟩] : List Blk)) (fun _ => True) (fun _ => 0) ?_ () trivial g
  rintro _ g _
  refine Runs.of_outX tys_ok mixed (o l c ty g) trivial (i2 l c ty ) rfl fun g => ?_
  show RunsF _ _ _ _ _ _ _
  exact Runs.of_outX tys_ok mixed (fin l c ty g) trivial (i3 l c ty ) rfl fun g => EndsM.ret (zr l c ty g _) rfl
end z
namespace n
def M0 (a : Option Addr) : List (Option SV) := maskL 18 0 [(0, .o (.a (.v (.slice a 0 0)))), (3, .o (.a (.v (.slice none 0 0))))]
def M1 (a : Option Addr) : List (Option SV) := maskL 18 0 [(0, .o (.a (.v (.slice a 0 0)))), (3, .o (.a (.v (.slice none 0 0)))), (6, .o (.a (int1 .i64 0))), (7, .o (.a (int1 .i64 0)))]
def M2 (a : Option Addr) : List (Option SV) := maskL 18 0 [(3, .o (.a (.v (.slice none 0 0))))]
def M3 (a : Option Addr) : List (Option SV) := maskL 18 0 [(2, .o (.a (.v (.slice none 0 0))))]
theorem i0 (a : Option Addr) : idsIn (([] : List Blk)).length (M0 a ) (([] : List Blk)) = true := by kernel_rfl
theorem i1 (a : Option Addr) : idsIn (([] : List Blk)).length (M1 a ) (([] : List Blk)) = true := by kernel_rfl
theorem i2 (a : Option Addr) : idsIn (([] : List Blk)).length (M2 a ) (([] : List Blk)) = true := by kernel_rfl
theorem i3 (a : Option Addr) : idsIn (([] : List Blk)).length (M3 a ) (([] : List Blk)) = true := by kernel_rfl
theorem s0 (a : Option Addr) : outX (([] : List Blk)).length (M0 a ) (exec Γ tys 300 (cpre 2 body) ⟨startT fn [.o (.a (.v (.slice a 0 0)))], ([] : List Blk), []⟩) = some (.normal, live (M0 a ), (M0 a ).length, ([] : List Blk), []) := by kernel_rfl
theorem a1 (a : Option Addr) (g : Nat → SV) : outX (([] : List Blk)).length (M1 a ) (exec Γ tys 300 A1 ⟨fill g 0 (M0 a ), ([] : List Blk), []⟩) = some (.normal, live (M1 a ), (M1 a ).length, ([] : List Blk), []) := by kernel_rfl
theorem o (a : Option Addr) (g : Nat → SV) : outX (([] : List Blk)).length (M2 a ) (exec Γ tys 300 L ⟨fill g 0 (M1 a ), ([] : List Blk), []⟩) = some ((.exit 0), live (M2 a ), (M2 a ).length, ([] : List Blk), []) := by kernel_rfl
theorem fin (a : Option Addr) (g : Nat → SV) : outX (([] : List Blk)).length (M3 a ) (exec Γ tys 300 D ⟨fill g 0 (M2 a ), ([] : List Blk), []⟩) = some (.ret, live (M3 a ), (M3 a ).length, ([] : List Blk), []) := by kernel_rfl
theorem zr (a : Option Addr) (g : Nat → SV) (mm : Nat → Option Blk) : eRes tys (fill g 0 (M3 a )) mm fn.results.toList = some [.a (.v (.slice none 0 0))] := by kernel_rfl
theorem run (a : Option Addr) : RunsF Tryd.prog GT 0 body (startT fn [.o (.a (.v (.slice a 0 0)))]) ([] : List Blk) (EndsM tys fn (endsQ (.o (.a (.v (.slice none 0 0)))) .none)) := by
  refine Runs.of_outXP tys_ok mixed 2 (s0 a ) trivial (i0 a ) rfl fun g => ?_
  rw [suf_eq]
  refine Runs.seq (Runs.seq (Runs.of_outX tys_ok mixed (a1 a g) trivial (i1 a ) rfl fun g => ?_))
  refine Runs.block ?_
  refine Runs.loopX (fun (_ : Unit) => M1 a ) (fun _ => ([] : List Blk)) (fun _ => True) (fun _ => 0) ?_ () trivial g
  rintro _ g _
  refine Runs.of_outX tys_ok mixed (o a g) trivial (i2 a ) rfl fun g => ?_
  show RunsF _ _ _ _ _ _ _
  exact Runs.of_outX tys_ok mixed (fin a g) trivial (i3 a ) rfl fun g => EndsM.ret (zr a g _) rfl
end n
def specP : List PArg → Option (SV × LEff × Cst)
  | [.winv _ vs n ty] => some (.o (.a (.slg 0 (n * 32))), .new 5 (.gro .u8 (flatB (bvDec vs)) (n * 32) none), [vs = wvals (bvDec vs), (bvDec vs).length = n, n ≤ 8, 0 < n])
  | _ => none
noncomputable def conP : Con Tryd.prog GT := Con.parts tys_ok 29 fn Tryd.func29 (by kernel_rfl) (c := body) (by kernel_rfl) [.winv 32] specP
  (fun ps r e p h hp => by
    unfold specP at h
    split at h <;> cases h
    exact ⟨rfl, fun b hb => by simp only [locBlks, PArg.blk, List.append_nil, List.mem_singleton] at hb; rw [hb]⟩)
  (fun ps r e p cap h hp hi => by
    unfold specP at h
    split at h <;> cases h
    rename_i s vs n ty
    obtain ⟨p1, p2, p3, p4, _⟩ := hp
    have q := Runs.rowW (P := Tryd.prog) (G := GT) (F := 1) (c := body) (tm := startT fn [.o (.a (.sld 0 0 0 n (cap 0)))]) (mem := [⟨false, ty, .prv (wvals (bvDec vs))⟩]) 0 (.pre .u8 (flatB (bvDec vs))) rfl (wv_pre (bvDec vs)) rfl (w.run0 (bvDec vs) n (cap 0) ty p2 p3 p4)
    rw [← p1] at q
    exact q)
def specZ : List PArg → Option (SV × LEff × Cst)
  | [.winv _ vs n ty] => some (.o (.a (.v (.slice none 0 0))), .none, [vs = wvals (bvDec vs), n = 0])
  | [.val (.o (.a (.v (.slice a 0 0))))] => some (.o (.a (.v (.slice none 0 0))), .none, [])
  | _ => none
noncomputable def conZ : Con Tryd.prog GT := Con.parts tys_ok 29 fn Tryd.func29 (by kernel_rfl) (c := body) (by kernel_rfl) [.winv 32] specZ
  (fun ps r e p h hp => by
    unfold specZ at h
    split at h <;> cases h
    · exact ⟨rfl, fun b hb => by simp only [locBlks, PArg.blk, List.append_nil, List.mem_singleton] at hb; rw [hb]⟩
    · exact ⟨rfl, fun b hb => by simp [locBlks, PArg.blk] at hb⟩)
  (fun ps r e p cap h hp hi => by
    unfold specZ at h
    split at h <;> cases h
    · rename_i s vs n ty
      obtain ⟨p1, p2, _⟩ := hp
      subst p2
      have q := Runs.rowW (P := Tryd.prog) (G := GT) (F := 1) (c := body) (tm := startT fn [.o (.a (.sld 0 0 0 0 (cap 0)))]) (mem := [⟨false, ty, .prv (wvals (bvDec vs))⟩]) 0 (.pre .u8 (flatB (bvDec vs))) rfl (wv_pre (bvDec vs)) rfl (z.run (bvDec vs) (cap 0) ty)
      rw [← p1] at q
      exact q
    · rename_i a
      exact n.run a)
end hss
end Go.Proofs.YthlmepolmemejaaDoor

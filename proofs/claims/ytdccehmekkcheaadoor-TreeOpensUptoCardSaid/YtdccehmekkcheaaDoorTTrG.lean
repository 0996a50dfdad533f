/- Packages tree, beaconref11, beaconref07: common bits, first bits, the order: contracts. -/
import Derived.Test.YtdccehmekkcheaaDoorTTrF
namespace Go.Proofs.YtdccehmekkcheaaDoor
open Go Go.Eng Go.RowKit
set_option linter.unusedVariables false
set_option linter.unusedSimpArgs false
set_option maxRecDepth 100000
theorem xor_tab : tabL (fun x => tabL (fun y => bits .xor .u8 (x : Int) (y : Int)) 256) 256 = tabR (fun x => tabR (fun y => ((Nat.xor x y : Nat) : Int)) 256) 256 := by kernel_rfl
theorem xor_eq {x y : Int} (hx : Byte x) (hy : Byte y) : bits .xor .u8 x y = ((x.toNat ^^^ y.toNat : Nat) : Int) := by
  obtain ⟨x0, x1⟩ := hx
  obtain ⟨y0, y1⟩ := hy
  have h := S3.tab_get xor_tab x.toNat (by omega)
  have h2 : bits .xor .u8 (x.toNat : Int) (y.toNat : Int) = ((Nat.xor x.toNat y.toNat : Nat) : Int) := S3.tab_get h y.toNat (by omega)
  rw [Int.toNat_of_nonneg x0, Int.toNat_of_nonneg y0] at h2
  exact h2
theorem bt_nat (x k : Nat) : bt (x : Int) k = x.testBit k := by
  unfold bt
  rw [Nat.testBit_eq_decide_div_mod_eq, Bool.eq_iff_iff, beq_iff_eq, decide_eq_true_eq]
  have : ((x : Int) / 2 ^ k % 2) = ((x / 2 ^ k % 2 : Nat) : Int) := by simp
  rw [this]
  omega
theorem bt_xor {x y : Int} (hx : Byte x) (hy : Byte y) (k : Nat) : bt (bits .xor .u8 x y) k = (bt x k != bt y k) := by
  rw [xor_eq hx hy, bt_nat, Nat.testBit_xor]
  have e1 : bt x k = x.toNat.testBit k := by rw [← bt_nat, Int.toNat_of_nonneg hx.1]
  have e2 : bt y k = y.toNat.testBit k := by rw [← bt_nat, Int.toNat_of_nonneg hy.1]
  rw [e1, e2]
theorem xor_byte {x y : Int} (hx : Byte x) (hy : Byte y) : Byte (bits .xor .u8 x y) := by
  rw [xor_eq hx hy]
  have h : x.toNat ^^^ y.toNat < 2 ^ 8 := Nat.xor_lt_two_pow (by obtain ⟨_, _⟩ := hx; omega) (by obtain ⟨_, _⟩ := hy; omega)
  exact ⟨by omega, by omega⟩
theorem len_tab : (List.range 256).all (fun z => Nat.beq z 0 || ((z.testBit (lenN z - 1)) && (List.range 8).all fun k => !(Nat.ble (lenN z) k && z.testBit k))) = true := by decide +kernel
theorem len_top {z : Nat} (h0 : z ≠ 0) (h : z < 256) : z.testBit (lenN z - 1) = true ∧ 1 ≤ lenN z ∧ ∀ k, lenN z ≤ k → k < 8 → z.testBit k = false := by
  have := List.all_eq_true.1 len_tab z (List.mem_range.2 h)
  rw [Bool.or_eq_true, Nat.beq_eq, Bool.and_eq_true] at this
  rcases this with q | ⟨q1, q2⟩
  · exact absurd q h0
  · refine ⟨q1, ?_, fun k hk h8 => ?_⟩
    · unfold lenN
      rw [if_neg h0]
      repeat' split
      all_goals omega
    · have := List.all_eq_true.1 q2 k (List.mem_range.2 h8)
      rw [Bool.not_eq_true', Bool.and_eq_false_iff] at this
      rcases this with r | r
      · rw [show Nat.ble (lenN z) k = true by rw [Nat.ble_eq]; exact hk] at r; cases r
      · exact r
theorem byte_diff {a b : B32} (ha : BOk a) (hb : BOk b) {j : Nat} (hj : j < 32) (he : ∀ i, i < j → a.at i = b.at i) (hx : (!(bits .xor .u8 (a.at j) (b.at j) == 0)) = true) :
    comV a b = 8 * j + (8 - lenN (bits .xor .u8 (a.at j) (b.at j)).toNat) := by
  have hz := xor_byte (ha j) (hb j)
  have hx0 : bits .xor .u8 (a.at j) (b.at j) ≠ 0 := by simpa using hx
  have hbt := bt_xor (ha j) (hb j)
  generalize bits .xor .u8 (a.at j) (b.at j) = z at *
  obtain ⟨z0, z1⟩ := hz
  obtain ⟨t1, t2, t3⟩ := len_top (z := z.toNat) (by omega) (by omega)
  have tb : ∀ k, z.toNat.testBit k = (bt (a.at j) k != bt (b.at j) k) := fun k => by rw [← hbt, ← bt_nat, Int.toNat_of_nonneg z0]
  have hl := lenN_le z.toNat
  refine com_is (by omega) (fun i hi => ?_) ?_
  · unfold bitV
    rcases Nat.lt_or_ge (i / 8) j with h | h
    · rw [he _ h]
    · obtain h2 : i / 8 = j := by omega
      rw [h2]
      have := t3 (7 - i % 8) (by omega) (by omega)
      rw [tb] at this
      simpa using this
  · unfold bitV
    rw [show (8 * j + (8 - lenN z.toNat)) / 8 = j by omega, show 7 - (8 * j + (8 - lenN z.toNat)) % 8 = lenN z.toNat - 1 by omega]
    rw [tb] at t1
    simpa using t1
theorem bytes_com {a b : B32} (h : ∀ i, i < 32 → a.at i = b.at i) : comV a b = 256 := by
  obtain rfl := b32_ext h
  exact com_self _
namespace tcom
theorem run (a b : B32) (ha : BOk a) (hb : BOk b) : Runs Tryd.prog GT body (startT fn [cB32.enc a, cB32.enc b]) [] (Eng.Ends tys fn ((cInt .i64).enc (comV a b : Nat))) := by
  refine Runs.of_outXP tys_ok mixed 1 (s0 a b) trivial (ids0 a b) rfl fun g => ?_
  rw [suf_eq]
  refine Runs.seq (Runs.seq (Runs.of_outX tys_ok mixed (a1 a b g) trivial (ids1 a b _) rfl fun g => ?_))
  refine Runs.block ?_
  refine Runs.loopX (fun (j : Nat) => M1 a b (j : Int)) (fun _ => mem a b) (fun j => j ≤ 32 ∧ ∀ i, i < j → a.at i = b.at i) (fun j => 32 - j) ?_ 0 ⟨Nat.zero_le _, fun i hi => absurd hi (by omega)⟩ g
  rintro j g ⟨hj, he⟩
  rcases Nat.lt_or_ge j 32 with h | h
  · cases hx : (!(bits .xor .u8 (a.at j) (b.at j) == 0)) with
    | false =>
      have h0 : bits .xor .u8 (a.at j) (b.at j) = 0 := by simpa using hx
      refine Runs.of_outX tys_ok mixed (S3.tab_get (stp a b g) j h) ⟨h0, trivial⟩ (ids1 a b _) rfl fun g => ?_
      refine ⟨j + 1, g, rfl, rfl, ⟨by omega, fun i hi => ?_⟩, by omega⟩
      rcases Nat.lt_or_ge i j with h1 | h1
      · exact he i h1
      · obtain rfl : i = j := by omega
        refine byte_ext (ha i) (hb i) fun k _ => ?_
        have := bt_xor (ha i) (hb i) k
        rw [h0] at this
        have z : bt 0 k = false := by
          unfold bt
          simp
        rw [z] at this
        simpa using this.symm
    | true =>
      have hd := byte_diff ha hb h he hx
      have hl := lenN_le (bits .xor .u8 (a.at j) (b.at j)).toNat
      refine Runs.of_outX tys_ok mixed (S3.tab_get (hit a b _ _ (comV a b : Nat) g) j h) ⟨rfl, hx, xor_byte (ha j) (hb j), rfl, ?_, trivial⟩ (idsZ a b _) rfl fun g => Ends.ret (zr a b _ g) rfl
      rw [hd, IntKind.wrap_i64, IntKind.wrap_i64]
      omega
  · obtain rfl : j = 32 := by omega
    refine Runs.of_outX tys_ok mixed (out a b g) trivial (ids0 a b) rfl fun g => ?_
    show RunsF _ _ _ _ _ _ _
    refine Runs.of_outX tys_ok mixed (fin a b g) trivial (idsZ a b _) rfl fun g => Ends.ret (zr a b _ g) ?_
    rw [bytes_com he]
    rfl
noncomputable def con : Con Tryd.prog GT := con2 64 fn Tryd.func64 (by kernel_rfl) (by kernel_rfl) cB32 cB32 (fun a b => (cInt .i64).enc (comV a b : Nat)) (fun a b => [BOk a, BOk b]) (fun _ _ => rfl) fun a b h =>
  FnOk.of_runs tys_ok Tryd.func64 (c := body) (by kernel_rfl) (run a b h.1 h.2.1) rfl rfl
end tcom
namespace rcom
theorem run (a b : B32) (n : Int) (ha : BOk a) (hb : BOk b) (h0 : 0 ≤ n) (h1 : n ≤ 256) : Runs Tryd.prog GT body (startT fn [cB32.enc a, cB32.enc b, .o (.a (int1 .i64 n))]) [] (Eng.Ends tys fn ((cInt .i64).enc ((min n.toNat (comV a b) : Nat) : Int))) := by
  refine Runs.of_outXP tys_ok mixed 2 (s0 a b n) trivial (ids1 a b n _) rfl fun g => ?_
  rw [suf_eq]
  refine Runs.seq (Runs.block ?_)
  refine Runs.loopX (fun (j : Nat) => M1 a b n (j : Int)) (fun _ => mem a b n) (fun j => (j : Int) ≤ n ∧ ∀ i, i < j → bitV a i = bitV b i) (fun j => 256 - j) ?_ 0 ⟨h0, fun i hi => absurd hi (by omega)⟩ g
  rintro j g ⟨hj, he⟩
  have done : j = min n.toNat (comV a b) → ∀ g, RunsF Tryd.prog GT 0 D (fill g 0 (M1 a b n (j : Int))) (mem a b n) (Eng.Ends tys fn ((cInt .i64).enc ((min n.toNat (comV a b) : Nat) : Int))) := fun hm g => by
    refine Runs.of_outX tys_ok mixed (fin a b n _ g) trivial (idsZ a b n _) rfl fun g => Ends.ret (zr a b n _ g) ?_
    rw [← hm]
    rfl
  rcases (by omega : (j : Int) < n ∨ n ≤ (j : Int)) with h | h
  · have hA : (cInt .u8).enc (bitI a ((j : Int)).toNat) = (cInt .u8).enc (bitI a j) := rfl
    have hB : (cInt .u8).enc (bitI b ((j : Int)).toNat) = (cInt .u8).enc (bitI b j) := rfl
    have hbit : (bitI a j == bitI b j) = (bitV a j == bitV b j) := by
      unfold bitI
      cases bitV a j <;> cases bitV b j <;> rfl
    cases hx : (bitV a j == bitV b j) with
    | true =>
      refine Runs.of_outX tys_ok mixed (S3.tab_get (stp a b n _ _ g) j (by omega)) ⟨decide_eq_true h, by omega, by omega, ha, hA, by omega, by omega, hb, hB, hbit.trans hx, trivial⟩ (ids1 a b n _) rfl fun g => ?_
      refine ⟨j + 1, g, rfl, rfl, ⟨by omega, fun i hi => ?_⟩, by omega⟩
      rcases Nat.lt_or_ge i j with h2 | h2
      · exact he i h2
      · obtain rfl : i = j := by omega
        simpa using hx
    | false =>
      refine Runs.of_outX tys_ok mixed (S3.tab_get (dif a b n _ _ g) j (by omega)) ⟨decide_eq_true h, by omega, by omega, ha, hA, by omega, by omega, hb, hB, hbit.trans hx, trivial⟩ (ids1 a b n _) rfl fun g => ?_
      show RunsF _ _ _ _ _ _ _
      refine done ?_ g
      rw [com_is (show j < 256 by omega) he (by simpa using hx)]
      omega
  · refine Runs.of_outX tys_ok mixed (S3.tab_get (out a b n g) j (by omega)) ⟨decide_eq_false (by omega), trivial⟩ (ids1 a b n _) rfl fun g => ?_
    show RunsF _ _ _ _ _ _ _
    refine done ?_ g
    have := le_com (show j ≤ 256 by omega) he
    omega
noncomputable def con : Con Tryd.prog GT := con3 62 fn Tryd.func62 (by kernel_rfl) (by kernel_rfl) cB32 cB32 (cInt .i64) (fun a b n => (cInt .i64).enc ((min n.toNat (comV a b) : Nat) : Int)) (fun a b n => [BOk a, BOk b, 0 ≤ n, n ≤ 256]) (fun _ _ _ => rfl) fun a b n h =>
  FnOk.of_runs tys_ok Tryd.func62 (c := body) (by kernel_rfl) (run a b n h.1 h.2.1 h.2.2.1 h.2.2.2.1) rfl rfl
end rcom
theorem set_at (o : B32) (k : Nat) (v : Int) {i : Nat} (hi : i < 32) : (setB o k v).at i = if i = k then v else o.at i := by
  unfold setB
  rw [at_mk _ hi]
  by_cases h : i = k
  · subst h; rw [if_pos rfl]; simp
  · rw [if_neg h]
    have : Nat.beq i k = false := by rw [← Bool.not_eq_true, Nat.beq_eq]; exact h
    rw [this, cond_false]
theorem and_tab : tabL (fun x => tabL (fun r => bits .and .u8 (x : Int) (IntKind.u8.wrap (255 * 2 ^ r))) 8) 256 = tabR (fun x => tabR (fun r => (x : Int) / 2 ^ r * 2 ^ r) 8) 256 := by kernel_rfl
theorem and_top {x : Int} (hx : Byte x) {r : Nat} (hr : r < 8) : bits .and .u8 x (IntKind.u8.wrap (255 * 2 ^ r)) = x / 2 ^ r * 2 ^ r := by
  obtain ⟨x0, x1⟩ := hx
  have h2 : bits .and .u8 (x.toNat : Int) (IntKind.u8.wrap (255 * 2 ^ r)) = (x.toNat : Int) / 2 ^ r * 2 ^ r := S3.tab_get (S3.tab_get and_tab x.toNat (by omega)) r hr
  rw [Int.toNat_of_nonneg x0] at h2
  exact h2
theorem or_tab : tabL (fun x => tabL (fun r => bits .or .u8 ((x : Int) / 2 ^ (8 - r) * 2 ^ (8 - r)) (IntKind.u8.wrap ((x : Int) / 2 ^ (7 - r) % 2 * 2 ^ (7 - r)))) 8) 256 = tabR (fun x => tabR (fun r => (x : Int) / 2 ^ (7 - r) * 2 ^ (7 - r)) 8) 256 := by kernel_rfl
theorem or_top {x : Int} (hx : Byte x) {r : Nat} (hr : r < 8) : bits .or .u8 (x / 2 ^ (8 - r) * 2 ^ (8 - r)) (IntKind.u8.wrap (x / 2 ^ (7 - r) % 2 * 2 ^ (7 - r))) = x / 2 ^ (7 - r) * 2 ^ (7 - r) := by
  obtain ⟨x0, x1⟩ := hx
  have h2 : bits .or .u8 ((x.toNat : Int) / 2 ^ (8 - r) * 2 ^ (8 - r)) (IntKind.u8.wrap ((x.toNat : Int) / 2 ^ (7 - r) % 2 * 2 ^ (7 - r))) = (x.toNat : Int) / 2 ^ (7 - r) * 2 ^ (7 - r) := S3.tab_get (S3.tab_get or_tab x.toNat (by omega)) r hr
  rw [Int.toNat_of_nonneg x0] at h2
  exact h2
theorem ble_t {a b : Nat} (h : a ≤ b) : Nat.ble a b = true := by rw [Nat.ble_eq]; exact h
theorem ble_f {a b : Nat} (h : b < a) : Nat.ble a b = false := by rw [← Bool.not_eq_true, Nat.ble_eq]; omega
theorem top_lt (x : Int) {r : Nat} (h : r < 8) : topB x r = x / 2 ^ (8 - r) * 2 ^ (8 - r) := by unfold topB; rw [ble_f h, cond_false]
theorem top_ge (x : Int) {r : Nat} (h : 8 ≤ r) : topB x r = x := by unfold topB; rw [ble_t h, cond_true]
theorem top_zero {x : Int} (hx : Byte x) : topB x 0 = 0 := by
  rw [top_lt _ (by omega)]
  obtain ⟨x0, x1⟩ := hx
  simp only [Nat.sub_zero, Int.reducePow]
  omega
theorem fst_at (b : B32) (n : Nat) {i : Nat} (hi : i < 32) : (fstV b n).at i = topB (b.at i) (n - 8 * i) := by unfold fstV; rw [at_mk _ hi]
namespace tfst
theorem run (b : B32) (n : Int) (hb : BOk b) (h0 : 0 ≤ n) (h1 : n ≤ 256) : Runs Tryd.prog GT body (startT fn [cB32.enc b, .o (.a (int1 .i64 n))]) [] (Eng.Ends tys fn (cB32.enc (fstV b n.toNat))) := by
  refine Runs.of_outXP tys_ok mixed 1 (s0 n b) trivial (ids0 n _ _) rfl fun g => ?_
  rw [suf_eq]
  refine Runs.seq (Runs.seq (Runs.of_outX tys_ok mixed (a1 n b g) trivial (ids1 n _ _ _) rfl fun g => ?_))
  refine Runs.block ?_
  refine Runs.loopX (fun (x : Nat × B32) => M1 n (x.1 : Int)) (fun x => mem x.2 zB) (fun x => x.1 ≤ 32 ∧ (∀ i, i < x.1 → x.2.at i = (fstV b n.toNat).at i) ∧ ∀ i, x.1 ≤ i → i < 32 → x.2.at i = b.at i) (fun x => 32 - x.1) ?_ (0, b) ⟨Nat.zero_le _, fun i hi => absurd hi (by omega), fun i _ _ => rfl⟩ g
  rintro ⟨j, o⟩ g ⟨hj, he, hf⟩
  simp only at hj he hf
  rcases Nat.lt_or_ge j 32 with h | h
  · have hl : IntKind.i64.wrap (n - IntKind.i64.wrap (8 * ((j : Nat) : Int))) = n - 8 * j := by
      rw [IntKind.wrap_i64, IntKind.wrap_i64]; omega
    have next : ∀ v, (v = (fstV b n.toNat).at j) → (∀ i, i < j + 1 → (setB o j v).at i = (fstV b n.toNat).at i) ∧ ∀ i, j + 1 ≤ i → i < 32 → (setB o j v).at i = b.at i := fun v hv => by
      refine ⟨fun i hi => ?_, fun i hi hi2 => ?_⟩
      · rw [set_at _ _ _ (by omega)]
        by_cases e : i = j
        · rw [if_pos e, e, hv]
        · rw [if_neg e]; exact he i (by omega)
      · rw [set_at _ _ _ hi2, if_neg (by omega)]; exact hf i (by omega) hi2
    have hv := fst_at b n.toNat h
    have hoj := hf j (Nat.le_refl _) h
    rcases (by omega : 0 < n - 8 * (j : Int) ∨ n - 8 * (j : Int) ≤ 0) with g1 | g1
    · rcases (by omega : n - 8 * (j : Int) < 8 ∨ 8 ≤ n - 8 * (j : Int)) with g2 | g2
      · obtain ⟨d, hd⟩ : ∃ d : Nat, 8 - (n - 8 * j) = d := ⟨(8 - (n - 8 * j)).toNat, by omega⟩
        have hd8 : d < 8 := by omega
        have e1 : (8 * j + d) / 8 = j := by omega
        have e2 : (8 * j + d) % 8 = d := by omega
        have q := S3.tab_get (mid n o (n - 8 * j) ((fstV b n.toNat).at j) g) (8 * j + d) (by omega)
        simp only [e1, e2] at q
        refine Runs.of_outX tys_ok mixed q ⟨hl, decide_eq_false (by omega), decide_eq_true g2, by rw [IntKind.wrap_i64]; omega, ?_, trivial⟩ (ids1 n _ _ _) rfl fun g => ?_
        · rw [hoj, and_top (hb j) hd8, hv, top_lt _ (by omega), show 8 - (n.toNat - 8 * j) = d by omega]
        · obtain ⟨p1, p2⟩ := next _ rfl
          exact ⟨(j + 1, setB o j _), g, rfl, rfl, ⟨by omega, p1, p2⟩, by simp only; omega⟩
      · refine Runs.of_outX tys_ok mixed (S3.tab_get (pos n o _ g) j h) ⟨hl, decide_eq_false (by omega), decide_eq_false (by omega), trivial⟩ (ids1 n _ _ _) rfl fun g => ?_
        refine ⟨(j + 1, o), g, rfl, rfl, ⟨by simp only; omega, fun i hi => ?_, fun i hi hi2 => hf i (by simp only at hi; omega) hi2⟩, by simp only; omega⟩
        simp only at hi ⊢
        by_cases e : i = j
        · rw [e, hv, top_ge _ (by omega)]; exact hoj
        · exact he i (by omega)
    · refine Runs.of_outX tys_ok mixed (S3.tab_get (neg n o _ g) j h) ⟨hl, decide_eq_true g1, trivial⟩ (ids1 n _ _ _) rfl fun g => ?_
      obtain ⟨p1, p2⟩ := next 0 (by rw [hv, show n.toNat - 8 * j = 0 by omega, top_zero (hb j)])
      exact ⟨(j + 1, setB o j 0), g, rfl, rfl, ⟨by simp only; omega, p1, p2⟩, by simp only; omega⟩
  · obtain rfl : j = 32 := by omega
    refine Runs.of_outX tys_ok mixed (out n o g) trivial (ids0 n _ _) rfl fun g => ?_
    show RunsF _ _ _ _ _ _ _
    refine Runs.of_outX tys_ok mixed (fin n o g) trivial (idsZ n _ _) rfl fun g => Ends.ret (zr n _ g) ?_
    rw [← b32_ext fun i hi => he i hi]
    rfl
noncomputable def con : Con Tryd.prog GT := con2 63 fn Tryd.func63 (by kernel_rfl) (by kernel_rfl) cB32 (cInt .i64) (fun b n => cB32.enc (fstV b n.toNat)) (fun b n => [BOk b, 0 ≤ n, n ≤ 256]) (fun _ _ => rfl) fun b n h =>
  FnOk.of_runs tys_ok Tryd.func63 (c := body) (by kernel_rfl) (run b n h.1 h.2.1 h.2.2.1) rfl rfl
end tfst
namespace rfst
theorem run (b : B32) (n : Int) (hb : BOk b) (h0 : 0 ≤ n) (h1 : n ≤ 256) : Runs Tryd.prog GT body (startT fn [cB32.enc b, .o (.a (int1 .i64 n))]) [] (Eng.Ends tys fn (cB32.enc (fstV b n.toNat))) := by
  have z0 : zB = fstV b 0 := b32_ext fun i hi => by
    rw [fst_at _ _ hi, Nat.zero_sub, top_zero (hb i)]
    have : ∀ i : Nat, zB.at i = 0 := fun i => by unfold B32.at; split <;> rfl
    exact this i
  refine Runs.of_outXP tys_ok mixed 2 (s0 b n) trivial (ids0 b n _ _) rfl fun g => ?_
  rw [suf_eq]
  refine Runs.seq (Runs.seq (Runs.of_outX tys_ok mixed (a1 b n zB g) trivial (ids1 b n _ _ _) rfl fun g => ?_))
  rw [show mem b n zB zB = mem b n zB (fstV b 0) by rw [← z0]]
  refine Runs.block ?_
  refine Runs.loopX (fun (j : Nat) => M1 b n (j : Int)) (fun j => mem b n zB (fstV b j)) (fun j => (j : Int) ≤ n) (fun j => 256 - j) ?_ 0 h0 g
  rintro j g hj
  rcases (by omega : (j : Int) < n ∨ n ≤ (j : Int)) with h | h
  · have hA : (cInt .u8).enc (bitI b ((j : Int)).toNat) = (cInt .u8).enc (bitI b j) := rfl
    have hv : bits .or .u8 ((fstV b j).at (j / 8)) (IntKind.u8.wrap (bitI b j * 2 ^ (7 - j % 8))) = (fstV b (j + 1)).at (j / 8) := by
      rw [fst_at _ _ (by omega), fst_at _ _ (by omega), top_lt _ (by omega), show j - 8 * (j / 8) = j % 8 by omega, show j + 1 - 8 * (j / 8) = j % 8 + 1 by omega]
      have hb1 : bitI b j = b.at (j / 8) / 2 ^ (7 - j % 8) % 2 := by
        unfold bitI bitV bt
        have q2 := Int.emod_two_eq (b.at (j / 8) / 2 ^ (7 - j % 8))
        rcases q2 with q2 | q2 <;> rw [q2] <;> rfl
      rw [hb1, or_top (hb _) (by omega)]
      rcases Nat.lt_or_ge (j % 8 + 1) 8 with g1 | g1
      · rw [top_lt _ g1, show 8 - (j % 8 + 1) = 7 - j % 8 by omega]
      · rw [top_ge _ g1, show 7 - j % 8 = 0 by omega, Int.pow_zero, Int.ediv_one, Int.mul_one]
    have hs : setB (fstV b j) (j / 8) ((fstV b (j + 1)).at (j / 8)) = fstV b (j + 1) := b32_ext fun i hi => by
      rw [set_at _ _ _ hi]
      by_cases e : i = j / 8
      · rw [if_pos e, e]
      · rw [if_neg e, fst_at _ _ hi, fst_at _ _ hi]
        rcases Nat.lt_or_ge i (j / 8) with g1 | g1
        · rw [top_ge _ (by omega), top_ge _ (by omega)]
        · rw [show j - 8 * i = 0 by omega, show j + 1 - 8 * i = 0 by omega]
    have q := S3.tab_get (stp b n (fstV b j) (bitI b j) ((fstV b (j + 1)).at (j / 8)) g) j (by omega)
    simp only [hs] at q
    refine Runs.of_outX tys_ok mixed q ⟨decide_eq_true h, by omega, by omega, hb, hA, hv, trivial⟩ (ids1 b n _ _ _) rfl fun g => ?_
    exact ⟨j + 1, g, rfl, rfl, by omega, by omega⟩
  · refine Runs.of_outX tys_ok mixed (S3.tab_get (out b n (fstV b j) g) j (by omega)) ⟨decide_eq_false (by omega), trivial⟩ (ids0 b n _ _) rfl fun g => ?_
    show RunsF _ _ _ _ _ _ _
    refine Runs.of_outX tys_ok mixed (fin b n (fstV b j) g) trivial (idsZ b n _ _) rfl fun g => Ends.ret (zr b n _ g) ?_
    rw [show n.toNat = j by omega]
    rfl
noncomputable def con : Con Tryd.prog GT := con2 27 fn Tryd.func27 (by kernel_rfl) (by kernel_rfl) cB32 (cInt .i64) (fun b n => cB32.enc (fstV b n.toNat)) (fun b n => [BOk b, 0 ≤ n, n ≤ 256]) (fun _ _ => rfl) fun b n h =>
  FnOk.of_runs tys_ok Tryd.func27 (c := body) (by kernel_rfl) (run b n h.1 h.2.1 h.2.2.1) rfl rfl
end rfst
theorem top_eq {x y : Int} (hx : Byte x) (hy : Byte y) : ∀ k, k ≤ 8 → (∀ i, i < k → bt x (7 - i) = bt y (7 - i)) → x / 2 ^ (8 - k) = y / 2 ^ (8 - k)
  | 0, _, _ => by
    obtain ⟨_, _⟩ := hx
    obtain ⟨_, _⟩ := hy
    simp only [Nat.sub_zero, Int.reducePow]
    omega
  | k + 1, hk, h => by
    have ih := top_eq hx hy k (by omega) fun i hi => h i (by omega)
    have e := bt_num (h k (by omega))
    clear h
    obtain q | q | q | q | q | q | q | q : k = 0 ∨ k = 1 ∨ k = 2 ∨ k = 3 ∨ k = 4 ∨ k = 5 ∨ k = 6 ∨ k = 7 := by omega
    all_goals
      subst q
      simp only [Nat.reduceSub, Nat.reduceAdd, Int.reducePow] at ih e ⊢
      omega
theorem byte_lt {x y : Int} (hx : Byte x) (hy : Byte y) {k : Nat} (hk : k < 8) (h : ∀ i, i < k → bt x (7 - i) = bt y (7 - i)) (hd : bt x (7 - k) ≠ bt y (7 - k)) : decide (x < y) = bt y (7 - k) := by
  have ih := top_eq hx hy k (by omega) h
  have hd' : ¬ (x / 2 ^ (7 - k) % 2 = y / 2 ^ (7 - k) % 2) := fun e => hd (by unfold bt; rw [e])
  rw [Bool.eq_iff_iff, decide_eq_true_eq]
  unfold bt
  rw [beq_iff_eq]
  clear h hd
  obtain q | q | q | q | q | q | q | q : k = 0 ∨ k = 1 ∨ k = 2 ∨ k = 3 ∨ k = 4 ∨ k = 5 ∨ k = 6 ∨ k = 7 := by omega
  all_goals
    subst q
    simp only [Nat.reduceSub, Int.reducePow] at ih hd' ⊢
    omega
theorem lt_byte {a b : B32} (ha : BOk a) (hb : BOk b) {j : Nat} (hj : j < 32) (he : ∀ i, i < j → a.at i = b.at i) (hd : a.at j ≠ b.at j) : decide (a.at j < b.at j) = ltV a b := by
  have hx : (!(bits .xor .u8 (a.at j) (b.at j) == 0)) = true := by
    rw [Bool.not_eq_true', ← Bool.not_eq_true, beq_iff_eq]
    intro h0
    refine hd (byte_ext (ha j) (hb j) fun k _ => ?_)
    have := bt_xor (ha j) (hb j) k
    rw [h0] at this
    have z : bt 0 k = false := by
      unfold bt
      simp
    rw [z] at this
    simpa using this.symm
  have hc := byte_diff ha hb hj he hx
  have hz := xor_byte (ha j) (hb j)
  have hl := lenN_le (bits .xor .u8 (a.at j) (b.at j)).toNat
  have h1 : 1 ≤ lenN (bits .xor .u8 (a.at j) (b.at j)).toNat := by
    have hx0 : bits .xor .u8 (a.at j) (b.at j) ≠ 0 := by simpa using hx
    obtain ⟨z0, z1⟩ := hz
    exact (len_top (z := (bits .xor .u8 (a.at j) (b.at j)).toNat) (by omega) (by omega)).2.1
  have hlt : comV a b < 256 := by omega
  generalize hk : 8 - lenN (bits .xor .u8 (a.at j) (b.at j)).toNat = k at hc
  have hk8 : k < 8 := by omega
  have e8 : ∀ i, i < 8 → (8 * j + i) / 8 = j ∧ 7 - (8 * j + i) % 8 = 7 - i := fun i hi => ⟨by omega, by omega⟩
  unfold ltV
  rw [blt_t hlt, cond_true, hc]
  unfold bitV
  rw [(e8 k hk8).1, (e8 k hk8).2]
  refine byte_lt (ha j) (hb j) hk8 (fun i hi => ?_) ?_
  · have := com_eq (a := a) (b := b) (j := 8 * j + i) (by omega)
    unfold bitV at this
    rwa [(e8 i (by omega)).1, (e8 i (by omega)).2] at this
  · have := com_ne hlt
    rw [hc] at this
    unfold bitV at this
    rwa [(e8 k hk8).1, (e8 k hk8).2] at this
namespace blw
theorem run (a b : B32) (ha : BOk a) (hb : BOk b) : Runs Tryd.prog GT body (startT fn [cB32.enc a, cB32.enc b]) [] (Eng.Ends tys fn (cBool.enc (ltV a b))) := by
  refine Runs.of_outXP tys_ok mixed 1 (s0 a b) trivial (ids0 a b) rfl fun g => ?_
  rw [suf_eq]
  refine Runs.seq (Runs.seq (Runs.of_outX tys_ok mixed (a1 a b g) trivial (ids1 a b _) rfl fun g => ?_))
  refine Runs.block ?_
  refine Runs.loopX (fun (j : Nat) => M1 a b (j : Int)) (fun _ => mem a b) (fun j => j ≤ 32 ∧ ∀ i, i < j → a.at i = b.at i) (fun j => 32 - j) ?_ 0 ⟨Nat.zero_le _, fun i hi => absurd hi (by omega)⟩ g
  rintro j g ⟨hj, he⟩
  rcases Nat.lt_or_ge j 32 with h | h
  · cases hx : (a.at j != b.at j) with
    | false =>
      have h0 : a.at j = b.at j := by simpa using hx
      refine Runs.of_outX tys_ok mixed (S3.tab_get (stp a b g) j h) ⟨hx, trivial⟩ (ids1 a b _) rfl fun g => ?_
      refine ⟨j + 1, g, rfl, rfl, ⟨by omega, fun i hi => ?_⟩, by omega⟩
      rcases Nat.lt_or_ge i j with h1 | h1
      · exact he i h1
      · obtain rfl : i = j := by omega
        exact h0
    | true =>
      refine Runs.of_outX tys_ok mixed (S3.tab_get (hit a b _ g) j h) ⟨hx, lt_byte ha hb h he (by simpa using hx), trivial⟩ (idsZ a b _) rfl fun g => Ends.ret (zr a b _ g) rfl
  · obtain rfl : j = 32 := by omega
    refine Runs.of_outX tys_ok mixed (out a b g) trivial (ids0 a b) rfl fun g => ?_
    show RunsF _ _ _ _ _ _ _
    refine Runs.of_outX tys_ok mixed (fin a b g) trivial (idsZ a b _) rfl fun g => Ends.ret (zr a b _ g) ?_
    obtain rfl := b32_ext he
    rw [lt_irrefl]
    rfl
noncomputable def con : Con Tryd.prog GT := con2 58 fn Tryd.func58 (by kernel_rfl) (by kernel_rfl) cB32 cB32 (fun a b => cBool.enc (ltV a b)) (fun a b => [BOk a, BOk b]) (fun _ _ => rfl) fun a b h =>
  FnOk.of_runs tys_ok Tryd.func58 (c := body) (by kernel_rfl) (run a b h.1 h.2.1) rfl rfl
end blw
end Go.Proofs.YtdccehmekkcheaaDoor

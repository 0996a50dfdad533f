/- Packages tree, beaconref11, beaconref07: common bits, first bits, the order: contracts. -/
import Derived.Test.YthlmepolmemejaaDoorDTrF
namespace Go.Proofs.YthlmepolmemejaaDoor
open Go Go.Eng Go.RowKit
set_option linter.unusedVariables false
set_option linter.unusedSimpArgs false
set_option maxRecDepth 100000
theorem xor_tab : tabL (fun x => tabL (fun y => bits .xor .u8 (x : Int) (y : Int)) 256) 256 = tabR (fun x => tabR (fun y => ((Nat.xor x y : Nat) : Int)) 256) 256 := by kernel_rfl
theorem xor_eq {x y : Int} (hx : Byte x) (hy : Byte y) : bits .xor .u8 x y = ((x.toNat ^^^ y.toNat : Nat) : Int) := by
  obtain ⟨x0, x1⟩ := hx
  obtain ⟨y0, y1⟩ := hy
  have h := S3.tab_get xor_tab x.toNat (by omega)
  have h2 : bits .xor .u8 (x.toNat : Int) (y.toNat : Int) = ((Nat.xor x.toNat y.toNat : Nat) : Int) := S3.tab_get h y.toNat (by omega)
  rw [Int.toNat_of_nonneg x0, Int.toNat_of_nonneg y0] at h2
  exact h2
theorem bt_nat (x k : Nat) : bt (x : Int) k = x.testBit k := by
  unfold bt
  rw [Nat.testBit_eq_decide_div_mod_eq, Bool.eq_iff_iff, beq_iff_eq, decide_eq_true_eq]
  have : ((x : Int) / 2 ^ k % 2) = ((x / 2 ^ k % 2 : Nat) : Int) := by simp
  rw [this]
  omega
theorem bt_xor {x y : Int} (hx : Byte x) (hy : Byte y) (k : Nat) : bt (bits .xor .u8 x y) k = (bt x k != bt y k) := by
  rw [xor_eq hx hy, bt_nat, Nat.testBit_xor]
  have e1 : bt x k = x.toNat.testBit k := by rw [← bt_nat, Int.toNat_of_nonneg hx.1]
  have e2 : bt y k = y.toNat.testBit k := by rw [← bt_nat, Int.toNat_of_nonneg hy.1]
  rw [e1, e2]
theorem xor_byte {x y : Int} (hx : Byte x) (hy : Byte y) : Byte (bits .xor .u8 x y) := by
  rw [xor_eq hx hy]
  have h : x.toNat ^^^ y.toNat < 2 ^ 8 := Nat.xor_lt_two_pow (by obtain ⟨_, _⟩ := hx; omega) (by obtain ⟨_, _⟩ := hy; omega)
  exact ⟨by omega, by omega⟩
theorem len_tab : (List.range 256).all (fun z => Nat.beq z 0 || ((z.testBit (lenN z - 1)) && (List.range 8).all fun k => !(Nat.ble (lenN z) k && z.testBit k))) = true := by decide +kernel
theorem len_top {z : Nat} (h0 : z ≠ 0) (h : z < 256) : z.testBit (lenN z - 1) = true ∧ 1 ≤ lenN z ∧ ∀ k, lenN z ≤ k → k < 8 → z.testBit k = false := by
  have := List.all_eq_true.1 len_tab z (List.mem_range.2 h)
  rw [Bool.or_eq_true, Nat.beq_eq, Bool.and_eq_true] at this
  rcases this with q | ⟨q1, q2⟩
  · exact absurd q h0
  · refine ⟨q1, ?_, fun k hk h8 => ?_⟩
    · unfold lenN
      rw [if_neg h0]
      repeat' split
      all_goals omega
    · have := List.all_eq_true.1 q2 k (List.mem_range.2 h8)
      rw [Bool.not_eq_true', Bool.and_eq_false_iff] at this
      rcases this with r | r
      · rw [show Nat.ble (lenN z) k = true by rw [Nat.ble_eq]; exact hk] at r; cases r
      · exact r
theorem byte_diff {a b : B32} (ha : BOk a) (hb : BOk b) {j : Nat} (hj : j < 32) (he : ∀ i, i < j → a.at i = b.at i) (hx : (!(bits .xor .u8 (a.at j) (b.at j) == 0)) = true) :
    comV a b = 8 * j + (8 - lenN (bits .xor .u8 (a.at j) (b.at j)).toNat) := by
  have hz := xor_byte (ha j) (hb j)
  have hx0 : bits .xor .u8 (a.at j) (b.at j) ≠ 0 := by simpa using hx
  have hbt := bt_xor (ha j) (hb j)
  generalize bits .xor .u8 (a.at j) (b.at j) = z at *
  obtain ⟨z0, z1⟩ := hz
  obtain ⟨t1, t2, t3⟩ := len_top (z := z.toNat) (by omega) (by omega)
  have tb : ∀ k, z.toNat.testBit k = (bt (a.at j) k != bt (b.at j) k) := fun k => by rw [← hbt, ← bt_nat, Int.toNat_of_nonneg z0]
  have hl := lenN_le z.toNat
  refine com_is (by omega) (fun i hi => ?_) ?_
  · unfold bitV
    rcases Nat.lt_or_ge (i / 8) j with h | h
    · rw [he _ h]
    · obtain h2 : i / 8 = j := by omega
      rw [h2]
      have := t3 (7 - i % 8) (by omega) (by omega)
      rw [tb] at this
      simpa using this
  · unfold bitV
    rw [show (8 * j + (8 - lenN z.toNat)) / 8 = j by omega, show 7 - (8 * j + (8 - lenN z.toNat)) % 8 = lenN z.toNat - 1 by omega]
    rw [tb] at t1
    simpa using t1
theorem top_eq {x y : Int} (hx : Byte x) (hy : Byte y) : ∀ k, k ≤ 8 → (∀ i, i < k → bt x (7 - i) = bt y (7 - i)) → x / 2 ^ (8 - k) = y / 2 ^ (8 - k)
  | 0, _, _ => by
    obtain ⟨_, _⟩ := hx
    obtain ⟨_, _⟩ := hy
    simp only [Nat.sub_zero, Int.reducePow]
    omega
  | k + 1, hk, h => by
    have ih := top_eq hx hy k (by omega) fun i hi => h i (by omega)
    have e := bt_num (h k (by omega))
    clear h
    obtain q | q | q | q | q | q | q | q : k = 0 ∨ k = 1 ∨ k = 2 ∨ k = 3 ∨ k = 4 ∨ k = 5 ∨ k = 6 ∨ k = 7 := by omega
    all_goals
      subst q
      simp only [Nat.reduceSub, Nat.reduceAdd, Int.reducePow] at ih e ⊢
      omega
theorem byte_lt {x y : Int} (hx : Byte x) (hy : Byte y) {k : Nat} (hk : k < 8) (h : ∀ i, i < k → bt x (7 - i) = bt y (7 - i)) (hd : bt x (7 - k) ≠ bt y (7 - k)) : decide (x < y) = bt y (7 - k) := by
  have ih := top_eq hx hy k (by omega) h
  have hd' : ¬ (x / 2 ^ (7 - k) % 2 = y / 2 ^ (7 - k) % 2) := fun e => hd (by unfold bt; rw [e])
  rw [Bool.eq_iff_iff, decide_eq_true_eq]
  unfold bt
  rw [beq_iff_eq]
  clear h hd
  obtain q | q | q | q | q | q | q | q : k = 0 ∨ k = 1 ∨ k = 2 ∨ k = 3 ∨ k = 4 ∨ k = 5 ∨ k = 6 ∨ k = 7 := by omega
  all_goals
    subst q
    simp only [Nat.reduceSub, Int.reducePow] at ih hd' ⊢
    omega
theorem lt_byte {a b : B32} (ha : BOk a) (hb : BOk b) {j : Nat} (hj : j < 32) (he : ∀ i, i < j → a.at i = b.at i) (hd : a.at j ≠ b.at j) : decide (a.at j < b.at j) = ltV a b := by
  have hx : (!(bits .xor .u8 (a.at j) (b.at j) == 0)) = true := by
    rw [Bool.not_eq_true', ← Bool.not_eq_true, beq_iff_eq]
    intro h0
    refine hd (byte_ext (ha j) (hb j) fun k _ => ?_)
    have := bt_xor (ha j) (hb j) k
    rw [h0] at this
    have z : bt 0 k = false := by
      unfold bt
      simp
    rw [z] at this
    simpa using this.symm
  have hc := byte_diff ha hb hj he hx
  have hz := xor_byte (ha j) (hb j)
  have hl := lenN_le (bits .xor .u8 (a.at j) (b.at j)).toNat
  have h1 : 1 ≤ lenN (bits .xor .u8 (a.at j) (b.at j)).toNat := by
    have hx0 : bits .xor .u8 (a.at j) (b.at j) ≠ 0 := by simpa using hx
    obtain ⟨z0, z1⟩ := hz
    exact (len_top (z := (bits .xor .u8 (a.at j) (b.at j)).toNat) (by omega) (by omega)).2.1
  have hlt : comV a b < 256 := by omega
  generalize hk : 8 - lenN (bits .xor .u8 (a.at j) (b.at j)).toNat = k at hc
  have hk8 : k < 8 := by omega
  have e8 : ∀ i, i < 8 → (8 * j + i) / 8 = j ∧ 7 - (8 * j + i) % 8 = 7 - i := fun i hi => ⟨by omega, by omega⟩
  unfold ltV
  rw [blt_t hlt, cond_true, hc]
  unfold bitV
  rw [(e8 k hk8).1, (e8 k hk8).2]
  refine byte_lt (ha j) (hb j) hk8 (fun i hi => ?_) ?_
  · have := com_eq (a := a) (b := b) (j := 8 * j + i) (by omega)
    unfold bitV at this
    rwa [(e8 i (by omega)).1, (e8 i (by omega)).2] at this
  · have := com_ne hlt
    rw [hc] at this
    unfold bitV at this
    rwa [(e8 k hk8).1, (e8 k hk8).2] at this
namespace blw
theorem run (a b : B32) (ha : BOk a) (hb : BOk b) : Runs Tryd.prog GT body (startT fn [cB32.enc a, cB32.enc b]) [] (Eng.Ends tys fn (cBool.enc (ltV a b))) := by
  refine Runs.of_outXP tys_ok mixed 1 (s0 a b) trivial (ids0 a b) rfl fun g => ?_
  rw [suf_eq]
  refine Runs.seq (Runs.seq (Runs.of_outX tys_ok mixed (a1 a b g) trivial (ids1 a b _) rfl fun g => ?_))
  refine Runs.block ?_
  refine Runs.loopX (fun (j : Nat) => M1 a b (j : Int)) (fun _ => mem a b) (fun j => j ≤ 32 ∧ ∀ i, i < j → a.at i = b.at i) (fun j => 32 - j) ?_ 0 ⟨Nat.zero_le _, fun i hi => absurd hi (by omega)⟩ g
  rintro j g ⟨hj, he⟩
  rcases Nat.lt_or_ge j 32 with h | h
  · cases hx : (a.at j != b.at j) with
    | false =>
      have h0 : a.at j = b.at j := by simpa using hx
      refine Runs.of_outX tys_ok mixed (S3.tab_get (stp a b g) j h) ⟨hx, trivial⟩ (ids1 a b _) rfl fun g => ?_
      refine ⟨j + 1, g, rfl, rfl, ⟨by omega, fun i hi => ?_⟩, by omega⟩
      rcases Nat.lt_or_ge i j with h1 | h1
      · exact he i h1
      · obtain rfl : i = j := by omega
        exact h0
    | true =>
      refine Runs.of_outX tys_ok mixed (S3.tab_get (hit a b _ g) j h) ⟨hx, lt_byte ha hb h he (by simpa using hx), trivial⟩ (idsZ a b _) rfl fun g => Ends.ret (zr a b _ g) rfl
  · obtain rfl : j = 32 := by omega
    refine Runs.of_outX tys_ok mixed (out a b g) trivial (ids0 a b) rfl fun g => ?_
    show RunsF _ _ _ _ _ _ _
    refine Runs.of_outX tys_ok mixed (fin a b g) trivial (idsZ a b _) rfl fun g => Ends.ret (zr a b _ g) ?_
    obtain rfl := b32_ext he
    rw [lt_irrefl]
    rfl
noncomputable def con : Con Tryd.prog GT := con2 25 fn Tryd.func25 (by kernel_rfl) (by kernel_rfl) cB32 cB32 (fun a b => cBool.enc (ltV a b)) (fun a b => [BOk a, BOk b]) (fun _ _ => rfl) fun a b h =>
  FnOk.of_runs tys_ok Tryd.func25 (c := body) (by kernel_rfl) (run a b h.1 h.2.1) rfl rfl
end blw
end Go.Proofs.YthlmepolmemejaaDoor

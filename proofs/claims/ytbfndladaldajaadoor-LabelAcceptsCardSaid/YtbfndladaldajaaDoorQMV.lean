/- Packages scalar, eddsa: Canonical, Verify. -/
import Derived.Test.YtbfndladaldajaaDoorQME
import Derived.Test.YtbfndladaldajaaDoorQMF
namespace Go.Proofs.YtbfndladaldajaaDoor
open Go Go.Eng Go.RowKit
set_option linter.unusedVariables false
set_option linter.unusedSimpArgs false
set_option maxRecDepth 100000
noncomputable def canV (b : B32) : Bool := eqB (bytes4 (redW b.at 4 4)) b
theorem scanon_ex (b : B32) (v : N4) (d : B32) (t : Bool) : runOut [screduce_con, scbytes_con] tys Tryd.f80 100 [cB32.enc b] [(4, [.s (cN4.enc v)]), (5, [.s (cB32.enc d)]), (7, [.b t])] = some (cBool.enc t, [∀ i, 0 ≤ b.at i ∧ b.at i < 256, cN4.enc (redW b.at 4 4) = cN4.enc v, cB32.enc (bytes4 v) = cB32.enc d, eqB d b = t]) := by kernel_rfl
theorem scanon_fn (b : B32) (h : ∀ i, 0 ≤ b.at i ∧ b.at i < 256) : FnOk Tryd.prog G2 80 [cB32.enc b] (cBool.enc (canV b)) :=
  FnOk.of_out tys_ok mixed Tryd.func80 (scanon_ex b (redW b.at 4 4) (bytes4 (redW b.at 4 4)) (canV b)) ⟨h, rfl, rfl, rfl, trivial⟩ rfl rfl
noncomputable def scanon_con : Con Tryd.prog G2 := con1 80 Tryd.f80 Tryd.func80 (by kernel_rfl) (by kernel_rfl) cB32 (fun b => cBool.enc (canV b)) (fun b => [∀ i, 0 ≤ b.at i ∧ b.at i < 256]) (fun _ => rfl) (fun b h => scanon_fn b h.1)
def lo64 (D : B64) : B32 := ⟨D.b0, D.b1, D.b2, D.b3, D.b4, D.b5, D.b6, D.b7, D.b8, D.b9, D.b10, D.b11, D.b12, D.b13, D.b14, D.b15, D.b16, D.b17, D.b18, D.b19, D.b20, D.b21, D.b22, D.b23, D.b24, D.b25, D.b26, D.b27, D.b28, D.b29, D.b30, D.b31⟩
end Go.Proofs.YtbfndladaldajaaDoor
/- The generator's order is a prime; a clamped number's multiple is not small. Plain arithmetic, no program. -/
namespace Go.Proofs.YtbfndladaldajaaDoor
open Go Go.Eng
set_option linter.unusedVariables false
set_option maxRecDepth 100000
theorem prime2551 : IsPrime 2551 := prime_small 2551 50 (by decide) (by decide) (by kernel_rfl)
theorem prime1224481 : IsPrime 1224481 := prime_by1 1224481 2551 480 21 prime2551 (by kernel_rfl) (by kernel_rfl) (by kernel_rfl) (by kernel_rfl) (by kernel_rfl) (by kernel_rfl)
theorem prime531581 : IsPrime 531581 := prime_small 531581 729 (by decide) (by decide) (by kernel_rfl)
theorem prime1257559732178653 : IsPrime 1257559732178653 := prime_by2 1257559732178653 1224481 1027014492 531581 2365697292 51 prime1224481 prime531581 (by kernel_rfl) (by kernel_rfl) (by kernel_rfl) (by kernel_rfl) (by kernel_rfl) (by kernel_rfl) (by kernel_rfl) (by kernel_rfl) (by kernel_rfl)
theorem prime4434155615661930479 : IsPrime 4434155615661930479 := prime_by1 4434155615661930479 1257559732178653 3526 62 prime1257559732178653 (by kernel_rfl) (by kernel_rfl) (by kernel_rfl) (by kernel_rfl) (by kernel_rfl) (by kernel_rfl)
theorem prime172054593956031949258510691 : IsPrime 172054593956031949258510691 := prime_by1 172054593956031949258510691 4434155615661930479 38802110 88 prime4434155615661930479 (by kernel_rfl) (by kernel_rfl) (by kernel_rfl) (by kernel_rfl) (by kernel_rfl) (by kernel_rfl)
theorem prime19757330305831588566944191468367130476339 : IsPrime 19757330305831588566944191468367130476339 := prime_by1 19757330305831588566944191468367130476339 172054593956031949258510691 114831751082918 134 prime172054593956031949258510691 (by kernel_rfl) (by kernel_rfl) (by kernel_rfl) (by kernel_rfl) (by kernel_rfl) (by kernel_rfl)
theorem prime276602624281642239937218680557139826668747 : IsPrime 276602624281642239937218680557139826668747 := prime_by1 276602624281642239937218680557139826668747 19757330305831588566944191468367130476339 14 138 prime19757330305831588566944191468367130476339 (by kernel_rfl) (by kernel_rfl) (by kernel_rfl) (by kernel_rfl) (by kernel_rfl) (by kernel_rfl)
theorem prime7237005577332262213973186563042994240857116359379907606001950938285454250989 : IsPrime 7237005577332262213973186563042994240857116359379907606001950938285454250989 := prime_by1 7237005577332262213973186563042994240857116359379907606001950938285454250989 276602624281642239937218680557139826668747 26163907866482859529727157400808004 253 prime276602624281642239937218680557139826668747 (by kernel_rfl) (by kernel_rfl) (by kernel_rfl) (by kernel_rfl) (by kernel_rfl) (by kernel_rfl)
theorem prime_L : IsPrime ordL := prime7237005577332262213973186563042994240857116359379907606001950938285454250989
theorem nC_gcd {p : Pt} (hp : OnC p) : ∀ (a b : Nat), nC p a = oC → nC p b = oC → nC p (Nat.gcd a b) = oC := by
  intro a b
  induction a, b using Nat.gcd.induction with
  | H0 b => intro _ h; rw [Nat.gcd_zero_left]; exact h
  | H1 a b ha ih =>
    intro h1 h2
    rw [Nat.gcd_rec]
    exact ih (by rw [nC_mod hp h1]; exact h2) h1
theorem bC_ne : bC ≠ oC := by decide +kernel
theorem dvd_of_mul {k : Nat} (h : nC bC k = oC) : ordL ∣ k := by
  by_cases hd : ordL ∣ k
  · exact hd
  · have hc : Nat.gcd ordL k = 1 := prime_L.coprime hd
    have := nC_gcd bC_on ordL k order_L h
    rw [hc, nC_one] at this
    exact absurd this bC_ne
theorem byte_lo : ∀ n : Fin 256, bits .and .u8 (n.val : Int) 248 % 8 = 0 := by decide +kernel
theorem byte_hi : ∀ n : Fin 256, 64 ≤ bits .or .u8 (bits .and .u8 (n.val : Int) 127) 64 ∧ bits .or .u8 (bits .and .u8 (n.val : Int) 127) 64 < 128 := by decide +kernel
theorem VB_lo (b : B32) : ∃ r : Int, VB b = b.b0 + 8 * r := by
  refine ⟨(VB b - b.b0) / 8, ?_⟩
  unfold VB
  omega
theorem clamp_num {n : Nat} {v x y r q : Int} (hc : (n : Int) = v) (h1 : v = r + 452312848583266388373324160190187140051835877600158453279131187530910662656 * y) (h2 : 0 ≤ r) (h3 : r < 452312848583266388373324160190187140051835877600158453279131187530910662656) (h4 : v = x + 8 * q) (e0 : x % 8 = 0) (e1 : 64 ≤ y ∧ y < 128) :
    ∃ t : Nat, n = 8 * t ∧ 0 < t ∧ t < ordL := by
  refine ⟨n / 8, ?_, ?_, ?_⟩
  · clear h1 h2 h3 e1; omega
  · clear h4 e0; omega
  · unfold ordL; clear h4 e0; omega
theorem clamp {d : B64} (h : ∀ i, 0 ≤ d.at i ∧ d.at i < 256) : ∃ t : Nat, NV (scalB d) = 8 * t ∧ 0 < t ∧ t < ordL := by
  have ok := scalB_ok h
  obtain ⟨r, h1, h2, h3⟩ := VB_hi ok
  obtain ⟨q, h4⟩ := VB_lo (scalB d)
  have e0 : (scalB d).b0 % 8 = 0 := by
    have h0 : 0 ≤ d.b0 ∧ d.b0 < 256 := h 0
    have := byte_lo ⟨d.b0.toNat, by omega⟩
    rwa [show ((⟨d.b0.toNat, by omega⟩ : Fin 256).val : Int) = d.b0 by show (d.b0.toNat : Int) = d.b0; omega] at this
  have e1 : 64 ≤ (scalB d).b31 ∧ (scalB d).b31 < 128 := by
    have h0 : 0 ≤ d.b31 ∧ d.b31 < 256 := h 31
    have := byte_hi ⟨d.b31.toNat, by omega⟩
    rwa [show ((⟨d.b31.toNat, by omega⟩ : Fin 256).val : Int) = d.b31 by show (d.b31.toNat : Int) = d.b31; omega] at this
  exact clamp_num (NV_cast ok) h1 h2 h3 h4 e0 e1
theorem clamp_not {t : Nat} (h0 : 0 < t) (h1 : t < ordL) (h : ordL ∣ 8 * t * 8) : False := by
  have l8 : ¬ ordL ∣ 8 := fun h => absurd (Nat.le_of_dvd (by decide) h) (by unfold ordL; decide)
  rcases prime_L.dvd_mul h with h | h
  · rcases prime_L.dvd_mul h with h | h
    · exact l8 h
    · exact absurd (Nat.le_of_dvd h0 h) (Nat.not_le.2 h1)
  · exact l8 h
theorem clamp_big {n t : Nat} (h : n = 8 * t) (h0 : 0 < t) (h1 : t < ordL) : nC (nC bC n) 8 ≠ oC := by
  intro k
  have k2 : nC bC (n * 8) = oC := (nC_mul bC_on n 8).trans k
  rw [h] at k2
  exact clamp_not h0 h1 (dvd_of_mul k2)
end Go.Proofs.YtbfndladaldajaaDoor
/- What is signed is verified; the same with L more is not of the form. Plain arithmetic, no program. -/
namespace Go.Proofs.YtbfndladaldajaaDoor
open Go Go.Eng
set_option linter.unusedVariables false
set_option maxRecDepth 100000
theorem ordI_cast : ordI = (ordL : Int) := by decide
theorem byteSum_all {b : B32} (hb : BOk b) : byteV b.at 0 32 = NV b := by
  rw [← bsum_byteV (fun i => hb i) 32, ← bits_NV hb]
  rfl
theorem red4_val {b : B32} (hb : BOk b) : N4Ok (redW b.at 4 4) ∧ N4V (redW b.at 4 4) = VB b % ordI := by
  obtain ⟨h1, h2⟩ := redW_val (f := b.at) (fun i => hb i) 4 4
  refine ⟨h1, ?_⟩
  rw [h2, hor_byteV (fun i => hb i) 4 4 (Nat.le_refl _), show 8 * (4 - 4) = 0 from rfl, show 8 * 4 = 32 from rfl, byteSum_all hb, NV_cast hb]
theorem ordI_pos : 0 < ordI := by decide
theorem canV_iff {b : B32} (hb : BOk b) : canV b = true ↔ NV b < ordL := by
  obtain ⟨h1, h2⟩ := red4_val hb
  have hv := bytes4_val _ h1
  rw [h2] at hv
  have hc := NV_cast hb
  have ho := ordI_cast
  have hp := ordI_pos
  unfold canV
  constructor
  · intro h
    have e := (eqB_iff _ _).1 h
    rw [e] at hv
    have := Int.emod_lt_of_pos (VB b) hp
    omega
  · intro h
    refine eqB_val (bytes4_ok _) hb ?_
    rw [hv]
    exact Int.emod_eq_of_lt (by omega) (by omega)
theorem smulB_val {a b c : B32} (ha : BOk a) (hb : BOk b) (hc : BOk c) : BOk (smulB a b c) ∧ NV (smulB a b c) = (NV a * NV b + NV c) % ordL := by
  have hk : BOk (smulB a b c) := bytes4_ok _
  refine ⟨hk, ?_⟩
  obtain ⟨a1, a2⟩ := red4_val ha
  obtain ⟨b1, b2⟩ := red4_val hb
  obtain ⟨c1, c2⟩ := red4_val hc
  have bl : N4V (redW b.at 4 4) < ordI := by rw [b2]; exact Int.emod_lt_of_pos _ ordI_pos
  have cl : N4V (redW c.at 4 4) < ordI := by rw [c2]; exact Int.emod_lt_of_pos _ ordI_pos
  obtain ⟨m1, m2⟩ := mul0_val a1 b1 bl
  have ml : N4V (mulS (redW a.at 4 4) (redW b.at 4 4) 256 zero4) < ordI := by rw [m2]; exact Int.emod_lt_of_pos _ ordI_pos
  have h : VB (smulB a b c) = (VB a * VB b + VB c) % ordI := by
    unfold smulB smulN
    rw [modN_red (fun i => ha i), modN_red (fun i => hb i), modN_red (fun i => hc i), bytes4_val _ (plusL_ok m1 c1), plusL_val m1 c1 ml cl, m2, a2, b2, c2, ← Int.mul_emod, ← Int.add_emod]
  have e : ((NV (smulB a b c) : Nat) : Int) = (((NV a * NV b + NV c) % ordL : Nat) : Int) := by
    rw [NV_cast hk, Int.natCast_emod, Int.natCast_add, Int.natCast_mul, NV_cast ha, NV_cast hb, NV_cast hc, ← ordI_cast]
    exact h
  exact_mod_cast e
theorem neg_add {p q : Pt} (hp : OnC p) (hq : OnC q) : negC (addC p q) = addC (negC p) (negC q) := by
  refine add_left (addC_on hp hq) (negC_on (addC_on hp hq)) (addC_on (negC_on hp) (negC_on hq)) ?_
  rw [addC_neg (addC_on hp hq), addC_comm p q, addC_assoc hq hp (addC_on (negC_on hp) (negC_on hq)), ← addC_assoc hp (negC_on hp) (negC_on hq), addC_neg hp, oC_addC, addC_neg hq]
theorem neg_oC : negC oC = oC := by decide +kernel
theorem neg_mul {p : Pt} (hp : OnC p) : ∀ n, nC (negC p) n = negC (nC p n)
  | 0 => by rw [nC, nC, neg_oC]
  | n + 1 => by rw [nC, nC, neg_mul hp n, neg_add (nC_on hp n) hp]
theorem pub_pt (b : B32) : PtB (pubV b) (nC bC (NV (numV b))) := by
  unfold pubV
  rw [← base_same (numV_ok b)]
  exact base_pt (numV_ok b)
theorem clr_flag {b : B32} {p : Pt} (h : PtB b p) : eqB (encP (clrP (decP b))) zeroPt = true ↔ nC p 8 = oC := by
  have k : PtB (encP (clrP (decP b))) (nC p 8) := PtB.enc (h.dec.2.clr h.on) (nC_on h.on 8)
  constructor
  · intro e
    have := (eqB_iff _ _).1 e
    rw [this] at k
    exact k.inj zero_pt
  · intro e
    rw [e] at k
    exact k.eq zero_pt
theorem pub_big (b : B32) : eqB (encP (clrP (decP (pubV b)))) zeroPt = false := by
  obtain ⟨t, h1, h2, h3⟩ := clamp (s512V_byte b.to)
  have := clamp_big h1 h2 h3
  cases e : eqB (encP (clrP (decP (pubV b)))) zeroPt with
  | false => rfl
  | true => exact absurd ((clr_flag (pub_pt b)).1 e) this
theorem ver_pt {b s : B32} {p : Pt} (h : PtB b p) {k : B32} (hs : BOk s) (hk : BOk k) : PtB (encP (plusP (oftenP baseP s) (oftenP (negP (decP b)) k))) (addC (nC bC (NV s)) (nC (negC p) (NV k))) :=
  PtB.enc ((often_rep base_rep bC_on hs).plus (often_rep h.dec.2.neg (negC_on h.on) hk) (nC_on bC_on _) (nC_on (negC_on h.on) _)) (addC_on (nC_on bC_on _) (nC_on (negC_on h.on) _))
end Go.Proofs.YtbfndladaldajaaDoor
/- Eight times the generator's order takes any point of the curve to the origin: the curve has less than twice so many points. Plain arithmetic, no program. -/
namespace Go.Proofs.YtbfndladaldajaaDoor
open Go Go.Eng
set_option linter.unusedVariables false
set_option maxRecDepth 100000
theorem pigeon : ∀ (m n : Nat) (f : Nat → Nat), (∀ i, i < n → f i < m) → (∀ i j, i < n → j < n → f i = f j → i = j) → n ≤ m
  | 0, n, f, h, _ => by
    rcases Nat.eq_zero_or_pos n with h0 | h0
    · omega
    · exact absurd (h 0 h0) (Nat.not_lt_zero _)
  | m + 1, 0, f, h, hi => Nat.zero_le _
  | m + 1, k + 1, f, h, hi => by
    refine Nat.succ_le_succ (pigeon m k (fun i => if f i = m then f k else f i) (fun i hik => ?_) (fun i j hik hjk e => ?_))
    · show (if f i = m then f k else f i) < m
      have h1 := h i (by omega)
      have h2 := h k (by omega)
      split
      · rename_i e
        have : f k ≠ m := fun e2 => by
          have := hi i k (by omega) (by omega) (e.trans e2.symm)
          omega
        omega
      · omega
    · have e : (if f i = m then f k else f i) = (if f j = m then f k else f j) := e
      split at e
      · rename_i a
        split at e
        · rename_i b
          exact hi i j (by omega) (by omega) (a.trans b.symm)
        · have := hi k j (by omega) (by omega) e
          omega
      · split at e
        · have := hi i k (by omega) (by omega) e
          omega
        · exact hi i j (by omega) (by omega) e
theorem nC_dist {p q : Pt} (hp : OnC p) (hq : OnC q) : ∀ n, nC (addC p q) n = addC (nC p n) (nC q n)
  | 0 => by rw [nC, nC, nC, addC_oC]
  | n + 1 => by
    rw [nC, nC, nC, nC_dist hp hq n]
    have a := nC_on hp n
    have b := nC_on hq n
    rw [addC_assoc a b (addC_on hp hq), addC_assoc a hp (addC_on b hq), ← addC_assoc b hp hq, addC_comm (nC q n) p, addC_assoc hp b hq]
theorem nC_sub {p : Pt} (hp : OnC p) {a b : Nat} (h : a ≤ b) (e : nC p a = nC p b) : nC p (b - a) = oC := by
  refine add_left (nC_on hp a) (nC_on hp _) oC_on ?_
  rw [← nC_add hp, addC_oC, Nat.add_sub_cancel' h, e]
def tC : Pt := (natF 14399317868200118260347934320527232580618823971194345261214217575416788799818, natF 55188659117513257062467267217118295137698188065244968500265048394206261417927)
def uC : Pt := (natF 38214883241950591754978413199355411911188925816896391856984770930832735035197, natF 0)
def vC : Pt := (natF 0, natF 57896044618658097711785492504343953926634992332820282019728792003956564819948)
theorem tC_on : OnC tC := by unfold OnC; decide +kernel
theorem uC_on : OnC uC := by unfold OnC; decide +kernel
theorem vC_on : OnC vC := by unfold OnC; decide +kernel
theorem tC2 : nC tC 2 = uC := by rw [nC_two tC_on]; exact (step_ok tC_on tC_on (by kernel_rfl)).symm
theorem tC4 : nC tC 4 = vC := by rw [show 4 = 2 * 2 from rfl, nC_mul tC_on, tC2, nC_two uC_on]; exact (step_ok uC_on uC_on (by kernel_rfl)).symm
theorem o_lit : ((natF 0, natF 1) : Pt) = oC := by decide +kernel
theorem tC8 : nC tC 8 = oC := by rw [show 8 = 4 * 2 from rfl, nC_mul tC_on, tC4, nC_two vC_on, ← o_lit]; exact (step_ok vC_on vC_on (by kernel_rfl)).symm
theorem vC_ne : vC ≠ oC := by decide +kernel
theorem tC_dvd {k : Nat} (h : nC tC k = oC) : 8 ∣ k := by
  have g := nC_gcd tC_on 8 k tC8 h
  have g4 : ¬ Nat.gcd 8 k ∣ 4 := fun ⟨c, hc⟩ => by
    have : nC tC 4 = oC := by rw [hc, nC_mul tC_on, g, nC_oC]
    exact vC_ne (tC4.symm.trans this)
  have d8 := Nat.gcd_dvd_left 8 k
  have dk := Nat.gcd_dvd_right 8 k
  generalize Nat.gcd 8 k = x at *
  have hx : x ≤ 8 := Nat.le_of_dvd (by decide) d8
  have : x = 8 := by
    rcases Nat.lt_or_ge x 8 with hl | hl
    · have : ∀ y : Fin 8, y.val ∣ 8 → y.val ∣ 4 := by decide
      exact absurd (this ⟨x, hl⟩ d8) g4
    · omega
  rwa [this] at dk
theorem same_of {p : Pt} (hp : OnC p) {n a b : Nat} (hd : ∀ k, nC p k = oC → n ∣ k) (ha : a < n) (hb : b < n) (e : nC p a = nC p b) : a = b := by
  rcases Nat.le_total a b with h | h
  · have := hd _ (nC_sub hp h e)
    rcases Nat.eq_zero_or_pos (b - a) with h0 | h0
    · omega
    · have := Nat.le_of_dvd h0 this; omega
  · have := hd _ (nC_sub hp h e.symm)
    rcases Nat.eq_zero_or_pos (a - b) with h0 | h0
    · omega
    · have := Nat.le_of_dvd h0 this; omega
noncomputable def hC (i j : Nat) : Pt := addC (nC bC i) (nC tC j)
theorem hC_on (i j : Nat) : OnC (hC i j) := addC_on (nC_on bC_on i) (nC_on tC_on j)
theorem hC_eight (i j : Nat) : nC (hC i j) 8 = nC (nC bC 8) i := by
  unfold hC
  rw [nC_dist (nC_on bC_on i) (nC_on tC_on j), ← nC_mul tC_on, Nat.mul_comm j 8, nC_mul tC_on, tC8, nC_oC, addC_oC, ← nC_mul bC_on, Nat.mul_comm i 8, nC_mul bC_on]
theorem hC_ord (i j : Nat) : nC (hC i j) (8 * ordL) = oC := by
  rw [nC_mul (hC_on i j), hC_eight, ← nC_mul bC_on, ← nC_mul bC_on, Nat.mul_comm, nC_mul bC_on, order_L, nC_oC]
theorem b8_dvd {k : Nat} (h : nC (nC bC 8) k = oC) : ordL ∣ k := by
  rw [← nC_mul bC_on] at h
  rcases prime_L.dvd_mul (dvd_of_mul h) with h1 | h1
  · exact absurd h1 (by decide)
  · exact h1
theorem hC_inj {i j i' j' : Nat} (hi : i < ordL) (hj : j < 8) (hi' : i' < ordL) (hj' : j' < 8) (e : hC i j = hC i' j') : i = i' ∧ j = j' := by
  have e8 : nC (nC bC 8) i = nC (nC bC 8) i' := by rw [← hC_eight i j, e, hC_eight]
  have ei : i = i' := same_of (nC_on bC_on 8) (fun k => b8_dvd) hi hi' e8
  subst ei
  refine ⟨rfl, same_of tC_on (fun k => tC_dvd) hj hj' ?_⟩
  exact add_left (nC_on bC_on i) (nC_on tC_on j) (nC_on tC_on j') e
def idxC (p : Pt) : Nat := 2 * p.2.val + p.1.val % 2
theorem idxC_lt (p : Pt) : idxC p < 2 * pN := by
  have := p.2.isLt
  unfold idxC
  omega
theorem idxC_inj {p q : Pt} (hp : OnC p) (hq : OnC q) (h : idxC p = idxC q) : p = q := by
  refine encV_inj hp hq ?_
  unfold idxC at h
  have h1 : p.2.val = q.2.val := by omega
  have h2 : p.1.val % 2 = q.1.val % 2 := by omega
  unfold encV
  rw [h1, h2]
theorem many : ¬ 16 * ordL ≤ 2 * pN := by unfold ordL pN; decide
theorem eight_ord {p : Pt} (hp : OnC p) : nC p (8 * ordL) = oC := by
  apply Classical.byContradiction
  intro hne
  refine many ?_
  refine pigeon (2 * pN) (16 * ordL) (fun k => idxC (addC (hC (k / 2 / 8) (k / 2 % 8)) (nC p (k % 2)))) (fun i _ => idxC_lt _) (fun a b ha hb e => ?_)
  have on : ∀ k, OnC (addC (hC (k / 2 / 8) (k / 2 % 8)) (nC p (k % 2))) := fun k => addC_on (hC_on _ _) (nC_on hp _)
  have e := idxC_inj (on a) (on b) e
  have ia : a / 2 / 8 < ordL := by omega
  have ib : b / 2 / 8 < ordL := by omega
  have key : ∀ i j i' j', addC (hC i j) oC = addC (hC i' j') p → False := fun i j i' j' e => by
    refine hne ?_
    have := congrArg (fun q => nC q (8 * ordL)) e
    rw [addC_oC, hC_ord, nC_dist (hC_on i' j') hp, hC_ord, oC_addC] at this
    exact this.symm
  rcases Nat.mod_two_eq_zero_or_one a with h1 | h1 <;> rcases Nat.mod_two_eq_zero_or_one b with h2 | h2
  · rw [h1, h2, nC, addC_oC, addC_oC] at e
    have := hC_inj ia (by omega) ib (by omega) e
    omega
  · rw [h1, h2, nC_one, nC] at e
    exact absurd (key _ _ _ _ e) id
  · rw [h1, h2, nC_one, nC] at e
    exact absurd (key _ _ _ _ e.symm) id
  · rw [h1, h2, nC_one, addC_comm _ p, addC_comm _ p] at e
    have := hC_inj ia (by omega) ib (by omega) (add_left hp (hC_on _ _) (hC_on _ _) e)
    omega
end Go.Proofs.YtbfndladaldajaaDoor

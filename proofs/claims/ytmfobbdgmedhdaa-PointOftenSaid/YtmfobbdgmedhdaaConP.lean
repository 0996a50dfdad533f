/- The statements about points, but Often and All: their content. -/
import Derived.Test.YtmfobbdgmedhdaaLawP
namespace Go.Proofs.Ytmfobbdgmedhdaa
open Go Go.Eng
set_option linter.unusedVariables false

/-- These bytes are this point's. -/
structure PtB (b : B32) (p : Pt) : Prop where
  ok : BOk b
  on : OnC p
  val : VB b = encV p
theorem PtB.dec {b : B32} {p : Pt} (h : PtB b p) : decOk b = true ∧ Rep (decP b) p := dec_of h.ok h.on h.val
theorem PtB.enc {P : P20} {p : Pt} (h : Rep P p) (ho : OnC p) : PtB (encP P) p := ⟨(enc_val h).1, ho, (enc_val h).2⟩
theorem PtB.eq {a b : B32} {p : Pt} (ha : PtB a p) (hb : PtB b p) : eqB a b = true := eqB_val ha.ok hb.ok (by rw [ha.val, hb.val])
theorem PtB.inj {a : B32} {p q : Pt} (hp : PtB a p) (hq : PtB a q) : p = q := encV_inj hp.on hq.on (by rw [← hp.val, hq.val])
theorem PtB.cast {a : B32} {p q : Pt} (h : PtB a p) (e : p = q) : PtB a q := e ▸ h
theorem base_pt {n : B32} (hn : BOk n) : PtB (pbaseB n) (nC bC (NV n)) := PtB.enc (often_rep base_rep bC_on hn) (nC_on bC_on _)
theorem add_pt {a b : B32} {p q : Pt} (ha : PtB a p) (hb : PtB b q) : PtB (paddB a b) (addC p q) := by
  obtain ⟨h1, r1⟩ := ha.dec
  obtain ⟨h2, r2⟩ := hb.dec
  unfold paddB
  rw [h1, h2]
  exact PtB.enc (r1.plus r2 ha.on hb.on) (addC_on ha.on hb.on)
theorem neg_pt {a : B32} {p : Pt} (ha : PtB a p) : PtB (pnegB a) (negC p) := by
  obtain ⟨h1, r1⟩ := ha.dec
  unfold pnegB
  rw [h1]
  exact PtB.enc r1.neg (negC_on ha.on)
theorem mul_pt {n a : B32} {p : Pt} (hn : BOk n) (ha : PtB a p) : PtB (pmulB n a) (nC p (NV n)) := by
  obtain ⟨h1, r1⟩ := ha.dec
  unfold pmulB
  rw [h1]
  exact PtB.enc (often_rep r1 ha.on hn) (nC_on ha.on _)
theorem clear_pt {a : B32} {p : Pt} (ha : PtB a p) : PtB (pclearB a) (nC p 8) := by
  obtain ⟨h1, r1⟩ := ha.dec
  unfold pclearB
  rw [h1]
  exact PtB.enc (r1.clr ha.on) (nC_on ha.on _)
theorem zeroPt_ok : BOk zeroPt := by
  intro i
  unfold B32.at zeroPt
  split <;> exact ⟨by decide, by decide⟩
theorem zero_pt : PtB zeroPt oC := ⟨zeroPt_ok, oC_on, by decide +kernel⟩
theorem gen_pt : PtB genPt bC := ⟨genPt_ok, bC_on, by rw [← gen_eq]; exact (enc_val base_rep).2⟩
theorem errOk : errOf true = 0 := rfl
theorem add_flag {a b : B32} {p q : Pt} (ha : PtB a p) (hb : PtB b q) : flagB (paddB a b) (errOf (decOk a && decOk b)) = flagB (paddB a b) 0 := by rw [ha.dec.1, hb.dec.1]; rfl
theorem neg_flag {a : B32} {p : Pt} (ha : PtB a p) : flagB (pnegB a) (errOf (decOk a)) = flagB (pnegB a) 0 := by rw [ha.dec.1]; rfl
theorem mul_flag {n a : B32} {p : Pt} (ha : PtB a p) : flagB (pmulB n a) (errOf (decOk a)) = flagB (pmulB n a) 0 := by rw [ha.dec.1]; rfl
theorem clear_flag {a : B32} {p : Pt} (ha : PtB a p) : flagB (pclearB a) (errOf (decOk a)) = flagB (pclearB a) 0 := by rw [ha.dec.1]; rfl

/-! ### PointOrder -/
theorem ordB_ok : BOk ordB := by
  intro i
  unfold B32.at ordB
  split <;> exact ⟨by decide, by decide⟩
theorem lessB_ok : BOk lessB := by
  intro i
  unfold B32.at lessB
  split <;> exact ⟨by decide, by decide⟩
theorem ordB_val : NV ordB = ordL := by decide +kernel
theorem lessB_val : NV lessB + 1 = ordL := by decide +kernel
theorem NV_num (n : Int) (h : Byte n) : NV (numB n) = n.toNat := by unfold NV; rw [numB_val]
theorem less_neg : nC bC (NV lessB) = negC bC := by
  refine add_left bC_on (nC_on bC_on _) (negC_on bC_on) ?_
  rw [addC_neg bC_on, addC_comm]
  have h := order_L
  rw [← lessB_val, nC] at h
  exact h
theorem porder_ok : FnOk Try.prog 8 [] (cBool.enc true) := by
  have h1 := base_pt ordB_ok
  rw [ordB_val, order_L] at h1
  have h2 := base_pt lessB_ok
  rw [less_neg] at h2
  have b1 : BOk (numB 1) := numB_ok 1 ⟨by decide, by decide⟩
  have h3 := base_pt b1
  rw [NV_num 1 ⟨by decide, by decide⟩, show (1 : Int).toNat = 1 from rfl, nC_one] at h3
  exact porder_walk genPt (pnegB genPt) (pbaseB ordB) (pbaseB lessB) (pbaseB (numB 1)) (by rw [gen_eq]) (neg_flag gen_pt) (nib_of ordB_ok) rfl (h1.eq zero_pt) (nib_of lessB_ok) rfl (h2.eq (neg_pt gen_pt)) (nib_of b1) rfl (by rw [gen_eq]) (h3.eq gen_pt)

/-! ### PointBytes -/
theorem pt_of {b : B32} (hb : BOk b) (h : decOk b = true) : ∃ p, PtB b p := by
  obtain ⟨p, h1, h2, h3⟩ := dec_main hb h
  exact ⟨p, hb, h1, h2⟩
theorem pbytes_ok (p : B32) (hp : BOk p) : FnOk Try.prog 9 [cB32.enc p] (cBool.enc true) := by
  cases h : decOk p with
  | false => exact pbytes_no p zeroB (by unfold paddB; rw [h]; rfl) (by rw [h]; rfl) ((eqB_iff _ _).2 rfl)
  | true =>
    obtain ⟨P, hP⟩ := pt_of hp h
    have b2 : BOk (numB 2) := numB_ok 2 ⟨by decide, by decide⟩
    have h1 := add_pt hP zero_pt
    rw [addC_oC] at h1
    have h2 := add_pt hP hP
    have h3 := mul_pt b2 hP
    rw [NV_num 2 ⟨by decide, by decide⟩, show (2 : Int).toNat = 2 from rfl, nC_two hP.on] at h3
    exact pbytes_yes p (paddB p zeroPt) (paddB p p) (pmulB (numB 2) p) (add_flag hP zero_pt) (by rw [h]; rfl) (add_flag hP hP) (nib_of b2) (mul_flag hP) (h1.eq hP) (h2.eq h3)

/-! ### PointGroup -/
theorem pgroup_ok (n m k : B32) (hn : BOk n) (hm : BOk m) (hk : BOk k) : FnOk Try.prog 10 [cB32.enc n, cB32.enc m, cB32.enc k] (cBool.enc true) := by
  have p := base_pt hn
  have q := base_pt hm
  have r := base_pt hk
  have a := add_pt p q
  have b := add_pt q p
  have c := add_pt a r
  have d := add_pt q r
  have e := add_pt p d
  have mi := neg_pt p
  have no := add_pt p mi
  have sa := add_pt p zero_pt
  have hno := no.cast (addC_neg p.on)
  have hsa := sa.cast (addC_oC _)
  have hb := b.cast (addC_comm _ _)
  have hc := c.cast (addC_assoc p.on q.on r.on)
  exact pgroup_walk n m k _ _ _ _ _ _ _ _ _ _ _ (nib_of hn) rfl (nib_of hm) rfl (nib_of hk) rfl (add_flag p q) (add_flag q p) (add_flag a r) (add_flag q r) (add_flag p d) (neg_flag p) (add_flag p mi) (add_flag p zero_pt)
    (a.eq hb) (hc.eq e) (hno.eq zero_pt) (hsa.eq p)

/-! ### PointEight -/
def inv8 : Nat := 2713877091499598330239944961141122840321418634767465352250731601857045344121
theorem inv8_eq : (8 * inv8) % ordL = 1 := by decide +kernel
theorem eight_zero {k : Nat} (h : nC (nC bC k) 8 = oC) : nC bC k = oC := by
  have h1 : nC bC (k * 8 * inv8) = oC := by rw [nC_mul bC_on, nC_mul bC_on, h, nC_oC]
  have h2 : (k * 8 * inv8) % ordL = k % ordL := by
    rw [Nat.mul_assoc, Nat.mul_mod, inv8_eq, Nat.mul_one, Nat.mod_mod]
  rw [← nC_mod bC_on order_L, h2, nC_mod bC_on order_L] at h1
  exact h1
theorem small_flag {a : B32} {p : Pt} (ha : PtB a p) : flagZ (psmallF a) (errOf (decOk a)) = flagZ (psmallF a) 0 := by rw [ha.dec.1]; rfl
theorem small_val {a : B32} {p : Pt} (ha : PtB a p) : psmallF a = eqB (pclearB a) zeroPt := by
  unfold psmallF pclearB
  rw [ha.dec.1]
theorem small_iff {a : B32} {k : Nat} (p : PtB a (nC bC k)) : psmallF a = true ↔ eqB a zeroPt = true := by
  have c := clear_pt p
  rw [small_val p]
  constructor
  · intro h
    rw [eqB_iff] at h
    rw [h] at c
    have e := eight_zero (PtB.inj c zero_pt)
    exact (p.cast e).eq zero_pt
  · intro h
    rw [eqB_iff] at h
    rw [h] at p
    have e := PtB.inj p zero_pt
    rw [e, nC_oC] at c
    exact c.eq zero_pt
theorem b8_ok : BOk (numB 8) := numB_ok 8 ⟨by decide, by decide⟩
theorem b8_val : NV (numB 8) = 8 := by rw [NV_num 8 ⟨by decide, by decide⟩]; rfl
theorem eight_same {a : B32} {p : Pt} (ha : PtB a p) : eqB (pclearB a) (pmulB (numB 8) a) = true := by
  have b := mul_pt b8_ok ha
  rw [b8_val] at b
  exact (clear_pt ha).eq b
theorem peight_ok (n : B32) (hn : BOk n) : FnOk Try.prog 12 [cB32.enc n] (cBool.enc true) :=
  peight_walk n (pbaseB n) (pclearB (pbaseB n)) (pmulB (numB 8) (pbaseB n)) (psmallF (pbaseB n)) (nib_of hn) rfl (clear_flag (base_pt hn)) (nib_of b8_ok) (mul_flag (base_pt hn)) (small_flag (base_pt hn)) (eight_same (base_pt hn)) (eq_bool (small_iff (base_pt hn)))
end Go.Proofs.Ytmfobbdgmedhdaa

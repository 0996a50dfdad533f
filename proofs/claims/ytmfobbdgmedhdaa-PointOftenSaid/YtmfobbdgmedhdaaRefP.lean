/- Package beaconref04: sums, multiples and bytes of points, as the document has them. -/
import Derived.Test.YtmfobbdgmedhdaaRefS
import Derived.Test.YtmfobbdgmedhdaaPMb
namespace Go.Proofs.Ytmfobbdgmedhdaa
open Go Go.Eng
set_option linter.unusedVariables false
set_option maxRecDepth 100000

structure P16 where
  x : N4
  y : N4
  z : N4
  t : N4
def P16.to (p : P16) : List Int := [p.x.l0, p.x.l1, p.x.l2, p.x.l3, p.y.l0, p.y.l1, p.y.l2, p.y.l3, p.z.l0, p.z.l1, p.z.l2, p.z.l3, p.t.l0, p.t.l1, p.t.l2, p.t.l3]
def P16.of : List Int → Option P16
  | [a0, a1, a2, a3, b0, b1, b2, b3, c0, c1, c2, c3, d0, d1, d2, d3] => some ⟨⟨a0, a1, a2, a3⟩, ⟨b0, b1, b2, b3⟩, ⟨c0, c1, c2, c3⟩, ⟨d0, d1, d2, d3⟩⟩
  | _ => none
theorem P16.of_to : ∀ l a, P16.of l = some a → P16.to a = l := by
  intro l a h
  unfold P16.of at h
  split at h <;> cases h
  rfl
def cQ : Cod P16 := cRow .u64 P16.to P16.of P16.of_to
def QOk (p : P16) : Prop := N4Ok p.x ∧ N4Ok p.y ∧ N4Ok p.z ∧ N4Ok p.t
def d4 : N4 := ⟨8496970652267935907, 31536524315187371, 10144147576115030168, 5909686906226998899⟩
theorem rD_fn : FnOk Try.prog 107 [] (cN4.enc d4) :=
  FnOk.of_out (Γ := []) tys_ok mixed Try.func107 (n := 100) (orc := []) (cs := []) (by kernel_rfl) trivial rfl rfl
def rD_con : Con Try.prog := con0 107 Try.f107 Try.func107 (by kernel_rfl) (by kernel_rfl) (cN4.enc d4) [] rfl (fun _ => rD_fn)
def neutralQ : P16 := ⟨zero4, one4, one4, zero4⟩
theorem qneutral_fn : FnOk Try.prog 108 [] (cQ.enc neutralQ) :=
  FnOk.of_out (Γ := [rsmall_con]) tys_ok mixed Try.func108 (n := 100) (orc := []) (cs := []) (by kernel_rfl) trivial rfl rfl
noncomputable def qneutral_con : Con Try.prog := con0 108 Try.f108 Try.func108 (by kernel_rfl) (by kernel_rfl) (cQ.enc neutralQ) [] rfl (fun _ => qneutral_fn)

noncomputable def sumA (p q : P16) : N4 := timesN (minusN p.y p.x) (minusN q.y q.x)
noncomputable def sumB (p q : P16) : N4 := timesN (plusN p.y p.x) (plusN q.y q.x)
noncomputable def sumC (p q : P16) : N4 := timesN (timesN p.t q.t) (plusN d4 d4)
noncomputable def sumD (p q : P16) : N4 := timesN (plusN p.z p.z) q.z
noncomputable def mixQ (a b c d : N4) : P16 := ⟨timesN (minusN b a) (minusN d c), timesN (plusN d c) (plusN b a), timesN (minusN d c) (plusN d c), timesN (minusN b a) (plusN b a)⟩
noncomputable def sumQ (p q : P16) : P16 := mixQ (sumA p q) (sumB p q) (sumC p q) (sumD p q)
theorem one4_ok' : N4Ok one4 := by unfold N4Ok Word; decide
theorem d4_ok : N4Ok d4 := by unfold N4Ok Word; decide
theorem plus_ok {a b : N4} (ha : N4Ok a) (hb : N4Ok b) : N4Ok (plusN a b) := (plusN_val ha hb).1
theorem minus_ok {a b : N4} (ha : N4Ok a) (hb : N4Ok b) : N4Ok (minusN a b) := (minusN_val ha hb).1
theorem times_ok {a b : N4} (ha : N4Ok a) (hb : N4Ok b) : N4Ok (timesN a b) := (timesN_val ha hb).1
theorem qsum_fn (p q : P16) (hp : Holds [QOk p, QOk q]) : FnOk Try.prog 79 [cQ.enc p, cQ.enc q] (cQ.enc (sumQ p q)) := by
  obtain ⟨⟨px, py, pz, pt⟩, ⟨qx, qy, qz, qt⟩, -⟩ := hp
  have a1 := minus_ok py px
  have a2 := minus_ok qy qx
  have b1 := plus_ok py px
  have b2 := plus_ok qy qx
  have c1 := times_ok pt qt
  have c2 := plus_ok d4_ok d4_ok
  have e1 := plus_ok pz pz
  have a : N4Ok (sumA p q) := times_ok a1 a2
  have b : N4Ok (sumB p q) := times_ok b1 b2
  have c : N4Ok (sumC p q) := times_ok c1 c2
  have d : N4Ok (sumD p q) := times_ok e1 qz
  have e := minus_ok b a
  have f := minus_ok d c
  have g := plus_ok d c
  have h := plus_ok b a
  exact FnOk.of_out (Γ := [rtimes_con, rplus_con, rminus_con, rD_con]) tys_ok mixed Try.func79 (n := 100) (orc := [])
    (cs := [N4Ok p.y, N4Ok p.x, N4Ok q.y, N4Ok q.x, N4Ok (minusN p.y p.x), N4Ok (minusN q.y q.x), N4Ok p.y, N4Ok p.x, N4Ok q.y, N4Ok q.x, N4Ok (plusN p.y p.x), N4Ok (plusN q.y q.x), N4Ok p.t, N4Ok q.t, N4Ok d4, N4Ok d4, N4Ok (timesN p.t q.t), N4Ok (plusN d4 d4),
      N4Ok p.z, N4Ok p.z, N4Ok (plusN p.z p.z), N4Ok q.z, N4Ok (sumB p q), N4Ok (sumA p q), N4Ok (sumD p q), N4Ok (sumC p q), N4Ok (sumD p q), N4Ok (sumC p q), N4Ok (sumB p q), N4Ok (sumA p q),
      N4Ok (minusN (sumB p q) (sumA p q)), N4Ok (minusN (sumD p q) (sumC p q)), N4Ok (plusN (sumD p q) (sumC p q)), N4Ok (plusN (sumB p q) (sumA p q)), N4Ok (minusN (sumD p q) (sumC p q)), N4Ok (plusN (sumD p q) (sumC p q)), N4Ok (minusN (sumB p q) (sumA p q)), N4Ok (plusN (sumB p q) (sumA p q))]) (by kernel_rfl)
    ⟨py, px, qy, qx, a1, a2, py, px, qy, qx, b1, b2, pt, qt, d4_ok, d4_ok, c1, c2, pz, pz, e1, qz, b, a, d, c, d, c, b, a, e, f, g, h, f, g, e, h, trivial⟩ rfl rfl
noncomputable def qsum_con : Con Try.prog := con2 79 Try.f79 Try.func79 (by kernel_rfl) (by kernel_rfl) (cQ) (cQ) (fun p q => cQ.enc (sumQ p q)) (fun p q => [QOk p, QOk q]) (fun _ _ => rfl) (fun p q h => qsum_fn p q h)
theorem sumQ_ok {p q : P16} (hp : QOk p) (hq : QOk q) : QOk (sumQ p q) := by
  obtain ⟨px, py, pz, pt⟩ := hp
  obtain ⟨qx, qy, qz, qt⟩ := hq
  have a : N4Ok (sumA p q) := times_ok (minus_ok py px) (minus_ok qy qx)
  have b : N4Ok (sumB p q) := times_ok (plus_ok py px) (plus_ok qy qx)
  have c : N4Ok (sumC p q) := times_ok (times_ok pt qt) (plus_ok d4_ok d4_ok)
  have d : N4Ok (sumD p q) := times_ok (plus_ok pz pz) qz
  exact ⟨times_ok (minus_ok b a) (minus_ok d c), times_ok (plus_ok d c) (plus_ok b a), times_ok (minus_ok d c) (plus_ok d c), times_ok (minus_ok b a) (plus_ok b a)⟩
noncomputable def negQ (p : P16) : P16 := ⟨minusN zero4 p.x, p.y, p.z, minusN zero4 p.t⟩
theorem qminus_fn (p : P16) (hp : Holds [QOk p]) : FnOk Try.prog 80 [cQ.enc p] (cQ.enc (negQ p)) :=
  FnOk.of_out (Γ := [rsmall_con, rminus_con]) tys_ok mixed Try.func80 (n := 100) (orc := []) (cs := [N4Ok zero4, N4Ok p.x, N4Ok zero4, N4Ok p.t]) (by kernel_rfl) ⟨zero4_ok, hp.1.1, zero4_ok, hp.1.2.2.2, trivial⟩ rfl rfl
noncomputable def qminus_con : Con Try.prog := con1 80 Try.f80 Try.func80 (by kernel_rfl) (by kernel_rfl) (cQ) (fun p => cQ.enc (negQ p)) (fun p => [QOk p]) (fun _ => rfl) (fun p h => qminus_fn p h)

/-! ### Bytes -/
noncomputable def qX (p : P16) : N4 := leastN (timesN p.x (invN p.z))
noncomputable def qY (p : P16) : B32 := bytes4 (leastN (timesN p.y (invN p.z)))
noncomputable def encQ (p : P16) : B32 := set31 (qY p) (bits .or .u8 (qY p).b31 (IntKind.u8.wrap (IntKind.u8.wrap ((qX p).l0.tmod 2) * 2 ^ 7)))
theorem inv_ok {a : N4} (ha : N4Ok a) : N4Ok (invN a) := (invN_val ha).1
theorem qenc_fn (p : P16) (hp : Holds [QOk p]) : FnOk Try.prog 78 [cQ.enc p] (cB32.enc (encQ p)) := by
  obtain ⟨⟨px, py, pz, pt⟩, -⟩ := hp
  have hi := inv_ok pz
  exact FnOk.of_out (Γ := [rinverse_con, rtimes_con, rleast_con, rbytes_con]) tys_ok mixed Try.func78 (n := 100) (orc := [])
    (cs := [N4Ok p.z, N4Ok p.x, N4Ok (invN p.z), N4Ok (timesN p.x (invN p.z)), N4Ok p.y, N4Ok (invN p.z), N4Ok (timesN p.y (invN p.z))]) (by kernel_rfl)
    ⟨pz, px, hi, times_ok px hi, py, hi, times_ok py hi, trivial⟩ rfl rfl
noncomputable def qenc_con : Con Try.prog := con1 78 Try.f78 Try.func78 (by kernel_rfl) (by kernel_rfl) (cQ) (fun p => cB32.enc (encQ p)) (fun p => [QOk p]) (fun _ => rfl) (fun p h => qenc_fn p h)

end Go.Proofs.Ytmfobbdgmedhdaa

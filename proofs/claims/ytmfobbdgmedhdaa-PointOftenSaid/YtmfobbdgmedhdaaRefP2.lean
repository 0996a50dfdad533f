/- Package beaconref04: points out of bytes, and the calls on bytes. -/
import Derived.Test.YtmfobbdgmedhdaaRefP
namespace Go.Proofs.Ytmfobbdgmedhdaa
open Go Go.Eng
set_option linter.unusedVariables false
set_option maxRecDepth 100000

noncomputable def qy (b : B32) : N4 := fromN (low31 b)
noncomputable def qyy (b : B32) : N4 := timesN (qy b) (qy b)
noncomputable def qu (b : B32) : N4 := minusN (qyy b) one4
noncomputable def qv (b : B32) : N4 := plusN (timesN d4 (qyy b)) one4
noncomputable def qq (b : B32) : N4 := timesN (qu b) (invN (qv b))
noncomputable def qr (b : B32) : N4 := leastN (rt1 (qq b))
noncomputable def qpar (b : B32) : Bool := IntKind.u8.wrap ((qr b).l0.tmod 2) != b.b31.fdiv (2 ^ 7)
noncomputable def qx (b : B32) : N4 := match qpar b with
  | true => leastN (minusN zero4 (qr b))
  | false => qr b
def noneQ : P16 := ⟨zero4, zero4, zero4, zero4⟩
noncomputable def qOk (b : B32) : Bool := match belowW (fromN (low31 b)) p4 with
  | false => false
  | true => match rtOk (qq b) with
    | false => false
    | true => match eqI (qr b).to zero4.to with
      | false => true
      | true => !(b.b31.fdiv (2 ^ 7) == 1)
noncomputable def qP (b : B32) : P16 := match qOk b with
  | false => noneQ
  | true => ⟨qx b, qy b, one4, timesN (qx b) (qy b)⟩
noncomputable def flagQ (p : P16) (b : Bool) : SV := .t [.g (cQ.row p), .a (bool1 b)]
theorem least_ok {a : N4} (ha : N4Ok a) : N4Ok (leastN a) := (leastN_val ha).1
theorem qdec_ok {b : B32} (hb : BOk b) : N4Ok (qy b) ∧ N4Ok (qyy b) ∧ N4Ok (qu b) ∧ N4Ok (timesN d4 (qyy b)) ∧ N4Ok (qv b) ∧ N4Ok (invN (qv b)) ∧ N4Ok (qq b) ∧ N4Ok (qr b) := by
  have hy := (fromN_val (low31_val hb).1).1
  have hyy := times_ok hy hy
  have hu := minus_ok hyy one4_ok'
  have hdv := times_ok d4_ok hyy
  have hv := plus_ok hdv one4_ok'
  have hi := inv_ok hv
  have hq := times_ok hu hi
  exact ⟨hy, hyy, hu, hdv, hv, hi, hq, least_ok (rt1_val hq).1⟩
theorem qx_ok {b : B32} (hb : BOk b) : N4Ok (qx b) := by
  have hr := (qdec_ok hb).2.2.2.2.2.2.2
  unfold qx
  cases qpar b with
  | true => exact least_ok (minus_ok zero4_ok hr)
  | false => exact hr
theorem noneQ_ok : QOk noneQ := ⟨zero4_ok, zero4_ok, zero4_ok, zero4_ok⟩
theorem qP_ok {b : B32} (hb : BOk b) : QOk (qP b) := by
  unfold qP
  cases qOk b with
  | false => exact noneQ_ok
  | true => exact ⟨qx_ok hb, (qdec_ok hb).1, one4_ok', times_ok (qx_ok hb) (qdec_ok hb).1⟩
theorem qdec_noroot (b : B32) (y yy u dv v iv q r m x : N4) (h1 : belowW (fromN (low31 b)) p4 = true) (ey : cN4.enc (fromN (low31 b)) = cN4.enc y) (eyy : cN4.enc (timesN y y) = cN4.enc yy) (eu : cN4.enc (minusN yy one4) = cN4.enc u) (edv : cN4.enc (timesN d4 yy) = cN4.enc dv) (ev : cN4.enc (plusN dv one4) = cN4.enc v) (eiv : cN4.enc (invN v) = cN4.enc iv) (eq : cN4.enc (timesN u iv) = cN4.enc q) (ky : N4Ok y) (kyy : N4Ok yy) (ku : N4Ok u) (kdv : N4Ok dv) (kv : N4Ok v) (kiv : N4Ok iv) (kq : N4Ok q) (h2 : flagN (leastN (rt1 q)) (rtOk q) = flagN r false) :
    FnOk Try.prog 77 [cB32.enc b] (flagQ noneQ false) :=
  FnOk.of_out (Γ := [rcanonical_con, rfrom_con, rtimes_con, rsmall_con, rminus_con, rD_con, rplus_con, rinverse_con, rroot_con, rleast_con]) tys_ok mixed Try.func77 (n := 100) (orc := [(17, [true]), (21, [.s (cN4.enc y)]), (24, [.s (cN4.enc yy)]), (28, [.s (cN4.enc u)]), (31, [.s (cN4.enc dv)]), (33, [.s (cN4.enc v)]), (34, [.s (cN4.enc iv)]), (35, [.s (cN4.enc q)]), (36, [.s (flagN r false)])])
    (cs := [belowW (fromN (low31 b)) p4 = true, cN4.enc (fromN (low31 b)) = cN4.enc y, N4Ok y, N4Ok y, cN4.enc (timesN y y) = cN4.enc yy, N4Ok yy, N4Ok one4, cN4.enc (minusN yy one4) = cN4.enc u, N4Ok d4, N4Ok yy, cN4.enc (timesN d4 yy) = cN4.enc dv, N4Ok dv, N4Ok one4, cN4.enc (plusN dv one4) = cN4.enc v, N4Ok v, cN4.enc (invN v) = cN4.enc iv, N4Ok u, N4Ok iv, cN4.enc (timesN u iv) = cN4.enc q, N4Ok q, flagN (leastN (rt1 q)) (rtOk q) = flagN r false]) (by kernel_rfl)
    ⟨h1, ey, ky, ky, eyy, kyy, one4_ok', eu, d4_ok, kyy, edv, kdv, one4_ok', ev, kv, eiv, ku, kiv, eq, kq, h2, trivial⟩ rfl rfl
theorem qdec_odd0 (b : B32) (y yy u dv v iv q r m x : N4) (h1 : belowW (fromN (low31 b)) p4 = true) (ey : cN4.enc (fromN (low31 b)) = cN4.enc y) (eyy : cN4.enc (timesN y y) = cN4.enc yy) (eu : cN4.enc (minusN yy one4) = cN4.enc u) (edv : cN4.enc (timesN d4 yy) = cN4.enc dv) (ev : cN4.enc (plusN dv one4) = cN4.enc v) (eiv : cN4.enc (invN v) = cN4.enc iv) (eq : cN4.enc (timesN u iv) = cN4.enc q) (ky : N4Ok y) (kyy : N4Ok yy) (ku : N4Ok u) (kdv : N4Ok dv) (kv : N4Ok v) (kiv : N4Ok iv) (kq : N4Ok q) (h2 : flagN (leastN (rt1 q)) (rtOk q) = flagN r true) (h3 : eqI r.to zero4.to = true) (h4 : (b.b31.fdiv (2 ^ 7) == 1) = true) :
    FnOk Try.prog 77 [cB32.enc b] (flagQ noneQ false) :=
  FnOk.of_out (Γ := [rcanonical_con, rfrom_con, rtimes_con, rsmall_con, rminus_con, rD_con, rplus_con, rinverse_con, rroot_con, rleast_con]) tys_ok mixed Try.func77 (n := 100) (orc := [(17, [true]), (21, [.s (cN4.enc y)]), (24, [.s (cN4.enc yy)]), (28, [.s (cN4.enc u)]), (31, [.s (cN4.enc dv)]), (33, [.s (cN4.enc v)]), (34, [.s (cN4.enc iv)]), (35, [.s (cN4.enc q)]), (36, [.s (flagN r true)]), (44, [true]), (47, [true])])
    (cs := [belowW (fromN (low31 b)) p4 = true, cN4.enc (fromN (low31 b)) = cN4.enc y, N4Ok y, N4Ok y, cN4.enc (timesN y y) = cN4.enc yy, N4Ok yy, N4Ok one4, cN4.enc (minusN yy one4) = cN4.enc u, N4Ok d4, N4Ok yy, cN4.enc (timesN d4 yy) = cN4.enc dv, N4Ok dv, N4Ok one4, cN4.enc (plusN dv one4) = cN4.enc v, N4Ok v, cN4.enc (invN v) = cN4.enc iv, N4Ok u, N4Ok iv, cN4.enc (timesN u iv) = cN4.enc q, N4Ok q, flagN (leastN (rt1 q)) (rtOk q) = flagN r true, eqI r.to zero4.to = true, (b.b31.fdiv (2 ^ 7) == 1) = true]) (by kernel_rfl)
    ⟨h1, ey, ky, ky, eyy, kyy, one4_ok', eu, d4_ok, kyy, edv, kdv, one4_ok', ev, kv, eiv, ku, kiv, eq, kq, h2, h3, h4, trivial⟩ rfl rfl
theorem qdec_par_a (b : B32) (y yy u dv v iv q r m x : N4) (h1 : belowW (fromN (low31 b)) p4 = true) (ey : cN4.enc (fromN (low31 b)) = cN4.enc y) (eyy : cN4.enc (timesN y y) = cN4.enc yy) (eu : cN4.enc (minusN yy one4) = cN4.enc u) (edv : cN4.enc (timesN d4 yy) = cN4.enc dv) (ev : cN4.enc (plusN dv one4) = cN4.enc v) (eiv : cN4.enc (invN v) = cN4.enc iv) (eq : cN4.enc (timesN u iv) = cN4.enc q) (ky : N4Ok y) (kyy : N4Ok yy) (ku : N4Ok u) (kdv : N4Ok dv) (kv : N4Ok v) (kiv : N4Ok iv) (kq : N4Ok q) (h2 : flagN (leastN (rt1 q)) (rtOk q) = flagN r true) (h3 : eqI r.to zero4.to = false) (h5 : (IntKind.u8.wrap (r.l0.tmod 2) != b.b31.fdiv (2 ^ 7)) = true) (kr : N4Ok r) (em : cN4.enc (minusN zero4 r) = cN4.enc m) (km : N4Ok m) (ex : cN4.enc (leastN m) = cN4.enc x) (kx : N4Ok x) :
    FnOk Try.prog 77 [cB32.enc b] (flagQ ⟨x, y, one4, timesN x y⟩ true) :=
  FnOk.of_out (Γ := [rcanonical_con, rfrom_con, rtimes_con, rsmall_con, rminus_con, rD_con, rplus_con, rinverse_con, rroot_con, rleast_con]) tys_ok mixed Try.func77 (n := 100) (orc := [(17, [true]), (21, [.s (cN4.enc y)]), (24, [.s (cN4.enc yy)]), (28, [.s (cN4.enc u)]), (31, [.s (cN4.enc dv)]), (33, [.s (cN4.enc v)]), (34, [.s (cN4.enc iv)]), (35, [.s (cN4.enc q)]), (36, [.s (flagN r true)]), (44, [false]), (55, [true]), (58, [.s (cN4.enc m)]), (59, [.s (cN4.enc x)])])
    (cs := [belowW (fromN (low31 b)) p4 = true, cN4.enc (fromN (low31 b)) = cN4.enc y, N4Ok y, N4Ok y, cN4.enc (timesN y y) = cN4.enc yy, N4Ok yy, N4Ok one4, cN4.enc (minusN yy one4) = cN4.enc u, N4Ok d4, N4Ok yy, cN4.enc (timesN d4 yy) = cN4.enc dv, N4Ok dv, N4Ok one4, cN4.enc (plusN dv one4) = cN4.enc v, N4Ok v, cN4.enc (invN v) = cN4.enc iv, N4Ok u, N4Ok iv, cN4.enc (timesN u iv) = cN4.enc q, N4Ok q, flagN (leastN (rt1 q)) (rtOk q) = flagN r true, eqI r.to zero4.to = false, (IntKind.u8.wrap (r.l0.tmod 2) != b.b31.fdiv (2 ^ 7)) = true, N4Ok zero4, N4Ok r, cN4.enc (minusN zero4 r) = cN4.enc m, N4Ok m, cN4.enc (leastN m) = cN4.enc x, N4Ok x, N4Ok y]) (by kernel_rfl)
    ⟨h1, ey, ky, ky, eyy, kyy, one4_ok', eu, d4_ok, kyy, edv, kdv, one4_ok', ev, kv, eiv, ku, kiv, eq, kq, h2, h3, h5, zero4_ok, kr, em, km, ex, kx, ky, trivial⟩ rfl rfl
theorem qdec_nopar_a (b : B32) (y yy u dv v iv q r m x : N4) (h1 : belowW (fromN (low31 b)) p4 = true) (ey : cN4.enc (fromN (low31 b)) = cN4.enc y) (eyy : cN4.enc (timesN y y) = cN4.enc yy) (eu : cN4.enc (minusN yy one4) = cN4.enc u) (edv : cN4.enc (timesN d4 yy) = cN4.enc dv) (ev : cN4.enc (plusN dv one4) = cN4.enc v) (eiv : cN4.enc (invN v) = cN4.enc iv) (eq : cN4.enc (timesN u iv) = cN4.enc q) (ky : N4Ok y) (kyy : N4Ok yy) (ku : N4Ok u) (kdv : N4Ok dv) (kv : N4Ok v) (kiv : N4Ok iv) (kq : N4Ok q) (h2 : flagN (leastN (rt1 q)) (rtOk q) = flagN r true) (h3 : eqI r.to zero4.to = false) (h5 : (IntKind.u8.wrap (r.l0.tmod 2) != b.b31.fdiv (2 ^ 7)) = false) (kr : N4Ok r) :
    FnOk Try.prog 77 [cB32.enc b] (flagQ ⟨r, y, one4, timesN r y⟩ true) :=
  FnOk.of_out (Γ := [rcanonical_con, rfrom_con, rtimes_con, rsmall_con, rminus_con, rD_con, rplus_con, rinverse_con, rroot_con, rleast_con]) tys_ok mixed Try.func77 (n := 100) (orc := [(17, [true]), (21, [.s (cN4.enc y)]), (24, [.s (cN4.enc yy)]), (28, [.s (cN4.enc u)]), (31, [.s (cN4.enc dv)]), (33, [.s (cN4.enc v)]), (34, [.s (cN4.enc iv)]), (35, [.s (cN4.enc q)]), (36, [.s (flagN r true)]), (44, [false]), (55, [false])])
    (cs := [belowW (fromN (low31 b)) p4 = true, cN4.enc (fromN (low31 b)) = cN4.enc y, N4Ok y, N4Ok y, cN4.enc (timesN y y) = cN4.enc yy, N4Ok yy, N4Ok one4, cN4.enc (minusN yy one4) = cN4.enc u, N4Ok d4, N4Ok yy, cN4.enc (timesN d4 yy) = cN4.enc dv, N4Ok dv, N4Ok one4, cN4.enc (plusN dv one4) = cN4.enc v, N4Ok v, cN4.enc (invN v) = cN4.enc iv, N4Ok u, N4Ok iv, cN4.enc (timesN u iv) = cN4.enc q, N4Ok q, flagN (leastN (rt1 q)) (rtOk q) = flagN r true, eqI r.to zero4.to = false, (IntKind.u8.wrap (r.l0.tmod 2) != b.b31.fdiv (2 ^ 7)) = false, N4Ok r, N4Ok y]) (by kernel_rfl)
    ⟨h1, ey, ky, ky, eyy, kyy, one4_ok', eu, d4_ok, kyy, edv, kdv, one4_ok', ev, kv, eiv, ku, kiv, eq, kq, h2, h3, h5, kr, ky, trivial⟩ rfl rfl
theorem qdec_par_b (b : B32) (y yy u dv v iv q r m x : N4) (h1 : belowW (fromN (low31 b)) p4 = true) (ey : cN4.enc (fromN (low31 b)) = cN4.enc y) (eyy : cN4.enc (timesN y y) = cN4.enc yy) (eu : cN4.enc (minusN yy one4) = cN4.enc u) (edv : cN4.enc (timesN d4 yy) = cN4.enc dv) (ev : cN4.enc (plusN dv one4) = cN4.enc v) (eiv : cN4.enc (invN v) = cN4.enc iv) (eq : cN4.enc (timesN u iv) = cN4.enc q) (ky : N4Ok y) (kyy : N4Ok yy) (ku : N4Ok u) (kdv : N4Ok dv) (kv : N4Ok v) (kiv : N4Ok iv) (kq : N4Ok q) (h2 : flagN (leastN (rt1 q)) (rtOk q) = flagN r true) (h3 : eqI r.to zero4.to = true) (h4 : (b.b31.fdiv (2 ^ 7) == 1) = false) (h5 : (IntKind.u8.wrap (r.l0.tmod 2) != b.b31.fdiv (2 ^ 7)) = true) (kr : N4Ok r) (em : cN4.enc (minusN zero4 r) = cN4.enc m) (km : N4Ok m) (ex : cN4.enc (leastN m) = cN4.enc x) (kx : N4Ok x) :
    FnOk Try.prog 77 [cB32.enc b] (flagQ ⟨x, y, one4, timesN x y⟩ true) :=
  FnOk.of_out (Γ := [rcanonical_con, rfrom_con, rtimes_con, rsmall_con, rminus_con, rD_con, rplus_con, rinverse_con, rroot_con, rleast_con]) tys_ok mixed Try.func77 (n := 100) (orc := [(17, [true]), (21, [.s (cN4.enc y)]), (24, [.s (cN4.enc yy)]), (28, [.s (cN4.enc u)]), (31, [.s (cN4.enc dv)]), (33, [.s (cN4.enc v)]), (34, [.s (cN4.enc iv)]), (35, [.s (cN4.enc q)]), (36, [.s (flagN r true)]), (44, [true]), (47, [false]), (55, [true]), (58, [.s (cN4.enc m)]), (59, [.s (cN4.enc x)])])
    (cs := [belowW (fromN (low31 b)) p4 = true, cN4.enc (fromN (low31 b)) = cN4.enc y, N4Ok y, N4Ok y, cN4.enc (timesN y y) = cN4.enc yy, N4Ok yy, N4Ok one4, cN4.enc (minusN yy one4) = cN4.enc u, N4Ok d4, N4Ok yy, cN4.enc (timesN d4 yy) = cN4.enc dv, N4Ok dv, N4Ok one4, cN4.enc (plusN dv one4) = cN4.enc v, N4Ok v, cN4.enc (invN v) = cN4.enc iv, N4Ok u, N4Ok iv, cN4.enc (timesN u iv) = cN4.enc q, N4Ok q, flagN (leastN (rt1 q)) (rtOk q) = flagN r true, eqI r.to zero4.to = true, (b.b31.fdiv (2 ^ 7) == 1) = false, (IntKind.u8.wrap (r.l0.tmod 2) != b.b31.fdiv (2 ^ 7)) = true, N4Ok zero4, N4Ok r, cN4.enc (minusN zero4 r) = cN4.enc m, N4Ok m, cN4.enc (leastN m) = cN4.enc x, N4Ok x, N4Ok y]) (by kernel_rfl)
    ⟨h1, ey, ky, ky, eyy, kyy, one4_ok', eu, d4_ok, kyy, edv, kdv, one4_ok', ev, kv, eiv, ku, kiv, eq, kq, h2, h3, h4, h5, zero4_ok, kr, em, km, ex, kx, ky, trivial⟩ rfl rfl
theorem qdec_nopar_b (b : B32) (y yy u dv v iv q r m x : N4) (h1 : belowW (fromN (low31 b)) p4 = true) (ey : cN4.enc (fromN (low31 b)) = cN4.enc y) (eyy : cN4.enc (timesN y y) = cN4.enc yy) (eu : cN4.enc (minusN yy one4) = cN4.enc u) (edv : cN4.enc (timesN d4 yy) = cN4.enc dv) (ev : cN4.enc (plusN dv one4) = cN4.enc v) (eiv : cN4.enc (invN v) = cN4.enc iv) (eq : cN4.enc (timesN u iv) = cN4.enc q) (ky : N4Ok y) (kyy : N4Ok yy) (ku : N4Ok u) (kdv : N4Ok dv) (kv : N4Ok v) (kiv : N4Ok iv) (kq : N4Ok q) (h2 : flagN (leastN (rt1 q)) (rtOk q) = flagN r true) (h3 : eqI r.to zero4.to = true) (h4 : (b.b31.fdiv (2 ^ 7) == 1) = false) (h5 : (IntKind.u8.wrap (r.l0.tmod 2) != b.b31.fdiv (2 ^ 7)) = false) (kr : N4Ok r) :
    FnOk Try.prog 77 [cB32.enc b] (flagQ ⟨r, y, one4, timesN r y⟩ true) :=
  FnOk.of_out (Γ := [rcanonical_con, rfrom_con, rtimes_con, rsmall_con, rminus_con, rD_con, rplus_con, rinverse_con, rroot_con, rleast_con]) tys_ok mixed Try.func77 (n := 100) (orc := [(17, [true]), (21, [.s (cN4.enc y)]), (24, [.s (cN4.enc yy)]), (28, [.s (cN4.enc u)]), (31, [.s (cN4.enc dv)]), (33, [.s (cN4.enc v)]), (34, [.s (cN4.enc iv)]), (35, [.s (cN4.enc q)]), (36, [.s (flagN r true)]), (44, [true]), (47, [false]), (55, [false])])
    (cs := [belowW (fromN (low31 b)) p4 = true, cN4.enc (fromN (low31 b)) = cN4.enc y, N4Ok y, N4Ok y, cN4.enc (timesN y y) = cN4.enc yy, N4Ok yy, N4Ok one4, cN4.enc (minusN yy one4) = cN4.enc u, N4Ok d4, N4Ok yy, cN4.enc (timesN d4 yy) = cN4.enc dv, N4Ok dv, N4Ok one4, cN4.enc (plusN dv one4) = cN4.enc v, N4Ok v, cN4.enc (invN v) = cN4.enc iv, N4Ok u, N4Ok iv, cN4.enc (timesN u iv) = cN4.enc q, N4Ok q, flagN (leastN (rt1 q)) (rtOk q) = flagN r true, eqI r.to zero4.to = true, (b.b31.fdiv (2 ^ 7) == 1) = false, (IntKind.u8.wrap (r.l0.tmod 2) != b.b31.fdiv (2 ^ 7)) = false, N4Ok r, N4Ok y]) (by kernel_rfl)
    ⟨h1, ey, ky, ky, eyy, kyy, one4_ok', eu, d4_ok, kyy, edv, kdv, one4_ok', ev, kv, eiv, ku, kiv, eq, kq, h2, h3, h4, h5, kr, ky, trivial⟩ rfl rfl
theorem qdec_fn (b : B32) (hp : Holds [BOk b]) : FnOk Try.prog 77 [cB32.enc b] (flagQ (qP b) (qOk b)) := by
  obtain ⟨hy, hyy, hu, hdv, hv, hi, hq, hr⟩ := qdec_ok hp.1
  have hm := minus_ok zero4_ok hr
  unfold qP
  unfold qOk
  cases h1 : belowW (fromN (low31 b)) p4 with
  | false => exact FnOk.of_out (Γ := [rcanonical_con, rfrom_con, rtimes_con, rsmall_con, rminus_con, rD_con, rplus_con, rinverse_con, rroot_con, rleast_con]) tys_ok mixed Try.func77 (n := 100) (orc := [(17, [false])]) (cs := [belowW (fromN (low31 b)) p4 = false]) (by kernel_rfl) ⟨h1, trivial⟩ rfl rfl
  | true =>
    simp only
    cases h2 : rtOk (qq b) with
    | false => exact qdec_noroot b (qy b) (qyy b) (qu b) (timesN d4 (qyy b)) (qv b) (invN (qv b)) (qq b) (qr b) (minusN zero4 (qr b)) (leastN (minusN zero4 (qr b))) h1 rfl rfl rfl rfl rfl rfl rfl hy hyy hu hdv hv hi hq (by rw [h2]; rfl)
    | true =>
      simp only
      cases h3 : eqI (qr b).to zero4.to with
      | false =>
        simp only
        unfold qx
        cases h5 : qpar b with
        | true => exact qdec_par_a b (qy b) (qyy b) (qu b) (timesN d4 (qyy b)) (qv b) (invN (qv b)) (qq b) (qr b) (minusN zero4 (qr b)) (leastN (minusN zero4 (qr b))) h1 rfl rfl rfl rfl rfl rfl rfl hy hyy hu hdv hv hi hq (by rw [h2]; rfl) h3 h5 hr rfl hm rfl (least_ok hm)
        | false => exact qdec_nopar_a b (qy b) (qyy b) (qu b) (timesN d4 (qyy b)) (qv b) (invN (qv b)) (qq b) (qr b) (minusN zero4 (qr b)) (leastN (minusN zero4 (qr b))) h1 rfl rfl rfl rfl rfl rfl rfl hy hyy hu hdv hv hi hq (by rw [h2]; rfl) h3 h5 hr
      | true =>
        simp only
        cases h4 : (b.b31.fdiv (2 ^ 7) == 1) with
        | true => exact qdec_odd0 b (qy b) (qyy b) (qu b) (timesN d4 (qyy b)) (qv b) (invN (qv b)) (qq b) (qr b) (minusN zero4 (qr b)) (leastN (minusN zero4 (qr b))) h1 rfl rfl rfl rfl rfl rfl rfl hy hyy hu hdv hv hi hq (by rw [h2]; rfl) h3 h4
        | false =>
          simp only [Bool.not_false]
          unfold qx
          cases h5 : qpar b with
          | true => exact qdec_par_b b (qy b) (qyy b) (qu b) (timesN d4 (qyy b)) (qv b) (invN (qv b)) (qq b) (qr b) (minusN zero4 (qr b)) (leastN (minusN zero4 (qr b))) h1 rfl rfl rfl rfl rfl rfl rfl hy hyy hu hdv hv hi hq (by rw [h2]; rfl) h3 h4 h5 hr rfl hm rfl (least_ok hm)
          | false => exact qdec_nopar_b b (qy b) (qyy b) (qu b) (timesN d4 (qyy b)) (qv b) (invN (qv b)) (qq b) (qr b) (minusN zero4 (qr b)) (leastN (minusN zero4 (qr b))) h1 rfl rfl rfl rfl rfl rfl rfl hy hyy hu hdv hv hi hq (by rw [h2]; rfl) h3 h4 h5 hr
noncomputable def qdec_con : Con Try.prog := con1 77 Try.f77 Try.func77 (by kernel_rfl) (by kernel_rfl) (cB32) (fun b => flagQ (qP b) (qOk b)) (fun b => [BOk b]) (fun _ => rfl) (fun b h => qdec_fn b h)
def genPt : B32 := ⟨88, 102, 102, 102, 102, 102, 102, 102, 102, 102, 102, 102, 102, 102, 102, 102, 102, 102, 102, 102, 102, 102, 102, 102, 102, 102, 102, 102, 102, 102, 102, 102⟩
theorem qzero_fn : FnOk Try.prog 46 [] (cB32.enc zeroPt) :=
  FnOk.of_out (Γ := []) tys_ok mixed Try.func46 (n := 100) (orc := []) (cs := []) (by kernel_rfl) trivial rfl rfl
noncomputable def qzero_con : Con Try.prog := con0 46 Try.f46 Try.func46 (by kernel_rfl) (by kernel_rfl) (cB32.enc zeroPt) [] rfl (fun _ => qzero_fn)
theorem qgen_fn : FnOk Try.prog 47 [] (cB32.enc genPt) :=
  FnOk.of_out (Γ := []) tys_ok mixed Try.func47 (n := 100) (orc := []) (cs := []) (by kernel_rfl) trivial rfl rfl
noncomputable def qgen_con : Con Try.prog := con0 47 Try.f47 Try.func47 (by kernel_rfl) (by kernel_rfl) (cB32.enc genPt) [] rfl (fun _ => qgen_fn)
theorem qcheck_fn (a : B32) (hp : Holds [BOk a]) : FnOk Try.prog 44 [cB32.enc a] ((cInt .i64).enc (errOf (qOk a))) := by
  cases h : qOk a with
  | true => exact FnOk.of_out (Γ := [qdec_con]) tys_ok mixed Try.func44 (n := 100) (orc := [(9, [true])]) (cs := [BOk a, qOk a = true]) (by kernel_rfl) ⟨hp.1, h, trivial⟩ rfl rfl
  | false => exact FnOk.of_out (Γ := [qdec_con]) tys_ok mixed Try.func44 (n := 100) (orc := [(9, [false])]) (cs := [BOk a, qOk a = false]) (by kernel_rfl) ⟨hp.1, h, trivial⟩ rfl rfl
noncomputable def qcheck_con : Con Try.prog := con1 44 Try.f44 Try.func44 (by kernel_rfl) (by kernel_rfl) (cB32) (fun a => (cInt .i64).enc (errOf (qOk a))) (fun a => [BOk a]) (fun _ => rfl) (fun a h => qcheck_fn a h)
noncomputable def qaddB (a b : B32) : B32 := match qOk a && qOk b with
  | true => encQ (sumQ (qP a) (qP b))
  | false => zeroB
theorem qadd_fn (a b : B32) (hp : Holds [BOk a, BOk b]) : FnOk Try.prog 39 [cB32.enc a, cB32.enc b] (flagB (qaddB a b) (errOf (qOk a && qOk b))) := by
  have ha := qP_ok hp.1
  have hb := qP_ok hp.2.1
  unfold qaddB
  cases h : qOk a with
  | true =>
    cases h' : qOk b with
    | true => exact FnOk.of_out (Γ := [qdec_con, qsum_con, qenc_con]) tys_ok mixed Try.func39 (n := 100) (orc := [(14, [true]), (19, [true])]) (cs := [BOk a, qOk a = true, BOk b, qOk b = true, QOk (qP a), QOk (qP b), QOk (sumQ (qP a) (qP b))]) (by kernel_rfl) ⟨hp.1, h, hp.2.1, h', ha, hb, sumQ_ok ha hb, trivial⟩ rfl rfl
    | false => exact FnOk.of_out (Γ := [qdec_con, qsum_con, qenc_con]) tys_ok mixed Try.func39 (n := 100) (orc := [(14, [true]), (19, [false])]) (cs := [BOk a, qOk a = true, BOk b, qOk b = false]) (by kernel_rfl) ⟨hp.1, h, hp.2.1, h', trivial⟩ rfl rfl
  | false =>
    cases h' : qOk b with
    | true => exact FnOk.of_out (Γ := [qdec_con, qsum_con, qenc_con]) tys_ok mixed Try.func39 (n := 100) (orc := [(14, [false]), (19, [true])]) (cs := [BOk a, qOk a = false, BOk b, qOk b = true]) (by kernel_rfl) ⟨hp.1, h, hp.2.1, h', trivial⟩ rfl rfl
    | false => exact FnOk.of_out (Γ := [qdec_con, qsum_con, qenc_con]) tys_ok mixed Try.func39 (n := 100) (orc := [(14, [false]), (19, [false])]) (cs := [BOk a, qOk a = false, BOk b, qOk b = false]) (by kernel_rfl) ⟨hp.1, h, hp.2.1, h', trivial⟩ rfl rfl
noncomputable def qadd_con : Con Try.prog := con2 39 Try.f39 Try.func39 (by kernel_rfl) (by kernel_rfl) (cB32) (cB32) (fun a b => flagB (qaddB a b) (errOf (qOk a && qOk b))) (fun a b => [BOk a, BOk b]) (fun _ _ => rfl) (fun a b h => qadd_fn a b h)
theorem negQ_ok {p : P16} (hp : QOk p) : QOk (negQ p) := ⟨minus_ok zero4_ok hp.1, hp.2.1, hp.2.2.1, minus_ok zero4_ok hp.2.2.2⟩
noncomputable def qnegB (a : B32) : B32 := match qOk a with
  | true => encQ (negQ (qP a))
  | false => zeroB
theorem qneg_fn (a : B32) (hp : Holds [BOk a]) : FnOk Try.prog 40 [cB32.enc a] (flagB (qnegB a) (errOf (qOk a))) := by
  have ha := qP_ok hp.1
  unfold qnegB
  cases h : qOk a with
  | true => exact FnOk.of_out (Γ := [qdec_con, qminus_con, qenc_con]) tys_ok mixed Try.func40 (n := 100) (orc := [(10, [true])]) (cs := [BOk a, qOk a = true, QOk (qP a), QOk (negQ (qP a))]) (by kernel_rfl) ⟨hp.1, h, ha, negQ_ok ha, trivial⟩ rfl rfl
  | false => exact FnOk.of_out (Γ := [qdec_con, qminus_con, qenc_con]) tys_ok mixed Try.func40 (n := 100) (orc := [(10, [false])]) (cs := [BOk a, qOk a = false]) (by kernel_rfl) ⟨hp.1, h, trivial⟩ rfl rfl
noncomputable def qneg_con : Con Try.prog := con1 40 Try.f40 Try.func40 (by kernel_rfl) (by kernel_rfl) (cB32) (fun a => flagB (qnegB a) (errOf (qOk a))) (fun a => [BOk a]) (fun _ => rfl) (fun a h => qneg_fn a h)
end Go.Proofs.Ytmfobbdgmedhdaa

/- The statements about points: what each function computes, each call's answer under a name. -/
import Derived.Test.YtmfobbdgmedhdaaRefP3
import Derived.Test.YtmfobbdgmedhdaaRefS3
import Derived.Test.YtmfobbdgmedhdaaPMc
namespace Go.Proofs.Ytmfobbdgmedhdaa
open Go Go.Eng
set_option linter.unusedVariables false
set_option maxRecDepth 100000

theorem pawake_walk  (g : B32)
    (h1 : cB32.enc (encP baseP) = cB32.enc (g))
    (h2 : (g.b0 == 88) = true)
    (h3 : (g.b31 == 102) = true)
    (h4 : (cInt .i64).enc (errOf (decOk g)) = (cInt .i64).enc (0)) :
    FnOk Try.prog 29 [] (cBool.enc true) :=
  FnOk.of_out (Γ := [pgen_con, pcheck_con]) tys_ok mixed Try.func29 (n := 100) (orc := [(2, [.s (cB32.enc (g))]), (5, [true]), (9, [true]), (13, [.s ((cInt .i64).enc (0))])])
    (cs := [cB32.enc (encP baseP) = cB32.enc (g), (g.b0 == 88) = true, (g.b31 == 102) = true, (cInt .i64).enc (errOf (decOk g)) = (cInt .i64).enc (0)]) (by kernel_rfl)
    ⟨h1, h2, h3, h4, trivial⟩ rfl rfl
theorem gen_eq : encP baseP = genPt := by
  obtain ⟨h1, h2⟩ := enc_val base_rep
  refine VB_inj _ _ h1 genPt_ok ?_
  rw [h2]
  decide +kernel
theorem gen_dec : decOk genPt = true := (dec_of genPt_ok bC_on (by rw [← gen_eq]; exact (enc_val base_rep).2)).1
theorem pawake_fn : FnOk Try.prog 29 [] (cBool.enc true) :=
  pawake_walk genPt (by rw [gen_eq]) rfl rfl (by rw [gen_dec]; rfl)
def pawake_con : Con Try.prog := con0 29 Try.f29 Try.func29 (by kernel_rfl) (by kernel_rfl) (cBool.enc true) [] rfl (fun _ => pawake_fn)
def ordB : B32 := ⟨237, 211, 245, 92, 26, 99, 18, 88, 214, 156, 247, 162, 222, 249, 222, 20, 0, 0, 0, 0, 0, 0, 0, 0, 0, 0, 0, 0, 0, 0, 0, 16⟩
def lessB : B32 := ⟨236, 211, 245, 92, 26, 99, 18, 88, 214, 156, 247, 162, 222, 249, 222, 20, 0, 0, 0, 0, 0, 0, 0, 0, 0, 0, 0, 0, 0, 0, 0, 16⟩

theorem porder_walk  (g m z1 z2 z3 : B32)
    (h1 : cB32.enc (encP baseP) = cB32.enc (g))
    (h2 : flagB (pnegB g) (errOf (decOk g)) = flagB m 0)
    (h3 : Nib ordB)
    (h4 : cB32.enc (pbaseB ordB) = cB32.enc (z1))
    (h5 : eqB z1 zeroPt = true)
    (h6 : Nib lessB)
    (h7 : cB32.enc (pbaseB lessB) = cB32.enc (z2))
    (h8 : eqB z2 m = true)
    (h9 : Nib (numB 1))
    (h10 : cB32.enc (pbaseB (numB 1)) = cB32.enc (z3))
    (h11 : cB32.enc (encP baseP) = cB32.enc (g))
    (h12 : eqB z3 g = true) :
    FnOk Try.prog 8 [] (cBool.enc true) :=
  FnOk.of_out (Γ := [pawake_con, pgen_con, pneg_con, pbase_con, pzero_con]) tys_ok mixed Try.func8 (n := 100) (orc := [(12, [.s (cB32.enc (g))]), (13, [.s (flagB m 0)]), (19, [.s (cB32.enc (z1))]), (21, [true]), (29, [.s (cB32.enc (z2))]), (31, [true]), (35, [.s (cB32.enc (z3))]), (36, [.s (cB32.enc (g))]), (37, [true])])
    (cs := [cB32.enc (encP baseP) = cB32.enc (g), flagB (pnegB g) (errOf (decOk g)) = flagB m 0, Nib ordB, cB32.enc (pbaseB ordB) = cB32.enc (z1), eqB z1 zeroPt = true, Nib lessB, cB32.enc (pbaseB lessB) = cB32.enc (z2), eqB z2 m = true, Nib (numB 1), cB32.enc (pbaseB (numB 1)) = cB32.enc (z3), cB32.enc (encP baseP) = cB32.enc (g), eqB z3 g = true]) (by kernel_rfl)
    ⟨h1, h2, h3, h4, h5, h6, h7, h8, h9, h10, h11, h12, trivial⟩ rfl rfl
theorem pbytes_no (p : B32) (q : B32)
    (h1 : flagB (paddB p zeroPt) (errOf (decOk p && decOk zeroPt)) = flagB q 2)
    (h2 : (cInt .i64).enc (errOf (decOk p)) = (cInt .i64).enc (2))
    (h3 : eqB q zeroB = true) :
    FnOk Try.prog 9 [cB32.enc p] (cBool.enc true) :=
  FnOk.of_out (Γ := [pawake_con, pzero_con, padd_con, pcheck_con, pmul_con]) tys_ok mixed Try.func9 (n := 100) (orc := [(14, [.s (flagB q 2)]), (18, [.s ((cInt .i64).enc (2))]), (25, [true])])
    (cs := [flagB (paddB p zeroPt) (errOf (decOk p && decOk zeroPt)) = flagB q 2, (cInt .i64).enc (errOf (decOk p)) = (cInt .i64).enc (2), eqB q zeroB = true]) (by kernel_rfl)
    ⟨h1, h2, h3, trivial⟩ rfl rfl
theorem pbytes_yes (p : B32) (q t t2 : B32)
    (h1 : flagB (paddB p zeroPt) (errOf (decOk p && decOk zeroPt)) = flagB q 0)
    (h2 : (cInt .i64).enc (errOf (decOk p)) = (cInt .i64).enc (0))
    (h3 : flagB (paddB p p) (errOf (decOk p && decOk p)) = flagB t 0)
    (h4 : Nib (numB 2))
    (h5 : flagB (pmulB (numB 2) p) (errOf (decOk p)) = flagB t2 0)
    (h6 : eqB q p = true)
    (h7 : eqB t t2 = true) :
    FnOk Try.prog 9 [cB32.enc p] (cBool.enc true) :=
  FnOk.of_out (Γ := [pawake_con, pzero_con, padd_con, pcheck_con, pmul_con]) tys_ok mixed Try.func9 (n := 100) (orc := [(14, [.s (flagB q 0)]), (18, [.s ((cInt .i64).enc (0))]), (30, [.s (flagB t 0)]), (36, [.s (flagB t2 0)]), (44, [true]), (57, [true])])
    (cs := [flagB (paddB p zeroPt) (errOf (decOk p && decOk zeroPt)) = flagB q 0, (cInt .i64).enc (errOf (decOk p)) = (cInt .i64).enc (0), flagB (paddB p p) (errOf (decOk p && decOk p)) = flagB t 0, Nib (numB 2), flagB (pmulB (numB 2) p) (errOf (decOk p)) = flagB t2 0, eqB q p = true, eqB t t2 = true]) (by kernel_rfl)
    ⟨h1, h2, h3, h4, h5, h6, h7, trivial⟩ rfl rfl
theorem pgroup_walk (n : B32) (m : B32) (k : B32) (p q r a b c d e minus none same : B32)
    (h1 : Nib n)
    (h2 : cB32.enc (pbaseB n) = cB32.enc (p))
    (h3 : Nib m)
    (h4 : cB32.enc (pbaseB m) = cB32.enc (q))
    (h5 : Nib k)
    (h6 : cB32.enc (pbaseB k) = cB32.enc (r))
    (h7 : flagB (paddB p q) (errOf (decOk p && decOk q)) = flagB a 0)
    (h8 : flagB (paddB q p) (errOf (decOk q && decOk p)) = flagB b 0)
    (h9 : flagB (paddB a r) (errOf (decOk a && decOk r)) = flagB c 0)
    (h10 : flagB (paddB q r) (errOf (decOk q && decOk r)) = flagB d 0)
    (h11 : flagB (paddB p d) (errOf (decOk p && decOk d)) = flagB e 0)
    (h12 : flagB (pnegB p) (errOf (decOk p)) = flagB minus 0)
    (h13 : flagB (paddB p minus) (errOf (decOk p && decOk minus)) = flagB none 0)
    (h14 : flagB (paddB p zeroPt) (errOf (decOk p && decOk zeroPt)) = flagB same 0)
    (h15 : eqB a b = true)
    (h16 : eqB c e = true)
    (h17 : eqB none zeroPt = true)
    (h18 : eqB same p = true) :
    FnOk Try.prog 10 [cB32.enc n, cB32.enc m, cB32.enc k] (cBool.enc true) :=
  FnOk.of_out (Γ := [pawake_con, pbase_con, padd_con, pneg_con, pzero_con]) tys_ok mixed Try.func10 (n := 100) (orc := [(29, [.s (cB32.enc (p))]), (31, [.s (cB32.enc (q))]), (33, [.s (cB32.enc (r))]), (37, [.s (flagB a 0)]), (43, [.s (flagB b 0)]), (49, [.s (flagB c 0)]), (55, [.s (flagB d 0)]), (61, [.s (flagB e 0)]), (66, [.s (flagB minus 0)]), (72, [.s (flagB none 0)]), (78, [.s (flagB same 0)]), (113, [true]), (117, [true]), (122, [true]), (127, [true])])
    (cs := [Nib n, cB32.enc (pbaseB n) = cB32.enc (p), Nib m, cB32.enc (pbaseB m) = cB32.enc (q), Nib k, cB32.enc (pbaseB k) = cB32.enc (r), flagB (paddB p q) (errOf (decOk p && decOk q)) = flagB a 0, flagB (paddB q p) (errOf (decOk q && decOk p)) = flagB b 0, flagB (paddB a r) (errOf (decOk a && decOk r)) = flagB c 0, flagB (paddB q r) (errOf (decOk q && decOk r)) = flagB d 0, flagB (paddB p d) (errOf (decOk p && decOk d)) = flagB e 0, flagB (pnegB p) (errOf (decOk p)) = flagB minus 0, flagB (paddB p minus) (errOf (decOk p && decOk minus)) = flagB none 0, flagB (paddB p zeroPt) (errOf (decOk p && decOk zeroPt)) = flagB same 0, eqB a b = true, eqB c e = true, eqB none zeroPt = true, eqB same p = true]) (by kernel_rfl)
    ⟨h1, h2, h3, h4, h5, h6, h7, h8, h9, h10, h11, h12, h13, h14, h15, h16, h17, h18, trivial⟩ rfl rfl
theorem poften_walk (n : B32) (m : B32) (p q s t u v w x : B32)
    (h1 : Nib n)
    (h2 : cB32.enc (pbaseB n) = cB32.enc (p))
    (h3 : Nib m)
    (h4 : cB32.enc (pbaseB m) = cB32.enc (q))
    (h5 : flagB (paddB p q) (errOf (decOk p && decOk q)) = flagB s 0)
    (h6 : Nib m)
    (h7 : cB32.enc (pbaseB m) = cB32.enc (q))
    (h8 : Nib n)
    (h9 : flagB (pmulB n q) (errOf (decOk q)) = flagB t 0)
    (h10 : cB32.enc (saddB n m) = cB32.enc (u))
    (h11 : Nib u)
    (h12 : cB32.enc (pbaseB u) = cB32.enc (v))
    (h13 : eqB s v = true)
    (h14 : cB32.enc (smulB n m zeroB) = cB32.enc (w))
    (h15 : Nib w)
    (h16 : cB32.enc (pbaseB w) = cB32.enc (x))
    (h17 : eqB t x = true) :
    FnOk Try.prog 11 [cB32.enc n, cB32.enc m] (cBool.enc true) :=
  FnOk.of_out (Γ := [pawake_con, pbase_con, padd_con, pmul_con, sadd_con, smul_con]) tys_ok mixed Try.func11 (n := 100) (orc := [(13, [.s (cB32.enc (p))]), (15, [.s (cB32.enc (q))]), (16, [.s (flagB s 0)]), (22, [.s (cB32.enc (q))]), (23, [.s (flagB t 0)]), (36, [.s (cB32.enc (u))]), (37, [.s (cB32.enc (v))]), (38, [true]), (45, [.s (cB32.enc (w))]), (46, [.s (cB32.enc (x))]), (47, [true])])
    (cs := [Nib n, cB32.enc (pbaseB n) = cB32.enc (p), Nib m, cB32.enc (pbaseB m) = cB32.enc (q), flagB (paddB p q) (errOf (decOk p && decOk q)) = flagB s 0, Nib m, cB32.enc (pbaseB m) = cB32.enc (q), Nib n, flagB (pmulB n q) (errOf (decOk q)) = flagB t 0, cB32.enc (saddB n m) = cB32.enc (u), Nib u, cB32.enc (pbaseB u) = cB32.enc (v), eqB s v = true, cB32.enc (smulB n m zeroB) = cB32.enc (w), Nib w, cB32.enc (pbaseB w) = cB32.enc (x), eqB t x = true]) (by kernel_rfl)
    ⟨h1, h2, h3, h4, h5, h6, h7, h8, h9, h10, h11, h12, h13, h14, h15, h16, h17, trivial⟩ rfl rfl
theorem peight_walk (n : B32) (p a b : B32) (s : Bool)
    (h1 : Nib n)
    (h2 : cB32.enc (pbaseB n) = cB32.enc (p))
    (h3 : flagB (pclearB p) (errOf (decOk p)) = flagB a 0)
    (h4 : Nib (numB 8))
    (h5 : flagB (pmulB (numB 8) p) (errOf (decOk p)) = flagB b 0)
    (h6 : flagZ (psmallF p) (errOf (decOk p)) = flagZ s 0)
    (h7 : eqB a b = true)
    (h8 : (s == eqB p zeroPt) = true) :
    FnOk Try.prog 12 [cB32.enc n] (cBool.enc true) :=
  FnOk.of_out (Γ := [pawake_con, pbase_con, pclear_con, pmul_con, psmall_con, pzero_con]) tys_ok mixed Try.func12 (n := 100) (orc := [(13, [.s (cB32.enc (p))]), (16, [.s (flagB a 0)]), (22, [.s (flagB b 0)]), (27, [.s (flagZ s 0)]), (43, [true]), (50, [true])])
    (cs := [Nib n, cB32.enc (pbaseB n) = cB32.enc (p), flagB (pclearB p) (errOf (decOk p)) = flagB a 0, Nib (numB 8), flagB (pmulB (numB 8) p) (errOf (decOk p)) = flagB b 0, flagZ (psmallF p) (errOf (decOk p)) = flagZ s 0, eqB a b = true, (s == eqB p zeroPt) = true]) (by kernel_rfl)
    ⟨h1, h2, h3, h4, h5, h6, h7, h8, trivial⟩ rfl rfl
theorem pall_walk (p : B32) (q : B32) (n : B32) (a b c d x y z u v w g : B32) (s t : Bool) (e1 e2 e3 e4 e5 f1 f2 f3 f4 f5 c1 c2 : Int)
    (h1 : flagB (paddB p q) (errOf (decOk p && decOk q)) = flagB a e1)
    (h2 : flagB (pnegB p) (errOf (decOk p)) = flagB b e2)
    (h3 : Nib n)
    (h4 : flagB (pmulB n p) (errOf (decOk p)) = flagB c e3)
    (h5 : flagB (pclearB p) (errOf (decOk p)) = flagB d e4)
    (h6 : flagZ (psmallF p) (errOf (decOk p)) = flagZ s e5)
    (h7 : BOk p)
    (h8 : BOk q)
    (h9 : flagB (qaddB p q) (errOf (qOk p && qOk q)) = flagB x f1)
    (h10 : BOk p)
    (h11 : flagB (qnegB p) (errOf (qOk p)) = flagB y f2)
    (h12 : BOk p)
    (h13 : flagB (qmulB n p) (errOf (qOk p)) = flagB z f3)
    (h14 : BOk p)
    (h15 : flagB (qclearB p) (errOf (qOk p)) = flagB u f4)
    (h16 : BOk p)
    (h17 : flagZ (qsmallF p) (errOf (qOk p)) = flagZ t f5)
    (h18 : (e1 != f1) = false)
    (h19 : (e2 != f2) = false)
    (h20 : (e3 != f3) = false)
    (h21 : (e4 != f4) = false)
    (h22 : (e5 != f5) = false)
    (h23 : (cInt .i64).enc (errOf (decOk p)) = (cInt .i64).enc (c1))
    (h24 : BOk p)
    (h25 : (cInt .i64).enc (errOf (qOk p)) = (cInt .i64).enc (c2))
    (h26 : (c1 != c2) = false)
    (h27 : eqB a x = true)
    (h28 : eqB b y = true)
    (h29 : eqB c z = true)
    (h30 : eqB d u = true)
    (h31 : (s == t) = true)
    (h32 : Nib n)
    (h33 : cB32.enc (pbaseB n) = cB32.enc (v))
    (h34 : cB32.enc (qbaseB n) = cB32.enc (w))
    (h35 : eqB v w = true)
    (h36 : eqB zeroPt zeroPt = true)
    (h37 : cB32.enc (encP baseP) = cB32.enc (g))
    (h38 : eqB g genPt = true) :
    FnOk Try.prog 13 [cB32.enc p, cB32.enc q, cB32.enc n] (cBool.enc true) :=
  FnOk.of_out (Γ := [pawake_con, padd_con, pneg_con, pmul_con, pclear_con, psmall_con, qadd_con, qneg_con, qmul_con, qclear_con, qsmall_con, pcheck_con, qcheck_con, pbase_con, qbase_con, pzero_con, qzero_con, pgen_con, qgen_con]) tys_ok mixed Try.func13 (n := 100) (orc := [(32, [.s (flagB a e1)]), (37, [.s (flagB b e2)]), (43, [.s (flagB c e3)]), (48, [.s (flagB d e4)]), (53, [.s (flagZ s e5)]), (59, [.s (flagB x f1)]), (64, [.s (flagB y f2)]), (70, [.s (flagB z f3)]), (75, [.s (flagB u f4)]), (80, [.s (flagZ t f5)]), (85, [false]), (89, [false]), (94, [false]), (99, [false]), (104, [false]), (108, [.s ((cInt .i64).enc (c1))]), (110, [.s ((cInt .i64).enc (c2))]), (111, [false]), (115, [true]), (119, [true]), (124, [true]), (129, [true]), (134, [true]), (138, [.s (cB32.enc (v))]), (140, [.s (cB32.enc (w))]), (141, [true]), (146, [true]), (149, [.s (cB32.enc (g))]), (151, [true])])
    (cs := [flagB (paddB p q) (errOf (decOk p && decOk q)) = flagB a e1, flagB (pnegB p) (errOf (decOk p)) = flagB b e2, Nib n, flagB (pmulB n p) (errOf (decOk p)) = flagB c e3, flagB (pclearB p) (errOf (decOk p)) = flagB d e4, flagZ (psmallF p) (errOf (decOk p)) = flagZ s e5, BOk p, BOk q, flagB (qaddB p q) (errOf (qOk p && qOk q)) = flagB x f1, BOk p, flagB (qnegB p) (errOf (qOk p)) = flagB y f2, BOk p, flagB (qmulB n p) (errOf (qOk p)) = flagB z f3, BOk p, flagB (qclearB p) (errOf (qOk p)) = flagB u f4, BOk p, flagZ (qsmallF p) (errOf (qOk p)) = flagZ t f5, (e1 != f1) = false, (e2 != f2) = false, (e3 != f3) = false, (e4 != f4) = false, (e5 != f5) = false, (cInt .i64).enc (errOf (decOk p)) = (cInt .i64).enc (c1), BOk p, (cInt .i64).enc (errOf (qOk p)) = (cInt .i64).enc (c2), (c1 != c2) = false, eqB a x = true, eqB b y = true, eqB c z = true, eqB d u = true, (s == t) = true, Nib n, cB32.enc (pbaseB n) = cB32.enc (v), cB32.enc (qbaseB n) = cB32.enc (w), eqB v w = true, eqB zeroPt zeroPt = true, cB32.enc (encP baseP) = cB32.enc (g), eqB g genPt = true]) (by kernel_rfl)
    ⟨h1, h2, h3, h4, h5, h6, h7, h8, h9, h10, h11, h12, h13, h14, h15, h16, h17, h18, h19, h20, h21, h22, h23, h24, h25, h26, h27, h28, h29, h30, h31, h32, h33, h34, h35, h36, h37, h38, trivial⟩ rfl rfl
end Go.Proofs.Ytmfobbdgmedhdaa

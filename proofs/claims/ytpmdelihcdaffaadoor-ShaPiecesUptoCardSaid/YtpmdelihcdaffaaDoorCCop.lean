/- The law of copies answers true, whatever the three slices. -/
import Derived.Test.YtpmdelihcdaffaaDoorLCop
import Derived.Test.YtpmdelihcdaffaaDoorDoorUp
namespace Go.Proofs.YtpmdelihcdaffaaDoor
open Go Go.Eng Go.RowKit
set_option linter.unusedVariables false
set_option maxRecDepth 100000

theorem cop_ok (x0 x1 x2 : SArg) (W : World) (h0 : x0.ok .u8 W) (h1 : x1.ok .u8 W) (h2 : x2.ok .u8 W) (b0 : x0.ints.length ≤ 1048576) (b1 : x1.ints.length ≤ 1048576) (b2 : x2.ints.length ≤ 1048576) (hg : GlobOk Gs W) :
    Calls Tryd.prog 4 #[x0.val, x1.val, x2.val] W fun e W' => e = .returned (.bool true) ∧ Below W.heap.size W W' := by
  have g0 := sarg_byt h0
  have g1 := sarg_byt h1
  have g2 := sarg_byt h2
  refine law_slices tys_ok Tryd.func4 (c := lcop.body) (by kernel_rfl) hg .u8 [x0, x1, x2] (fun y hy => by simp only [List.mem_cons, List.not_mem_nil, or_false] at hy; rcases hy with rfl | rfl | rfl <;> assumption) (r := cBool.enc true) rfl fun hi => ?_
  cases x0 with
  | none a0 =>
    cases x1 with
    | none a1 =>
      cases x2 with
      | none a2 =>
        exact lcop.nnn.walk a0 a1 a2 
      | win ys2 n2 c2 ty2 L2 =>
        exact lcop.nnw.walk a0 a1 ys2 n2 _ ty2 hi.2.2.1.1 hi.2.2.1.2 g2 (by have := hi.2.2.1.1; have b : ys2.length ≤ 1048576 := b2; omega)
    | win ys1 n1 c1 ty1 L1 =>
      cases x2 with
      | none a2 =>
        exact lcop.nwn.walk a0 ys1 n1 _ ty1 a2 hi.2.1.1 hi.2.1.2 g1 (by have := hi.2.1.1; have b : ys1.length ≤ 1048576 := b1; omega)
      | win ys2 n2 c2 ty2 L2 =>
        exact lcop.nww.walk a0 ys1 n1 _ ty1 ys2 n2 _ ty2 hi.2.1.1 hi.2.1.2 g1 (by have := hi.2.1.1; have b : ys1.length ≤ 1048576 := b1; omega) hi.2.2.1.1 hi.2.2.1.2 g2 (by have := hi.2.2.1.1; have b : ys2.length ≤ 1048576 := b2; omega)
  | win ys0 n0 c0 ty0 L0 =>
    cases x1 with
    | none a1 =>
      cases x2 with
      | none a2 =>
        exact lcop.wnn.walk ys0 n0 _ ty0 a1 a2 hi.1.1 hi.1.2 g0 (by have := hi.1.1; have b : ys0.length ≤ 1048576 := b0; omega)
      | win ys2 n2 c2 ty2 L2 =>
        exact lcop.wnw.walk ys0 n0 _ ty0 a1 ys2 n2 _ ty2 hi.1.1 hi.1.2 g0 (by have := hi.1.1; have b : ys0.length ≤ 1048576 := b0; omega) hi.2.2.1.1 hi.2.2.1.2 g2 (by have := hi.2.2.1.1; have b : ys2.length ≤ 1048576 := b2; omega)
    | win ys1 n1 c1 ty1 L1 =>
      cases x2 with
      | none a2 =>
        exact lcop.wwn.walk ys0 n0 _ ty0 ys1 n1 _ ty1 a2 hi.1.1 hi.1.2 g0 (by have := hi.1.1; have b : ys0.length ≤ 1048576 := b0; omega) hi.2.1.1 hi.2.1.2 g1 (by have := hi.2.1.1; have b : ys1.length ≤ 1048576 := b1; omega)
      | win ys2 n2 c2 ty2 L2 =>
        exact lcop.www.walk ys0 n0 _ ty0 ys1 n1 _ ty1 ys2 n2 _ ty2 hi.1.1 hi.1.2 g0 (by have := hi.1.1; have b : ys0.length ≤ 1048576 := b0; omega) hi.2.1.1 hi.2.1.2 g1 (by have := hi.2.1.1; have b : ys1.length ≤ 1048576 := b1; omega) hi.2.2.1.1 hi.2.2.1.2 g2 (by have := hi.2.2.1.1; have b : ys2.length ≤ 1048576 := b2; omega)
end Go.Proofs.YtpmdelihcdaffaaDoor

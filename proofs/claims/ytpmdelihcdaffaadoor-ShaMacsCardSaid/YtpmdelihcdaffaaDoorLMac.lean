/- beaconref01.MAC's contract; the law of MACs, walked; its content. -/
import Derived.Test.YtpmdelihcdaffaaDoorRMacW
import Derived.Test.YtpmdelihcdaffaaDoorLCop
import Derived.Test.YtpmdelihcdaffaaDoorCCop
namespace Go.Proofs.YtpmdelihcdaffaaDoor
open Go Go.Eng Go.RowKit
set_option linter.unusedVariables false
set_option linter.unusedSimpArgs false
set_option maxRecDepth 100000

def rmacV (key msg : List Int) : B32 := if 64 < key.length then refO (klong (refB key)) (refI (klong (refB key)) msg) else refO (kshort key key.length) (refI (kshort key key.length) msg)
theorem rmacV_nil (msg : List Int) : rmacV [] msg = refO (kshort [] 0) (refI (kshort [] 0) msg) := by
  unfold rmacV
  rw [if_neg (by decide)]
  simp only [List.length_nil]
def rmac_spec : List PArg → Option (SV × LEff × Cst)
  | [.win .u8 ys n ty, .win .u8 zs m ty'] => some (cB32.enc (rmacV ys zs), .none, [n ≤ 140737488354000, ∀ y ∈ ys, Byt y, m ≤ 140737488353936, ∀ y ∈ zs, Byt y])
  | [.win .u8 ys n ty, .val (.o (.a (.v (.slice _ 0 0))))] => some (cB32.enc (rmacV ys []), .none, [n ≤ 140737488354000, ∀ y ∈ ys, Byt y])
  | [.val (.o (.a (.v (.slice _ 0 0)))), .win .u8 zs m ty'] => some (cB32.enc (rmacV [] zs), .none, [m ≤ 140737488353936, ∀ y ∈ zs, Byt y])
  | [.val (.o (.a (.v (.slice _ 0 0)))), .val (.o (.a (.v (.slice _ 0 0))))] => some (cB32.enc (rmacV [] []), .none, [])
  | _ => none
noncomputable def rmac_con : Con Tryd.prog Gs := Con.parts tys_ok 20 rmac.fn Tryd.func20 (by kernel_rfl) (c := rmac.body) (by kernel_rfl) [.win .u8, .win .u8] rmac_spec
  (fun ps r e p h hp => by
    unfold rmac_spec at h
    split at h <;> cases h
    · exact ⟨cB32.ids _, fun b hb => by simp only [locBlks, PArg.blk, List.append_nil, List.cons_append, List.nil_append, List.mem_cons, List.not_mem_nil, or_false] at hb; rcases hb with rfl | rfl <;> rfl⟩
    · exact ⟨cB32.ids _, fun b hb => by simp only [locBlks, PArg.blk, List.append_nil, List.mem_singleton] at hb; rw [hb]⟩
    · exact ⟨cB32.ids _, fun b hb => by simp only [locBlks, PArg.blk, List.append_nil, List.nil_append, List.mem_singleton] at hb; rw [hb]⟩
    · exact ⟨cB32.ids _, fun b hb => by cases hb⟩)
  (fun ps r e p cap h hp hi => by
    unfold rmac_spec at h
    split at h <;> cases h
    · rename_i ys n ty zs m ty'
      have h1 : ys.length = n := hi.1.1
      obtain ⟨p1, p2, p3, p4, _⟩ := hp
      unfold rmacV
      by_cases hk : 64 < ys.length
      · rw [if_pos hk]; exact rmac.Lw.walk ys n _ ty zs m _ ty' h1 hi.1.2 (by omega) p1 p2 hi.2.1.1 p3 p4
      · rw [if_neg hk, h1]; exact rmac.Sw.walk ys n _ ty zs m _ ty' h1 hi.1.2 (by omega) hi.2.1.1 p3 p4
    · rename_i ys n ty a
      have h1 : ys.length = n := hi.1.1
      obtain ⟨p1, p2, _⟩ := hp
      unfold rmacV
      by_cases hk : 64 < ys.length
      · rw [if_pos hk]; exact rmac.Ln.walk ys n _ ty a h1 hi.1.2 (by omega) p1 p2
      · rw [if_neg hk, h1]; exact rmac.Sn.walk ys n _ ty a h1 hi.1.2 (by omega)
    · rename_i a zs m ty'
      rw [rmacV_nil]
      exact rmac.Nw.walk a zs m _ ty' hi.2.1.1 hp.1 hp.2.1
    · rename_i a b
      rw [rmacV_nil]
      exact rmac.Nn.walk a b)
/-! ### Both sides are one -/
theorem refI_eq (K : Nat → Int) (msg : List Int) (hs : msg.length ≤ 140737488353936) : macI K msg = refI K msg := by
  unfold macI refI
  rw [← absorb_append]
  exact ref_eq _ (by rw [List.length_append]; have : (xorK K 54).length = 64 := restL_length _ _ _; omega)
theorem refO_eq (K : Nat → Int) (b : B32) : macO K b = refO K b := by
  unfold macO refO
  rw [← absorb_append]
  exact ref_eq _ (by rw [List.length_append, to_len]; have : (xorK K 92).length = 64 := restL_length _ _ _; omega)
theorem mac_eq (key msg : List Int) (hk : key.length ≤ 140737488354000) (hm : msg.length ≤ 140737488353936) : macV key msg = rmacV key msg := by
  unfold macV rmacV
  rw [ref_eq key hk]
  simp only [refO_eq, refI_eq _ msg hm]
namespace lmac
noncomputable abbrev fn := Tryd.f6
noncomputable def body : Code := bodyOf fn
noncomputable def Γ : Cons Tryd.prog Gs := [awake_con, mac_con, rmac_con]
namespace ww
noncomputable def e (y0 : List Int) (n0 c0 : Nat) (ty0 : TypeId) (y1 : List Int) (n1 c1 : Nat) (ty1 : TypeId) (A : B32) : St := outS Γ tys 100 body ⟨startT fn [.o (.a (.sld 0 0 0 n0 c0)), .o (.a (.sld 1 0 0 n1 c1))], [⟨false, ty0, .pre .u8 y0⟩, ⟨false, ty1, .pre .u8 y1⟩], [(9, [.s (cB32.enc A)]), (12, [.s (cB32.enc A)]), (13, [.b true])]⟩
theorem ex (y0 : List Int) (n0 c0 : Nat) (ty0 : TypeId) (y1 : List Int) (n1 c1 : Nat) (ty1 : TypeId) (A : B32) : exec Γ tys 100 body ⟨startT fn [.o (.a (.sld 0 0 0 n0 c0)), .o (.a (.sld 1 0 0 n1 c1))], [⟨false, ty0, .pre .u8 y0⟩, ⟨false, ty1, .pre .u8 y1⟩], [(9, [.s (cB32.enc A)]), (12, [.s (cB32.enc A)]), (13, [.b true])]⟩ = some (.ret, ⟨(e y0 n0 c0 ty0 y1 n1 c1 ty1 A).tm, (e y0 n0 c0 ty0 y1 n1 c1 ty1 A).mem, (e y0 n0 c0 ty0 y1 n1 c1 ty1 A).orc⟩, [0 + n0 ≤ y0.length, n0 ≤ c0, 0 + n1 ≤ y1.length, n1 ≤ c1, cB32.enc (macV ((y0.drop 0).take n0) ((y1.drop 0).take n1)) = cB32.enc A, 0 + n0 ≤ y0.length, n0 ≤ c0, 0 + n1 ≤ y1.length, n1 ≤ c1, n0 ≤ 140737488354000, ∀ y ∈ ((y0.drop 0).take n0), Byt y, n1 ≤ 140737488353936, ∀ y ∈ ((y1.drop 0).take n1), Byt y, cB32.enc (rmacV ((y0.drop 0).take n0) ((y1.drop 0).take n1)) = cB32.enc A, lcop.selfEq A.to = true]) := by kernel_rfl
theorem res (y0 : List Int) (n0 c0 : Nat) (ty0 : TypeId) (y1 : List Int) (n1 c1 : Nat) (ty1 : TypeId) (A : B32) : eRes tys (e y0 n0 c0 ty0 y1 n1 c1 ty1 A).tm (fun k => (e y0 n0 c0 ty0 y1 n1 c1 ty1 A).mem[k]?) fn.results.toList = some [.a (bool1 true)] := by kernel_rfl
theorem walk (y0 : List Int) (n0 c0 : Nat) (ty0 : TypeId) (y1 : List Int) (n1 c1 : Nat) (ty1 : TypeId) (hy0 : y0.length = n0) (hc0 : n0 ≤ c0) (hb0 : ∀ y ∈ y0, Byt y) (hn0 : n0 ≤ 140737488353936) (hy1 : y1.length = n1) (hc1 : n1 ≤ c1) (hb1 : ∀ y ∈ y1, Byt y) (hn1 : n1 ≤ 140737488353936) : RunsF Tryd.prog Gs 2 body (startT fn [.o (.a (.sld 0 0 0 n0 c0)), .o (.a (.sld 1 0 0 n1 c1))]) [⟨false, ty0, .pre .u8 y0⟩, ⟨false, ty1, .pre .u8 y1⟩] (EndsM tys fn (endsQ (cBool.enc true) .none)) := by
  have e0 : (y0.drop 0).take n0 = y0 := by rw [List.drop_zero, List.take_of_length_le (by omega)]
  have e1 : (y1.drop 0).take n1 = y1 := by rw [List.drop_zero, List.take_of_length_le (by omega)]
  have hx := ex y0 n0 c0 ty0 y1 n1 c1 ty1 (rmacV y0 y1)
  rw [e0, e1] at hx
  exact Runs.of_exec tys_ok mixed hx ⟨by omega, hc0, by omega, hc1, by rw [mac_eq _ _ (by rw [hy0]; omega) (by rw [hy1]; omega)], by omega, hc0, by omega, hc1, by omega, hb0, by omega, hb1, rfl, lcop.selfEq_true _, trivial⟩ (EndsM.ret (res y0 n0 c0 ty0 y1 n1 c1 ty1 _) rfl)
end ww
namespace wn
noncomputable def e (y0 : List Int) (n0 c0 : Nat) (ty0 : TypeId) (a1 : Option Addr) (A : B32) : St := outS Γ tys 100 body ⟨startT fn [.o (.a (.sld 0 0 0 n0 c0)), .o (.a (.v (.slice a1 0 0)))], [⟨false, ty0, .pre .u8 y0⟩], [(9, [.s (cB32.enc A)]), (12, [.s (cB32.enc A)]), (13, [.b true])]⟩
theorem ex (y0 : List Int) (n0 c0 : Nat) (ty0 : TypeId) (a1 : Option Addr) (A : B32) : exec Γ tys 100 body ⟨startT fn [.o (.a (.sld 0 0 0 n0 c0)), .o (.a (.v (.slice a1 0 0)))], [⟨false, ty0, .pre .u8 y0⟩], [(9, [.s (cB32.enc A)]), (12, [.s (cB32.enc A)]), (13, [.b true])]⟩ = some (.ret, ⟨(e y0 n0 c0 ty0 a1 A).tm, (e y0 n0 c0 ty0 a1 A).mem, (e y0 n0 c0 ty0 a1 A).orc⟩, [0 + n0 ≤ y0.length, n0 ≤ c0, cB32.enc (macV ((y0.drop 0).take n0) []) = cB32.enc A, 0 + n0 ≤ y0.length, n0 ≤ c0, n0 ≤ 140737488354000, ∀ y ∈ ((y0.drop 0).take n0), Byt y, cB32.enc (rmacV ((y0.drop 0).take n0) []) = cB32.enc A, lcop.selfEq A.to = true]) := by kernel_rfl
theorem res (y0 : List Int) (n0 c0 : Nat) (ty0 : TypeId) (a1 : Option Addr) (A : B32) : eRes tys (e y0 n0 c0 ty0 a1 A).tm (fun k => (e y0 n0 c0 ty0 a1 A).mem[k]?) fn.results.toList = some [.a (bool1 true)] := by kernel_rfl
theorem walk (y0 : List Int) (n0 c0 : Nat) (ty0 : TypeId) (a1 : Option Addr) (hy0 : y0.length = n0) (hc0 : n0 ≤ c0) (hb0 : ∀ y ∈ y0, Byt y) (hn0 : n0 ≤ 140737488353936) : RunsF Tryd.prog Gs 1 body (startT fn [.o (.a (.sld 0 0 0 n0 c0)), .o (.a (.v (.slice a1 0 0)))]) [⟨false, ty0, .pre .u8 y0⟩] (EndsM tys fn (endsQ (cBool.enc true) .none)) := by
  have e0 : (y0.drop 0).take n0 = y0 := by rw [List.drop_zero, List.take_of_length_le (by omega)]
  have hx := ex y0 n0 c0 ty0 a1 (rmacV y0 [])
  rw [e0] at hx
  exact Runs.of_exec tys_ok mixed hx ⟨by omega, hc0, by rw [mac_eq _ _ (by rw [hy0]; omega) (by decide)], by omega, hc0, by omega, hb0, rfl, lcop.selfEq_true _, trivial⟩ (EndsM.ret (res y0 n0 c0 ty0 a1 _) rfl)
end wn
namespace nw
noncomputable def e (a0 : Option Addr) (y1 : List Int) (n1 c1 : Nat) (ty1 : TypeId) (A : B32) : St := outS Γ tys 100 body ⟨startT fn [.o (.a (.v (.slice a0 0 0))), .o (.a (.sld 0 0 0 n1 c1))], [⟨false, ty1, .pre .u8 y1⟩], [(9, [.s (cB32.enc A)]), (12, [.s (cB32.enc A)]), (13, [.b true])]⟩
theorem ex (a0 : Option Addr) (y1 : List Int) (n1 c1 : Nat) (ty1 : TypeId) (A : B32) : exec Γ tys 100 body ⟨startT fn [.o (.a (.v (.slice a0 0 0))), .o (.a (.sld 0 0 0 n1 c1))], [⟨false, ty1, .pre .u8 y1⟩], [(9, [.s (cB32.enc A)]), (12, [.s (cB32.enc A)]), (13, [.b true])]⟩ = some (.ret, ⟨(e a0 y1 n1 c1 ty1 A).tm, (e a0 y1 n1 c1 ty1 A).mem, (e a0 y1 n1 c1 ty1 A).orc⟩, [0 + n1 ≤ y1.length, n1 ≤ c1, cB32.enc (macV [] ((y1.drop 0).take n1)) = cB32.enc A, 0 + n1 ≤ y1.length, n1 ≤ c1, n1 ≤ 140737488353936, ∀ y ∈ ((y1.drop 0).take n1), Byt y, cB32.enc (rmacV [] ((y1.drop 0).take n1)) = cB32.enc A, lcop.selfEq A.to = true]) := by kernel_rfl
theorem res (a0 : Option Addr) (y1 : List Int) (n1 c1 : Nat) (ty1 : TypeId) (A : B32) : eRes tys (e a0 y1 n1 c1 ty1 A).tm (fun k => (e a0 y1 n1 c1 ty1 A).mem[k]?) fn.results.toList = some [.a (bool1 true)] := by kernel_rfl
theorem walk (a0 : Option Addr) (y1 : List Int) (n1 c1 : Nat) (ty1 : TypeId) (hy1 : y1.length = n1) (hc1 : n1 ≤ c1) (hb1 : ∀ y ∈ y1, Byt y) (hn1 : n1 ≤ 140737488353936) : RunsF Tryd.prog Gs 1 body (startT fn [.o (.a (.v (.slice a0 0 0))), .o (.a (.sld 0 0 0 n1 c1))]) [⟨false, ty1, .pre .u8 y1⟩] (EndsM tys fn (endsQ (cBool.enc true) .none)) := by
  have e1 : (y1.drop 0).take n1 = y1 := by rw [List.drop_zero, List.take_of_length_le (by omega)]
  have hx := ex a0 y1 n1 c1 ty1 (rmacV [] y1)
  rw [e1] at hx
  exact Runs.of_exec tys_ok mixed hx ⟨by omega, hc1, by rw [mac_eq _ _ (by decide) (by rw [hy1]; omega)], by omega, hc1, by omega, hb1, rfl, lcop.selfEq_true _, trivial⟩ (EndsM.ret (res a0 y1 n1 c1 ty1 _) rfl)
end nw
namespace nn
noncomputable def e (a0 : Option Addr) (a1 : Option Addr) (A : B32) : St := outS Γ tys 100 body ⟨startT fn [.o (.a (.v (.slice a0 0 0))), .o (.a (.v (.slice a1 0 0)))], [], [(9, [.s (cB32.enc A)]), (12, [.s (cB32.enc A)]), (13, [.b true])]⟩
theorem ex (a0 : Option Addr) (a1 : Option Addr) (A : B32) : exec Γ tys 100 body ⟨startT fn [.o (.a (.v (.slice a0 0 0))), .o (.a (.v (.slice a1 0 0)))], [], [(9, [.s (cB32.enc A)]), (12, [.s (cB32.enc A)]), (13, [.b true])]⟩ = some (.ret, ⟨(e a0 a1 A).tm, (e a0 a1 A).mem, (e a0 a1 A).orc⟩, [cB32.enc (macV [] []) = cB32.enc A, cB32.enc (rmacV [] []) = cB32.enc A, lcop.selfEq A.to = true]) := by kernel_rfl
theorem res (a0 : Option Addr) (a1 : Option Addr) (A : B32) : eRes tys (e a0 a1 A).tm (fun k => (e a0 a1 A).mem[k]?) fn.results.toList = some [.a (bool1 true)] := by kernel_rfl
theorem walk (a0 : Option Addr) (a1 : Option Addr) : RunsF Tryd.prog Gs 0 body (startT fn [.o (.a (.v (.slice a0 0 0))), .o (.a (.v (.slice a1 0 0)))]) [] (EndsM tys fn (endsQ (cBool.enc true) .none)) := by
  have hx := ex a0 a1 (rmacV [] [])
  exact Runs.of_exec tys_ok mixed hx ⟨by rw [mac_eq _ _ (by decide) (by decide)], rfl, lcop.selfEq_true _, trivial⟩ (EndsM.ret (res a0 a1 _) rfl)
end nn
end lmac
theorem mac_ok (x0 x1 : SArg) (W : World) (h0 : x0.ok .u8 W) (h1 : x1.ok .u8 W) (b0 : x0.ints.length ≤ 140737488351232) (b1 : x1.ints.length ≤ 140737488351232) (hg : GlobOk Gs W) :
    Calls Tryd.prog 6 #[x0.val, x1.val] W fun e W' => e = .returned (.bool true) ∧ Below W.heap.size W W' := by
  have g0 := sarg_byt h0
  have g1 := sarg_byt h1
  refine law_slices tys_ok Tryd.func6 (c := lmac.body) (by kernel_rfl) hg .u8 [x0, x1] (fun y hy => by simp only [List.mem_cons, List.not_mem_nil, or_false] at hy; rcases hy with rfl | rfl <;> assumption) (r := cBool.enc true) rfl fun hi => ?_
  cases x0 with
  | none a0 =>
    cases x1 with
    | none a1 => exact lmac.nn.walk a0 a1
    | win y1 n1 c1 ty1 L1 => exact lmac.nw.walk a0 y1 n1 _ ty1 hi.2.1.1 hi.2.1.2 g1 (by have := hi.2.1.1; have b : y1.length ≤ 140737488351232 := b1; omega)
  | win y0 n0 c0 ty0 L0 =>
    cases x1 with
    | none a1 => exact lmac.wn.walk y0 n0 _ ty0 a1 hi.1.1 hi.1.2 g0 (by have := hi.1.1; have b : y0.length ≤ 140737488351232 := b0; omega)
    | win y1 n1 c1 ty1 L1 => exact lmac.ww.walk y0 n0 _ ty0 y1 n1 _ ty1 hi.1.1 hi.1.2 g0 (by have := hi.1.1; have b : y0.length ≤ 140737488351232 := b0; omega) hi.2.1.1 hi.2.1.2 g1 (by have := hi.2.1.1; have b : y1.length ≤ 140737488351232 := b1; omega)
end Go.Proofs.YtpmdelihcdaffaaDoor

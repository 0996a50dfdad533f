/- Package sha2: MAC walked, with its contract. -/
import Derived.Test.YtpmdelihcdaffaaDoorShaI
namespace Go.Proofs.YtpmdelihcdaffaaDoor
open Go Go.Eng Go.RowKit
set_option linter.unusedVariables false
set_option maxRecDepth 100000

/-- A key's cells: short, behind it zeros; long, its hash and zeros. -/
def kcell (zs : List Int) (j : Nat) : Int := cond (Nat.blt j zs.length) (zs.getD j 0) 0
def kshort (ys : List Int) (n : Nat) : Nat → Int := kcell (ys.take (Nat.min n 64))
def klong (b : B32) (j : Nat) : Int := (b.to ++ List.replicate 32 0).getD j 0
def xorK (K : Nat → Int) (x : Int) : List Int := restL (fun j => bits .xor .u8 (K j) x) 0 64
def macI (K : Nat → Int) (msg : List Int) : B32 := finB (absorb (absorb S0 (xorK K 54)) msg)
def macO (K : Nat → Int) (b : B32) : B32 := finB (absorb (absorb S0 (xorK K 92)) b.to)
theorem min64 (n : Nat) : 0 + Nat.min n 64 ≤ 64 := by
  rw [Nat.zero_add]
  exact Nat.min_le_right _ _
namespace mac
noncomputable abbrev fn := Tryd.f19
noncomputable def body : Code := bodyOf fn
noncomputable def Γ : Cons Tryd.prog Gs := [new_con, wr_con, sum_con, s256_con]

namespace Lw
noncomputable def s0 (y0 : List Int) (n0 c0 : Nat) (ty0 : TypeId) (y1 : List Int) (n1 c1 : Nat) (ty1 : TypeId) (B I : B32) : St := ⟨startT fn [.o (.a (.sld 0 0 0 n0 c0)), .o (.a (.sld 1 0 0 n1 c1))], [⟨false, ty0, .pre .u8 y0⟩, ⟨false, ty1, .pre .u8 y1⟩], [(14, [.b true]), (16, [.s (cB32.enc B)]), (51, [.s (cB32.enc I)])]⟩
noncomputable def e (y0 : List Int) (n0 c0 : Nat) (ty0 : TypeId) (y1 : List Int) (n1 c1 : Nat) (ty1 : TypeId) (B I : B32) : St := outS Γ tys 100 body (s0 y0 n0 c0 ty0 y1 n1 c1 ty1 B I)
theorem ex (y0 : List Int) (n0 c0 : Nat) (ty0 : TypeId) (y1 : List Int) (n1 c1 : Nat) (ty1 : TypeId) (B I : B32) : exec Γ tys 100 body (s0 y0 n0 c0 ty0 y1 n1 c1 ty1 B I) = some (.ret, ⟨(e y0 n0 c0 ty0 y1 n1 c1 ty1 B I).tm, (e y0 n0 c0 ty0 y1 n1 c1 ty1 B I).mem, (e y0 n0 c0 ty0 y1 n1 c1 ty1 B I).orc⟩, [decide ((n0 : Int) > 64) = true, 0 + n0 ≤ y0.length, n0 ≤ c0, cB32.enc (finB (absorb S0 ((y0.drop 0).take n0))) = cB32.enc B, 0 + 32 ≤ 32, 0 + Nat.min 32 64 ≤ 64, 0 + 64 ≤ 64, 64 ≤ 64, (0 : Int) ≤ 0, 0 + 32 ≤ 32, 0 + Nat.min 32 64 ≤ 64, 0 + 64 ≤ 64, 64 ≤ 64, (0 : Int) ≤ 0, 0 + n1 ≤ y1.length, n1 ≤ c1, 0 ≤ (absorb S0 (xorK (klong B) 54)).n, 0 ≤ (absorb (absorb S0 (xorK (klong B) 54)) ((y1.drop 0).take n1)).n, cB32.enc (macI (klong B) ((y1.drop 0).take n1)) = cB32.enc I, 0 + 32 ≤ 32, 32 ≤ 32, 0 ≤ (absorb S0 (xorK (klong B) 92)).n, 0 ≤ (absorb (absorb S0 (xorK (klong B) 92)) I.to).n]) := by kernel_rfl
theorem res (y0 : List Int) (n0 c0 : Nat) (ty0 : TypeId) (y1 : List Int) (n1 c1 : Nat) (ty1 : TypeId) (B I : B32) : eRes tys (e y0 n0 c0 ty0 y1 n1 c1 ty1 B I).tm (fun k => (e y0 n0 c0 ty0 y1 n1 c1 ty1 B I).mem[k]?) fn.results.toList = some [.g ((macO (klong B) I).to.map (int1 .u8))] := by kernel_rfl
theorem run (y0 : List Int) (n0 c0 : Nat) (ty0 : TypeId) (y1 : List Int) (n1 c1 : Nat) (ty1 : TypeId) (hy0 : y0.length = n0) (hc0 : n0 ≤ c0) (hk : 64 < n0) (hy1 : y1.length = n1) (hc1 : n1 ≤ c1) : RunsF Tryd.prog Gs 2 body (startT fn [.o (.a (.sld 0 0 0 n0 c0)), .o (.a (.sld 1 0 0 n1 c1))]) [⟨false, ty0, .pre .u8 y0⟩, ⟨false, ty1, .pre .u8 y1⟩] (EndsM tys fn (endsQ (cB32.enc (macO (klong (finB (absorb S0 y0))) (macI (klong (finB (absorb S0 y0))) y1))) .none)) := by
  have e0 : (y0.drop 0).take n0 = y0 := by rw [List.drop_zero, List.take_of_length_le (by omega)]
  have e1 : (y1.drop 0).take n1 = y1 := by rw [List.drop_zero, List.take_of_length_le (by omega)]
  have hx := ex y0 n0 c0 ty0 y1 n1 c1 ty1 (finB (absorb S0 y0)) (macI (klong (finB (absorb S0 y0))) y1)
  have hr := res y0 n0 c0 ty0 y1 n1 c1 ty1 (finB (absorb S0 y0)) (macI (klong (finB (absorb S0 y0))) y1)
  rw [e0, e1] at hx
  exact Runs.of_exec tys_ok mixed hx ⟨decide_eq_true (by omega), by omega, hc0, rfl, by decide, by decide, by decide, by decide, by decide, by decide, by decide, by decide, by decide, by decide, by omega, hc1, absorb_nn _ _ (by decide), absorb_nn _ _ (absorb_nn _ _ (by decide)), rfl, by decide, by decide, absorb_nn _ _ (by decide), absorb_nn _ _ (absorb_nn _ _ (by decide)), trivial⟩ (EndsM.ret hr rfl)
end Lw
namespace Ln
noncomputable def s0 (y0 : List Int) (n0 c0 : Nat) (ty0 : TypeId) (a1 : Option Addr) (B I : B32) : St := ⟨startT fn [.o (.a (.sld 0 0 0 n0 c0)), .o (.a (.v (.slice a1 0 0)))], [⟨false, ty0, .pre .u8 y0⟩], [(14, [.b true]), (16, [.s (cB32.enc B)]), (51, [.s (cB32.enc I)])]⟩
noncomputable def e (y0 : List Int) (n0 c0 : Nat) (ty0 : TypeId) (a1 : Option Addr) (B I : B32) : St := outS Γ tys 100 body (s0 y0 n0 c0 ty0 a1 B I)
theorem ex (y0 : List Int) (n0 c0 : Nat) (ty0 : TypeId) (a1 : Option Addr) (B I : B32) : exec Γ tys 100 body (s0 y0 n0 c0 ty0 a1 B I) = some (.ret, ⟨(e y0 n0 c0 ty0 a1 B I).tm, (e y0 n0 c0 ty0 a1 B I).mem, (e y0 n0 c0 ty0 a1 B I).orc⟩, [decide ((n0 : Int) > 64) = true, 0 + n0 ≤ y0.length, n0 ≤ c0, cB32.enc (finB (absorb S0 ((y0.drop 0).take n0))) = cB32.enc B, 0 + 32 ≤ 32, 0 + Nat.min 32 64 ≤ 64, 0 + 64 ≤ 64, 64 ≤ 64, (0 : Int) ≤ 0, 0 + 32 ≤ 32, 0 + Nat.min 32 64 ≤ 64, 0 + 64 ≤ 64, 64 ≤ 64, (0 : Int) ≤ 0, 0 ≤ (absorb S0 (xorK (klong B) 54)).n, 0 ≤ (absorb (absorb S0 (xorK (klong B) 54)) []).n, cB32.enc (macI (klong B) []) = cB32.enc I, 0 + 32 ≤ 32, 32 ≤ 32, 0 ≤ (absorb S0 (xorK (klong B) 92)).n, 0 ≤ (absorb (absorb S0 (xorK (klong B) 92)) I.to).n]) := by kernel_rfl
theorem res (y0 : List Int) (n0 c0 : Nat) (ty0 : TypeId) (a1 : Option Addr) (B I : B32) : eRes tys (e y0 n0 c0 ty0 a1 B I).tm (fun k => (e y0 n0 c0 ty0 a1 B I).mem[k]?) fn.results.toList = some [.g ((macO (klong B) I).to.map (int1 .u8))] := by kernel_rfl
theorem run (y0 : List Int) (n0 c0 : Nat) (ty0 : TypeId) (a1 : Option Addr) (hy0 : y0.length = n0) (hc0 : n0 ≤ c0) (hk : 64 < n0) : RunsF Tryd.prog Gs 1 body (startT fn [.o (.a (.sld 0 0 0 n0 c0)), .o (.a (.v (.slice a1 0 0)))]) [⟨false, ty0, .pre .u8 y0⟩] (EndsM tys fn (endsQ (cB32.enc (macO (klong (finB (absorb S0 y0))) (macI (klong (finB (absorb S0 y0))) []))) .none)) := by
  have e0 : (y0.drop 0).take n0 = y0 := by rw [List.drop_zero, List.take_of_length_le (by omega)]
  have hx := ex y0 n0 c0 ty0 a1 (finB (absorb S0 y0)) (macI (klong (finB (absorb S0 y0))) [])
  have hr := res y0 n0 c0 ty0 a1 (finB (absorb S0 y0)) (macI (klong (finB (absorb S0 y0))) [])
  rw [e0] at hx
  exact Runs.of_exec tys_ok mixed hx ⟨decide_eq_true (by omega), by omega, hc0, rfl, by decide, by decide, by decide, by decide, by decide, by decide, by decide, by decide, by decide, by decide, absorb_nn _ _ (by decide), absorb_nn _ _ (absorb_nn _ _ (by decide)), rfl, by decide, by decide, absorb_nn _ _ (by decide), absorb_nn _ _ (absorb_nn _ _ (by decide)), trivial⟩ (EndsM.ret hr rfl)
end Ln
namespace Sw
noncomputable def s0 (y0 : List Int) (n0 c0 : Nat) (ty0 : TypeId) (y1 : List Int) (n1 c1 : Nat) (ty1 : TypeId) (B I : B32) : St := ⟨startT fn [.o (.a (.sld 0 0 0 n0 c0)), .o (.a (.sld 1 0 0 n1 c1))], [⟨false, ty0, .pre .u8 y0⟩, ⟨false, ty1, .pre .u8 y1⟩], [(14, [.b false]), (51, [.s (cB32.enc I)])]⟩
noncomputable def e (y0 : List Int) (n0 c0 : Nat) (ty0 : TypeId) (y1 : List Int) (n1 c1 : Nat) (ty1 : TypeId) (B I : B32) : St := outS Γ tys 100 body (s0 y0 n0 c0 ty0 y1 n1 c1 ty1 B I)
theorem ex (y0 : List Int) (n0 c0 : Nat) (ty0 : TypeId) (y1 : List Int) (n1 c1 : Nat) (ty1 : TypeId) (B I : B32) : exec Γ tys 100 body (s0 y0 n0 c0 ty0 y1 n1 c1 ty1 B I) = some (.ret, ⟨(e y0 n0 c0 ty0 y1 n1 c1 ty1 B I).tm, (e y0 n0 c0 ty0 y1 n1 c1 ty1 B I).mem, (e y0 n0 c0 ty0 y1 n1 c1 ty1 B I).orc⟩, [decide ((n0 : Int) > 64) = false, 0 + n0 ≤ y0.length, 0 + Nat.min n0 64 ≤ 64, 0 + 64 ≤ 64, 64 ≤ 64, (0 : Int) ≤ 0, 0 + n0 ≤ y0.length, 0 + Nat.min n0 64 ≤ 64, 0 + 64 ≤ 64, 64 ≤ 64, (0 : Int) ≤ 0, 0 + n1 ≤ y1.length, n1 ≤ c1, 0 ≤ (absorb S0 (xorK (kshort ((y0.drop 0).take n0) n0) 54)).n, 0 ≤ (absorb (absorb S0 (xorK (kshort ((y0.drop 0).take n0) n0) 54)) ((y1.drop 0).take n1)).n, cB32.enc (macI (kshort ((y0.drop 0).take n0) n0) ((y1.drop 0).take n1)) = cB32.enc I, 0 + 32 ≤ 32, 32 ≤ 32, 0 ≤ (absorb S0 (xorK (kshort ((y0.drop 0).take n0) n0) 92)).n, 0 ≤ (absorb (absorb S0 (xorK (kshort ((y0.drop 0).take n0) n0) 92)) I.to).n]) := by kernel_rfl
theorem res (y0 : List Int) (n0 c0 : Nat) (ty0 : TypeId) (y1 : List Int) (n1 c1 : Nat) (ty1 : TypeId) (B I : B32) : eRes tys (e y0 n0 c0 ty0 y1 n1 c1 ty1 B I).tm (fun k => (e y0 n0 c0 ty0 y1 n1 c1 ty1 B I).mem[k]?) fn.results.toList = some [.g ((macO (kshort ((y0.drop 0).take n0) n0) I).to.map (int1 .u8))] := by kernel_rfl
theorem run (y0 : List Int) (n0 c0 : Nat) (ty0 : TypeId) (y1 : List Int) (n1 c1 : Nat) (ty1 : TypeId) (hy0 : y0.length = n0) (hc0 : n0 ≤ c0) (hk : n0 ≤ 64) (hy1 : y1.length = n1) (hc1 : n1 ≤ c1) : RunsF Tryd.prog Gs 2 body (startT fn [.o (.a (.sld 0 0 0 n0 c0)), .o (.a (.sld 1 0 0 n1 c1))]) [⟨false, ty0, .pre .u8 y0⟩, ⟨false, ty1, .pre .u8 y1⟩] (EndsM tys fn (endsQ (cB32.enc (macO (kshort y0 n0) (macI (kshort y0 n0) y1))) .none)) := by
  have e0 : (y0.drop 0).take n0 = y0 := by rw [List.drop_zero, List.take_of_length_le (by omega)]
  have e1 : (y1.drop 0).take n1 = y1 := by rw [List.drop_zero, List.take_of_length_le (by omega)]
  have hx := ex y0 n0 c0 ty0 y1 n1 c1 ty1 zeroB (macI (kshort y0 n0) y1)
  have hr := res y0 n0 c0 ty0 y1 n1 c1 ty1 zeroB (macI (kshort y0 n0) y1)
  rw [e0, e1] at hx
  rw [e0] at hr
  exact Runs.of_exec tys_ok mixed hx ⟨decide_eq_false (by omega), by omega, min64 n0, by decide, by decide, by decide, by omega, min64 n0, by decide, by decide, by decide, by omega, hc1, absorb_nn _ _ (by decide), absorb_nn _ _ (absorb_nn _ _ (by decide)), rfl, by decide, by decide, absorb_nn _ _ (by decide), absorb_nn _ _ (absorb_nn _ _ (by decide)), trivial⟩ (EndsM.ret hr rfl)
end Sw
namespace Sn
noncomputable def s0 (y0 : List Int) (n0 c0 : Nat) (ty0 : TypeId) (a1 : Option Addr) (B I : B32) : St := ⟨startT fn [.o (.a (.sld 0 0 0 n0 c0)), .o (.a (.v (.slice a1 0 0)))], [⟨false, ty0, .pre .u8 y0⟩], [(14, [.b false]), (51, [.s (cB32.enc I)])]⟩
noncomputable def e (y0 : List Int) (n0 c0 : Nat) (ty0 : TypeId) (a1 : Option Addr) (B I : B32) : St := outS Γ tys 100 body (s0 y0 n0 c0 ty0 a1 B I)
theorem ex (y0 : List Int) (n0 c0 : Nat) (ty0 : TypeId) (a1 : Option Addr) (B I : B32) : exec Γ tys 100 body (s0 y0 n0 c0 ty0 a1 B I) = some (.ret, ⟨(e y0 n0 c0 ty0 a1 B I).tm, (e y0 n0 c0 ty0 a1 B I).mem, (e y0 n0 c0 ty0 a1 B I).orc⟩, [decide ((n0 : Int) > 64) = false, 0 + n0 ≤ y0.length, 0 + Nat.min n0 64 ≤ 64, 0 + 64 ≤ 64, 64 ≤ 64, (0 : Int) ≤ 0, 0 + n0 ≤ y0.length, 0 + Nat.min n0 64 ≤ 64, 0 + 64 ≤ 64, 64 ≤ 64, (0 : Int) ≤ 0, 0 ≤ (absorb S0 (xorK (kshort ((y0.drop 0).take n0) n0) 54)).n, 0 ≤ (absorb (absorb S0 (xorK (kshort ((y0.drop 0).take n0) n0) 54)) []).n, cB32.enc (macI (kshort ((y0.drop 0).take n0) n0) []) = cB32.enc I, 0 + 32 ≤ 32, 32 ≤ 32, 0 ≤ (absorb S0 (xorK (kshort ((y0.drop 0).take n0) n0) 92)).n, 0 ≤ (absorb (absorb S0 (xorK (kshort ((y0.drop 0).take n0) n0) 92)) I.to).n]) := by kernel_rfl
theorem res (y0 : List Int) (n0 c0 : Nat) (ty0 : TypeId) (a1 : Option Addr) (B I : B32) : eRes tys (e y0 n0 c0 ty0 a1 B I).tm (fun k => (e y0 n0 c0 ty0 a1 B I).mem[k]?) fn.results.toList = some [.g ((macO (kshort ((y0.drop 0).take n0) n0) I).to.map (int1 .u8))] := by kernel_rfl
theorem run (y0 : List Int) (n0 c0 : Nat) (ty0 : TypeId) (a1 : Option Addr) (hy0 : y0.length = n0) (hc0 : n0 ≤ c0) (hk : n0 ≤ 64) : RunsF Tryd.prog Gs 1 body (startT fn [.o (.a (.sld 0 0 0 n0 c0)), .o (.a (.v (.slice a1 0 0)))]) [⟨false, ty0, .pre .u8 y0⟩] (EndsM tys fn (endsQ (cB32.enc (macO (kshort y0 n0) (macI (kshort y0 n0) []))) .none)) := by
  have e0 : (y0.drop 0).take n0 = y0 := by rw [List.drop_zero, List.take_of_length_le (by omega)]
  have hx := ex y0 n0 c0 ty0 a1 zeroB (macI (kshort y0 n0) [])
  have hr := res y0 n0 c0 ty0 a1 zeroB (macI (kshort y0 n0) [])
  rw [e0] at hx
  rw [e0] at hr
  exact Runs.of_exec tys_ok mixed hx ⟨decide_eq_false (by omega), by omega, min64 n0, by decide, by decide, by decide, by omega, min64 n0, by decide, by decide, by decide, absorb_nn _ _ (by decide), absorb_nn _ _ (absorb_nn _ _ (by decide)), rfl, by decide, by decide, absorb_nn _ _ (by decide), absorb_nn _ _ (absorb_nn _ _ (by decide)), trivial⟩ (EndsM.ret hr rfl)
end Sn
namespace Nw
noncomputable def s0 (a0 : Option Addr) (y1 : List Int) (n1 c1 : Nat) (ty1 : TypeId) (B I : B32) : St := ⟨startT fn [.o (.a (.v (.slice a0 0 0))), .o (.a (.sld 0 0 0 n1 c1))], [⟨false, ty1, .pre .u8 y1⟩], [(51, [.s (cB32.enc I)])]⟩
noncomputable def e (a0 : Option Addr) (y1 : List Int) (n1 c1 : Nat) (ty1 : TypeId) (B I : B32) : St := outS Γ tys 100 body (s0 a0 y1 n1 c1 ty1 B I)
theorem ex (a0 : Option Addr) (y1 : List Int) (n1 c1 : Nat) (ty1 : TypeId) (B I : B32) : exec Γ tys 100 body (s0 a0 y1 n1 c1 ty1 B I) = some (.ret, ⟨(e a0 y1 n1 c1 ty1 B I).tm, (e a0 y1 n1 c1 ty1 B I).mem, (e a0 y1 n1 c1 ty1 B I).orc⟩, [0 + Nat.min 0 64 ≤ 64, 0 + 64 ≤ 64, 64 ≤ 64, (0 : Int) ≤ 0, 0 + Nat.min 0 64 ≤ 64, 0 + 64 ≤ 64, 64 ≤ 64, (0 : Int) ≤ 0, 0 + n1 ≤ y1.length, n1 ≤ c1, 0 ≤ (absorb S0 (xorK (kshort [] 0) 54)).n, 0 ≤ (absorb (absorb S0 (xorK (kshort [] 0) 54)) ((y1.drop 0).take n1)).n, cB32.enc (macI (kshort [] 0) ((y1.drop 0).take n1)) = cB32.enc I, 0 + 32 ≤ 32, 32 ≤ 32, 0 ≤ (absorb S0 (xorK (kshort [] 0) 92)).n, 0 ≤ (absorb (absorb S0 (xorK (kshort [] 0) 92)) I.to).n]) := by kernel_rfl
theorem res (a0 : Option Addr) (y1 : List Int) (n1 c1 : Nat) (ty1 : TypeId) (B I : B32) : eRes tys (e a0 y1 n1 c1 ty1 B I).tm (fun k => (e a0 y1 n1 c1 ty1 B I).mem[k]?) fn.results.toList = some [.g ((macO (kshort [] 0) I).to.map (int1 .u8))] := by kernel_rfl
theorem run (a0 : Option Addr) (y1 : List Int) (n1 c1 : Nat) (ty1 : TypeId) (hy1 : y1.length = n1) (hc1 : n1 ≤ c1) : RunsF Tryd.prog Gs 1 body (startT fn [.o (.a (.v (.slice a0 0 0))), .o (.a (.sld 0 0 0 n1 c1))]) [⟨false, ty1, .pre .u8 y1⟩] (EndsM tys fn (endsQ (cB32.enc (macO (kshort [] 0) (macI (kshort [] 0) y1))) .none)) := by
  have e1 : (y1.drop 0).take n1 = y1 := by rw [List.drop_zero, List.take_of_length_le (by omega)]
  have hx := ex a0 y1 n1 c1 ty1 zeroB (macI (kshort [] 0) y1)
  have hr := res a0 y1 n1 c1 ty1 zeroB (macI (kshort [] 0) y1)
  rw [e1] at hx
  exact Runs.of_exec tys_ok mixed hx ⟨by decide, by decide, by decide, by decide, by decide, by decide, by decide, by decide, by omega, hc1, absorb_nn _ _ (by decide), absorb_nn _ _ (absorb_nn _ _ (by decide)), rfl, by decide, by decide, absorb_nn _ _ (by decide), absorb_nn _ _ (absorb_nn _ _ (by decide)), trivial⟩ (EndsM.ret hr rfl)
end Nw
namespace Nn
noncomputable def s0 (a0 : Option Addr) (a1 : Option Addr) (B I : B32) : St := ⟨startT fn [.o (.a (.v (.slice a0 0 0))), .o (.a (.v (.slice a1 0 0)))], [], [(51, [.s (cB32.enc I)])]⟩
noncomputable def e (a0 : Option Addr) (a1 : Option Addr) (B I : B32) : St := outS Γ tys 100 body (s0 a0 a1 B I)
theorem ex (a0 : Option Addr) (a1 : Option Addr) (B I : B32) : exec Γ tys 100 body (s0 a0 a1 B I) = some (.ret, ⟨(e a0 a1 B I).tm, (e a0 a1 B I).mem, (e a0 a1 B I).orc⟩, [0 + Nat.min 0 64 ≤ 64, 0 + 64 ≤ 64, 64 ≤ 64, (0 : Int) ≤ 0, 0 + Nat.min 0 64 ≤ 64, 0 + 64 ≤ 64, 64 ≤ 64, (0 : Int) ≤ 0, 0 ≤ (absorb S0 (xorK (kshort [] 0) 54)).n, 0 ≤ (absorb (absorb S0 (xorK (kshort [] 0) 54)) []).n, cB32.enc (macI (kshort [] 0) []) = cB32.enc I, 0 + 32 ≤ 32, 32 ≤ 32, 0 ≤ (absorb S0 (xorK (kshort [] 0) 92)).n, 0 ≤ (absorb (absorb S0 (xorK (kshort [] 0) 92)) I.to).n]) := by kernel_rfl
theorem res (a0 : Option Addr) (a1 : Option Addr) (B I : B32) : eRes tys (e a0 a1 B I).tm (fun k => (e a0 a1 B I).mem[k]?) fn.results.toList = some [.g ((macO (kshort [] 0) I).to.map (int1 .u8))] := by kernel_rfl
theorem run (a0 : Option Addr) (a1 : Option Addr) : RunsF Tryd.prog Gs 0 body (startT fn [.o (.a (.v (.slice a0 0 0))), .o (.a (.v (.slice a1 0 0)))]) [] (EndsM tys fn (endsQ (cB32.enc (macO (kshort [] 0) (macI (kshort [] 0) []))) .none)) := by
  have hx := ex a0 a1 zeroB (macI (kshort [] 0) [])
  have hr := res a0 a1 zeroB (macI (kshort [] 0) [])
  exact Runs.of_exec tys_ok mixed hx ⟨by decide, by decide, by decide, by decide, by decide, by decide, by decide, by decide, absorb_nn _ _ (by decide), absorb_nn _ _ (absorb_nn _ _ (by decide)), rfl, by decide, by decide, absorb_nn _ _ (by decide), absorb_nn _ _ (absorb_nn _ _ (by decide)), trivial⟩ (EndsM.ret hr rfl)
end Nn
end mac
end Go.Proofs.YtpmdelihcdaffaaDoor

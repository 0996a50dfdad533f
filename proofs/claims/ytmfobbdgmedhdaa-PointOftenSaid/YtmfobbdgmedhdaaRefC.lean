/- Package beaconref02: powers, inverses, roots, and the calls on bytes. -/
import Derived.Test.YtmfobbdgmedhdaaRefT
namespace Go.Proofs.Ytmfobbdgmedhdaa
open Go Go.Eng
set_option linter.unusedVariables false
set_option maxRecDepth 100000

def tabL {α : Type} (f : Nat → α) : Nat → List α
  | 0 => []
  | n + 1 => f n :: tabL f n
def tabR {α : Type} (f : Nat → α) : Nat → List α
  | 0 => []
  | n + 1 => f n :: tabR f n
theorem tab_get {α : Type} {f g : Nat → α} : ∀ {n : Nat}, tabL f n = tabR g n → ∀ j, j < n → f j = g j
  | 0, _, j, hj => by omega
  | n + 1, h, j, hj => by
    simp only [tabL, tabR, List.cons.injEq] at h
    by_cases hjn : j = n
    · subst hjn; exact h.1
    · exact tab_get h.2 j (by omega)

def at4 (e : N4) : Nat → Int
  | 0 => e.l0
  | 1 => e.l1
  | 2 => e.l2
  | _ => e.l3
def bitW (e : N4) (j : Nat) : Bool := (andU (shrU (at4 e (j / 64)) (j % 64)) 1) == 1
noncomputable def powS (a e : N4) : Nat → N4 → N4
  | 0, o => o
  | k + 1, o => powS a e k (match bitW e k with
    | true => timesN (timesN o o) a
    | false => timesN o o)
def one4 : N4 := ⟨1, 0, 0, 0⟩
noncomputable def powN (a e : N4) : N4 := powS a e 256 one4

namespace power
noncomputable abbrev fn := Try.f92
noncomputable def body : Code := bodyOf fn
noncomputable def A : Code := cs1 body
noncomputable def B : Code := cs1 (cs2 body)
noncomputable def C : Code := cs1 (cs1 (cs2 (cs2 body)))
noncomputable def L : Code := cL (cB (cs2 (cs1 (cs2 (cs2 body)))))
noncomputable def D : Code := cs2 (cs2 (cs2 body))
theorem body_eq : body = .seq A (.seq B (.seq (.seq C (.block 0 (.loop L))) D)) := by kernel_rfl
noncomputable def Γ : Cons Try.prog := [rsmall_con, rtimes_con]
structure X where
  k : Nat
  o : N4
  g : Nat → SV
noncomputable def S (a e : N4) (x : X) : List SV × List Blk :=
  ([cN4.enc a, cN4.enc e, .o (.a (.ptr 0 0)), .o (.a (.ptr 1 0)), .o (.a (.ptr 2 0)), .o (.a (.ptr 3 0)), (cInt .i64).enc ((x.k : Int) - 1), cN4.enc one4, x.g 8, x.g 9, x.g 10, x.g 11, x.g 12, x.g 13, x.g 14, x.g 15, x.g 16, x.g 17, x.g 18, x.g 19, x.g 20, x.g 21, x.g 22, x.g 23, x.g 24, x.g 25, x.g 26, x.g 27, undefS],
   [⟨true, 47, cN4.row a⟩, ⟨true, 47, cN4.row e⟩, ⟨true, 47, cN4.row ⟨0, 0, 0, 0⟩⟩, ⟨true, 47, cN4.row x.o⟩])
noncomputable def st (a e : N4) (x : X) (o : Orc) : St := ⟨(S a e x).1, (S a e x).2, o⟩
noncomputable def s0 (a e : N4) : St := ⟨startT fn [cN4.enc a, cN4.enc e], [], []⟩
theorem preA (a e : N4) : exec Γ tys 100 A (s0 a e) = some (.normal, outS Γ tys 100 A (s0 a e), []) := by kernel_rfl
theorem preB (a e : N4) : exec Γ tys 100 B (outS Γ tys 100 A (s0 a e)) = some (.normal, outS Γ tys 100 B (outS Γ tys 100 A (s0 a e)), []) := by kernel_rfl
theorem preC (a e : N4) : exec Γ tys 100 C (outS Γ tys 100 B (outS Γ tys 100 A (s0 a e))) = some (.normal, st a e ⟨256, one4, fun _ => undefS⟩ [], []) := by kernel_rfl
theorem tab1 (a e o : N4) (g : Nat → SV) : tabL (fun j => exec Γ tys 100 L (st a e ⟨j + 1, o, g⟩ [(24, [true])])) 256 =
    tabR (fun j => some (.normal, st a e ⟨j, timesN (timesN o o) a, outT Γ tys 100 L (st a e ⟨j + 1, o, g⟩ [(24, [true])])⟩ [(24, [])], [N4Ok o, N4Ok o, bitW e j = true, N4Ok (timesN o o), N4Ok a])) 256 := by kernel_rfl
theorem tab0 (a e o : N4) (g : Nat → SV) : tabL (fun j => exec Γ tys 100 L (st a e ⟨j + 1, o, g⟩ [(24, [false])])) 256 =
    tabR (fun j => some (.normal, st a e ⟨j, timesN o o, outT Γ tys 100 L (st a e ⟨j + 1, o, g⟩ [(24, [false])])⟩ [(24, [])], [N4Ok o, N4Ok o, bitW e j = false])) 256 := by kernel_rfl
theorem last (a e o : N4) (g : Nat → SV) : exec Γ tys 100 L (st a e ⟨0, o, g⟩ []) =
    some (.exit 0, st a e ⟨0, o, outT Γ tys 100 L (st a e ⟨0, o, g⟩ [])⟩ [], []) := by kernel_rfl
noncomputable def fin (a e o : N4) (g : Nat → SV) : St := outS Γ tys 100 D (st a e ⟨0, o, g⟩ [])
theorem post (a e o : N4) (g : Nat → SV) : exec Γ tys 100 D (st a e ⟨0, o, g⟩ []) = some (.ret, fin a e o g, []) := by kernel_rfl
theorem result (a e o : N4) (g : Nat → SV) : eRes tys (fin a e o g).tm (fun k => (fin a e o g).mem[k]?) fn.results.toList = some [.g (cN4.row o)] := by kernel_rfl
end power

theorem rpower_fn (a e : N4) (hp : Holds [N4Ok a]) : FnOk Try.prog 92 [cN4.enc a, cN4.enc e] (cN4.enc (powN a e)) := by
  have ha : N4Ok a := hp.1
  refine FnOk.of_runs tys_ok Try.func92 (c := power.body) (by kernel_rfl) ?_ rfl rfl
  rw [power.body_eq]
  refine Runs.seq (Runs.of_exec tys_ok mixed (power.preA a e) trivial ?_)
  refine Runs.seq (Runs.of_exec tys_ok mixed (power.preB a e) trivial ?_)
  refine Runs.seq (Runs.seq (Runs.of_exec tys_ok mixed (power.preC a e) trivial ?_))
  refine Runs.block ?_
  refine Runs.loop (power.S a e) (fun x => x.k ≤ 256 ∧ N4Ok x.o ∧ powS a e x.k x.o = powN a e) (fun x => x.k) ?_ ⟨256, one4, fun _ => undefS⟩ ⟨Nat.le_refl _, by unfold N4Ok Word; decide, rfl⟩
  rintro ⟨k, o, g⟩ ⟨hk, ho, hr⟩
  cases k with
  | zero =>
    refine Runs.of_exec tys_ok mixed (power.last a e o g) trivial ?_
    show Runs Try.prog power.D _ _ _
    refine Runs.of_exec tys_ok mixed (power.post a e o _) trivial (Ends.ret (power.result a e o _) ?_)
    rw [← hr]
    rfl
  | succ k =>
    have hoo := timesN_val ho ho
    cases hb : bitW e k with
    | true =>
      refine Runs.of_exec tys_ok mixed (tab_get (power.tab1 a e o g) k (by simp only at hk; omega)) ⟨ho, ho, hb, hoo.1, ha, trivial⟩ ?_
      refine ⟨_, rfl, ⟨by simp only at hk ⊢; omega, (timesN_val hoo.1 ha).1, ?_⟩, Nat.lt_succ_self _⟩
      rw [← hr]
      simp only [powS, hb]
    | false =>
      refine Runs.of_exec tys_ok mixed (tab_get (power.tab0 a e o g) k (by simp only at hk; omega)) ⟨ho, ho, hb, trivial⟩ ?_
      refine ⟨_, rfl, ⟨by simp only at hk ⊢; omega, hoo.1, ?_⟩, Nat.lt_succ_self _⟩
      rw [← hr]
      simp only [powS, hb]
noncomputable def rpower_con : Con Try.prog := con2 92 Try.f92 Try.func92 (by kernel_rfl) (by kernel_rfl) (cN4) (cN4) (fun a e => cN4.enc (powN a e)) (fun a e => [N4Ok a]) (fun _ _ => rfl) (fun a e h => rpower_fn a e h)
end Go.Proofs.Ytmfobbdgmedhdaa

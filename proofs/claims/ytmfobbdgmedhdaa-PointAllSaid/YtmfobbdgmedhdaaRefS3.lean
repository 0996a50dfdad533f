/- Package beaconref03: products modulo the order. -/
import Derived.Test.YtmfobbdgmedhdaaRefS2
namespace Go.Proofs.Ytmfobbdgmedhdaa
open Go Go.Eng
set_option linter.unusedVariables false
set_option maxRecDepth 100000

namespace smul
noncomputable abbrev fn := Try.f36
noncomputable def body : Code := bodyOf fn
noncomputable def A : Code := cs1 body
noncomputable def B : Code := cs1 (cs2 body)
noncomputable def B2 : Code := cs1 (cs2 (cs2 body))
noncomputable def C : Code := cs1 (cs1 (cs2 (cs2 (cs2 body))))
noncomputable def L : Code := cL (cB (cs2 (cs1 (cs2 (cs2 (cs2 body))))))
noncomputable def D : Code := cs2 (cs2 (cs2 (cs2 body)))
theorem body_eq : body = .seq A (.seq B (.seq B2 (.seq (.seq C (.block 0 (.loop L))) D))) := by kernel_rfl
noncomputable def Γ : Cons Try.prog := [smod_con, splus_con, sbytes_con]
noncomputable def S (a b c : B32) (x y : N4) (k : Nat) (o : N4) (g : Nat → SV) : List SV × List Blk := ([cB32.enc a, cB32.enc b, cB32.enc c, .o (.a (.ptr 0 0)), .o (.a (.ptr 1 0)), .o (.a (.ptr 2 0)), .o (.a (.ptr 3 0)), .o (.a (.ptr 4 0)), .o (.a (.ptr 5 0)), .o (.a (.ptr 6 0)), (cInt .i64).enc ((k : Int) - 1), g 11, g 12, g 13, g 14, g 15, g 16, g 17, g 18, g 19, g 20, g 21, g 22, g 23, g 24, g 25, g 26, g 27, g 28, g 29, g 30, g 31, g 32, g 33, g 34, g 35, g 36, g 37, g 38, g 39], [⟨true, 22, cB32.row a⟩, ⟨true, 22, cB32.row b⟩, ⟨true, 22, cB32.row c⟩, ⟨true, 22, cB32.row zeroB⟩, ⟨true, 65, cN4.row x⟩, ⟨true, 65, cN4.row y⟩, ⟨true, 65, cN4.row o⟩])
noncomputable def st (a b c : B32) (x y : N4) (k : Nat) (o : N4) (g : Nat → SV) (r : Orc) : St := ⟨(S a b c x y k o g).1, (S a b c x y k o g).2, r⟩
noncomputable def s0 (a b c : B32) (x y : N4) : St := ⟨startT fn [cB32.enc a, cB32.enc b, cB32.enc c], [], []⟩
noncomputable def s1 (a b c : B32) (x y : N4) : St := outS Γ tys 100 A (s0 a b c x y)
theorem preA (a b c : B32) (x y : N4) : exec Γ tys 100 A (s0 a b c x y) = some (.normal, ⟨(s1 a b c x y).tm, (s1 a b c x y).mem, []⟩, []) := by kernel_rfl
noncomputable def s2 (a b c : B32) (x y : N4) : St := outS Γ tys 100 B ⟨(s1 a b c x y).tm, (s1 a b c x y).mem, [(12, [.s (cN4.enc x)]), (14, [.s (cN4.enc y)])]⟩
theorem preB (a b c : B32) (x y : N4) : exec Γ tys 100 B ⟨(s1 a b c x y).tm, (s1 a b c x y).mem, [(12, [.s (cN4.enc x)]), (14, [.s (cN4.enc y)])]⟩ = some (.normal, ⟨(s2 a b c x y).tm, (s2 a b c x y).mem, [(12, []), (14, [])]⟩, [cN4.enc (modN a) = cN4.enc x, cN4.enc (modN b) = cN4.enc y]) := by kernel_rfl
noncomputable def s3 (a b c : B32) (x y : N4) : St := outS Γ tys 100 B2 (s2 a b c x y)
theorem preB2 (a b c : B32) (x y : N4) : exec Γ tys 100 B2 ⟨(s2 a b c x y).tm, (s2 a b c x y).mem, []⟩ = some (.normal, ⟨(s3 a b c x y).tm, (s3 a b c x y).mem, []⟩, []) := by kernel_rfl
theorem preC (a b c : B32) (x y : N4) : exec Γ tys 100 C ⟨(s3 a b c x y).tm, (s3 a b c x y).mem, []⟩ = some (.normal, st a b c x y 256 zero4 (outT Γ tys 100 C (s3 a b c x y)) [], []) := by kernel_rfl
theorem tab1 (a b c : B32) (x y : N4) (o : N4) (g : Nat → SV) : tabL (fun j => exec Γ tys 100 L (st a b c x y (j + 1) o g [(31, [true])])) 256 = tabR (fun j => some (.normal, st a b c x y j (plusL (plusL o o) y) (outT Γ tys 100 L (st a b c x y (j + 1) o g [(31, [true])])) [(31, [])], [N4Ok o, N4Ok o, bitW x j = true, N4Ok (plusL o o), N4Ok y])) 256 := by kernel_rfl
theorem tab0 (a b c : B32) (x y : N4) (o : N4) (g : Nat → SV) : tabL (fun j => exec Γ tys 100 L (st a b c x y (j + 1) o g [(31, [false])])) 256 = tabR (fun j => some (.normal, st a b c x y j (plusL o o) (outT Γ tys 100 L (st a b c x y (j + 1) o g [(31, [false])])) [(31, [])], [N4Ok o, N4Ok o, bitW x j = false])) 256 := by kernel_rfl
theorem last (a b c : B32) (x y : N4) (o : N4) (g : Nat → SV) : exec Γ tys 100 L (st a b c x y 0 o g []) = some (.exit 0, st a b c x y 0 o (outT Γ tys 100 L (st a b c x y 0 o g [])) [], []) := by kernel_rfl
noncomputable def fin (a b c : B32) (x y : N4) (o : N4) (g : Nat → SV) : St := outS Γ tys 100 D (st a b c x y 0 o g [])
theorem post (a b c : B32) (x y : N4) (o : N4) (g : Nat → SV) : exec Γ tys 100 D (st a b c x y 0 o g []) = some (.ret, ⟨(fin a b c x y o g).tm, (fin a b c x y o g).mem, []⟩, [N4Ok o, N4Ok (modN c)]) := by kernel_rfl
theorem result (a b c : B32) (x y : N4) (o : N4) (g : Nat → SV) : eRes tys (fin a b c x y o g).tm (fun k => (fin a b c x y o g).mem[k]?) fn.results.toList = some [.g (cB32.row (bytes4 (plusL o (modN c))))] := by kernel_rfl
end smul
noncomputable def smulN (a b : B32) : N4 := mulS (modN a) (modN b) 256 zero4
noncomputable def smulB (a b c : B32) : B32 := bytes4 (plusL (smulN a b) (modN c))
theorem smul_loop (a b c : B32) (x y : N4) (hy : N4Ok y) (g : Nat → SV) {Post : Ex → List SV → List Blk → Prop} (hp : ∀ o g', N4Ok o → o = mulS x y 256 zero4 → Post .normal (smul.S a b c x y 0 o g').1 (smul.S a b c x y 0 o g').2) :
    Runs Try.prog (.block 0 (.loop smul.L)) (smul.S a b c x y 256 zero4 g).1 (smul.S a b c x y 256 zero4 g).2 Post := by
  refine Runs.block ?_
  refine Runs.loop (fun (t : Nat × N4 × (Nat → SV)) => smul.S a b c x y t.1 t.2.1 t.2.2) (fun t => t.1 ≤ 256 ∧ N4Ok t.2.1 ∧ mulS x y t.1 t.2.1 = mulS x y 256 zero4) (fun t => t.1) ?_ (256, zero4, g) ⟨Nat.le_refl _, zero4_ok, rfl⟩
  rintro ⟨k, o, g⟩ ⟨hk, ho, hr⟩
  simp only at hk ho hr
  cases k with
  | zero =>
    rw [mulS] at hr
    exact Runs.of_exec tys_ok mixed (smul.last a b c x y o g) trivial (hp _ _ ho hr)
  | succ k =>
    have hoo := plusL_ok ho ho
    cases hb : bitW x k with
    | true =>
      exact Runs.of_exec tys_ok mixed (tab_get (smul.tab1 a b c x y o g) k (by omega)) ⟨ho, ho, hb, hoo, hy, trivial⟩
        ⟨(k, plusL (plusL o o) y, outT smul.Γ tys 100 smul.L (smul.st a b c x y (k + 1) o g [(31, [true])])), pair_eta' _, ⟨by simp only; omega, plusL_ok hoo hy, by rw [← hr]; simp only [mulS, hb]⟩, Nat.lt_succ_self _⟩
    | false =>
      exact Runs.of_exec tys_ok mixed (tab_get (smul.tab0 a b c x y o g) k (by omega)) ⟨ho, ho, hb, trivial⟩
        ⟨(k, plusL o o, outT smul.Γ tys 100 smul.L (smul.st a b c x y (k + 1) o g [(31, [false])])), pair_eta' _, ⟨by simp only; omega, hoo, by rw [← hr]; simp only [mulS, hb]⟩, Nat.lt_succ_self _⟩
theorem smul_last (a b c : B32) (x y o : N4) (g : Nat → SV) (ho : N4Ok o) : Runs Try.prog smul.D (smul.S a b c x y 0 o g).1 (smul.S a b c x y 0 o g).2 (Go.Eng.Ends tys smul.fn (cB32.enc (bytes4 (plusL o (modN c))))) :=
  Runs.of_exec tys_ok mixed (smul.post a b c x y o g) ⟨ho, modN_ok c, trivial⟩ (Ends.ret (smul.result a b c x y o g) rfl)
theorem smul_fn (a b c : B32) : FnOk Try.prog 36 [cB32.enc a, cB32.enc b, cB32.enc c] (cB32.enc (smulB a b c)) := by
  refine FnOk.of_runs tys_ok Try.func36 (c := smul.body) (by kernel_rfl) ?_ rfl rfl
  rw [smul.body_eq]
  refine Runs.seq (Runs.of_exec tys_ok mixed (smul.preA a b c (modN a) (modN b)) trivial ?_)
  refine Runs.seq (Runs.of_exec tys_ok mixed (smul.preB a b c (modN a) (modN b)) ⟨rfl, rfl, trivial⟩ ?_)
  refine Runs.seq (Runs.of_exec tys_ok mixed (smul.preB2 a b c (modN a) (modN b)) trivial ?_)
  refine Runs.seq (Runs.seq (Runs.of_exec tys_ok mixed (smul.preC a b c (modN a) (modN b)) trivial ?_))
  refine smul_loop a b c (modN a) (modN b) (modN_ok b) _ fun o g' ho hr => ?_
  have he := smul_last a b c (modN a) (modN b) o g' ho
  rw [hr] at he ⊢
  exact he
noncomputable def smul_con : Con Try.prog := con3 36 Try.f36 Try.func36 (by kernel_rfl) (by kernel_rfl) (cB32) (cB32) (cB32) (fun a b c => cB32.enc (smulB a b c)) (fun _ _ _ => []) (fun _ _ _ => rfl) (fun a b c _ => smul_fn a b c)
end Go.Proofs.Ytmfobbdgmedhdaa
